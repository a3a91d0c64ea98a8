import Derived.Deep.DeepCutAuto
import Derived.Deep.RegionLaw
import Derived.Lib.AppendZerosOnto
import Derived.Lib.SliceRun
import Derived.Lib.Walk
import Derived.Test.YthekkgfmagliiaaGreatDoorNames2
set_option maxHeartbeats 2000000
set_option linter.unusedVariables false
set_option linter.unusedSimpArgs false
set_option linter.unusedSectionVars false
open Bool renaming decide_and->Rs
open Int renaming ofNat_lt->Ru,reduceEq->Rv,ofNat_le->Rw
open List renaming getElem?_eq_getElem->Rx,take_left->Ry,length_map->Rz,length->RA,take_of_length_le->RB,getElem_mem->RC,length_append->RD,map_append->RE,take_add_one->RF,map_cons->RG,length_cons->RH,sum_append->RI,length_flatten->RJ,getElem?_map->RK,take_length->RL,getElem_map->RM,length_nil->RN,map_map->RO,getElem_cons_zero->RP,take_append_drop->RQ,getElem_range->RR,length_take->RS,cons_append->RU,foldl_cons->RW,sum_cons->RX,range->RY,map->RZ
open Nat renaming le_refl->R0,zero_add->R5,zero_le->R6
namespace Go.Proofs.YthekkgfmagliiaaGreatDoor
open Go.RowKit
open Nat renaming reduceLeDiff -> jA, reduceBEq -> jB, reduceLT -> jC, reduceEqDiff -> jD, reduceAdd -> jE, reduceSub -> jF, reduceMul -> jG
open V renaming copy -> jV, lend -> jW, lend1 -> jX, cells -> jY, boxable -> jZ
def St5(b:Nat)(v0 v1 v2 v3 v4:Value)(w:World):Prop:=w.heap[b]? = some (.cells #[v0,v1,v2,v3,v4] 115 (0,0))
section
variable {b : Nat} {v0 v1 v2 v3 v4 : Value} {w : World} (h : St5 b v0 v1 v2 v3 v4 w)
include h
end
structure See where
 nodes:Int
 deep:Int
 first:Int
 vars:List ByteArray
 arrs:List ByteArray
structure SeeIn(b:Nat)(N:List ByteArray)(O:Nat->Prop)(x:See)(w:World)(va vr:Value):Prop where
 own:∀k,O k↔(k=b\/va.ownBlock=some k\/vr.ownBlock=some k)
 st:St5 b (.int .i64 x.nodes) (.int .i64 x.deep) (.int .i64 x.first) va vr w
 rowA:w.ownsRow 0 9 1 va x.vars.length (x.vars.map Value.string)
 rowR:w.ownsRow 0 9 1 vr x.arrs.length (x.arrs.map Value.string)
 neA:∀k,va.ownBlock=some k->b<k
 neR:∀k,vr.ownBlock=some k->b<k
 apart:∀k,va.ownBlock=some k->vr.ownBlock≠some k
 nodA:x.vars.Nodup
 subA:∀s,s∈x.vars->s∈N
 nodR:x.arrs.Nodup
 subR:∀s,s∈x.arrs->s∈N
section
variable {b : Nat} {N : List ByteArray} {O : Nat -> Prop} {x : See} {w : World} {va vr : Value} (h : SeeIn b N O x w va vr)
include h
end
end Go.Proofs.YthekkgfmagliiaaGreatDoor
namespace Go.Proofs.YthekkgfmagliiaaGreatDoor
open Go.RowKit
open Nat renaming reduceLeDiff -> jA, reduceBEq -> jB, reduceLT -> jC, reduceEqDiff -> jD, reduceAdd -> jE, reduceSub -> jF, reduceMul -> jG
open V renaming copy -> jV, lend -> jW, lend1 -> jX, cells -> jY, boxable -> jZ
theorem D4(e:Ex):eu e≤bF e:=by
 induction e using Ex.ind with
 | h o m s l ih=>
 simp only[eu,bF]
 suffices H:∀(r:List Ex),(∀a,a∈r->a∈l)->dU r≤bt r by have:=H l (fun _ h=>h);omega
 intro r
 induction r with
 | nil=>intro _;simp[dU,bt]
 | cons a r ihr=>
  intro hm;have h1:=ih a (hm a (by simp));have h2:=ihr (fun x hx=>hm x (by simp[hx]));simp only[dU,bt];omega
mutual
def dex:Ex->List D
 | .mk o n s l=>[ab o,ab n,ae s,.sl (Is l)]
def Is:List Ex->LLD
 | []=>[]
 | a::r=>dex a::Is r
end
theorem wD(l:List Ex):Is l=l.map dex:=by
 induction l with
 | nil=>rfl
 | cons a r ih=>simp only[Is,ih,RG]
theorem bB(e:Ex):dex e=[ab e.op,ab e.num,ae e.name,.sl (e.args.map dex)]:=by
 cases e;simp only[dex,wD,Ex.op,Ex.num,Ex.name,Ex.args]
def vex(e:Ex):V:=.agg ((dex e).map V.d)
theorem ak(e:Ex):vex e=.agg [.d (ab e.op),.d (ab e.num),.d (ae e.name),.d (.sl (e.args.map dex))]:=by
 unfold vex;rw[bB];rfl
section
variable {M : an} {w : World}
theorem Gi(hM:M.hold w)(e:Ex):∀(vs:List Value),vs.length=(dex e).length->(∀i (h:i<(dex e).length) (h':i<vs.length),DRep M (dex e)[i] vs[i])->ExRep w e vs:=by
 induction e using Ex.ind with
 | h o n s l ih=>
 intro vs hl hr;simp only[dex,wD]at hl hr
 match vs,hl with
 | [v0,v1,v2,v3],_=>
 have r0:=hr 0 (by simp) (by simp);have r1:=hr 1 (by simp) (by simp);have r2:=hr 2 (by simp) (by simp);have r3:=hr 3 (by simp) (by simp);simp only[RP,List.getElem_cons_succ,ab,ae]at r0 r1 r2 r3;cases r0 with|lit _ h0=>
 cases r1 with|lit _ h1=>
 cases r2 with|lit _ h2=>
 cases r3 with
 | sl _ k p cap val hk hd hf hc hm=>
 have hlen:(l.map dex).length=l.length:=by simp
 have h4:∀a:Ex,(dex a).length=4:=fun a=>by rw[bB];rfl
 refine .mk o n s l _ ((RY l.length).map fun i=>(RY 4).map fun j=>val i j) (by simp) (fun i h h'=>?_) ?_ ?_ ?_ h2
 .simp only[RM,RR];refine ih _ (RC h) _ (by rw[h4];simp) (fun j g g'=>?_);simp only[RM,RR];have:=hd i j (by simpa using h) (by simpa using g);simpa using this
 .refine⟨p,cap,by simp,by simpa using hc,hm,fun i cs hi=>?_⟩;rw[RK]at hi;obtain⟨q,hq,rfl⟩:=Option.map_eq_some_iff.1 hi;have hql:=(List.getElem?_eq_some_iff.1 hq).1;have hqe:q=i:=by have:=(List.getElem?_eq_some_iff.1 hq).2;simpa using this.symm
  subst hqe;have hlt:q<(l.map dex).length:=by simpa using hql
  obtain⟨b,off,h5,h6⟩:=hf q hlt;have hk4:k=4:=by rw[<-hk _ (RC hlt)];simp[h4]
  subst hk4;refine⟨b,off,h5,by simp,fun j v hj=>?_⟩;rw[RK]at hj;obtain⟨j',hj',rfl⟩:=Option.map_eq_some_iff.1 hj;have hjl:=(List.getElem?_eq_some_iff.1 hj').1;have hje:j'=j:=by have:=(List.getElem?_eq_some_iff.1 hj').2;simpa using this.symm
  subst hje;exact hM _ _ _ (h6 j' (by simpa using hjl))
 .simp only[dQ,IntKind.min,IntKind.max,IntKind.signed,IntKind.bits]at h0;simpa using h0
 .simp only[dQ,IntKind.min,IntKind.max,IntKind.signed,IntKind.bits]at h1;simpa using h1
theorem qY{bm:List Nat}(hM:M.hold w){e:Ex}{v:Value}(h:Rep M bm (vex e) v):jg w e v:=by
 unfold vex at h;generalize hcs:(dex e).map V.d=cs at h;cases h with
 | @agg _ vs hl hh h1=>
 refine⟨vs,Gi hM e vs (by rw[hl,<-hcs];simp) (fun i g g'=>?_),rfl⟩;have:=hh i (by rw[<-hcs];simpa using g) g';have e1:cs[i]'(by rw[<-hcs];simpa using g)=.d (dex e)[i]:=by subst hcs;simp
 rw[e1]at this;cases this with|d h=>exact h
end
theorem za(o m:Int)(s:ByteArray)(k:Nat):0≤bK o m s k/\bK o m s k≤7:=by
 unfold bK;repeat' split
 all_goals omega
theorem Ht(e:Ex):0≤dR e/\dR e≤7:=by
 induction e using Ex.ind with
 | h o m s l ih=>
 have hL:∀(r:List Ex),(∀a,a∈r->a∈l)->0≤lW r/\lW r≤7:=by
  intro r
  induction r with
  | nil=>intro _;simp[lW]
  | cons a r ihr=>
   intro hm;have h1:=ih a (hm a (by simp));have h2:=ihr (fun x hx=>hm x (by simp[hx]));simp only[lW];split<;>omega
 have h1:=za o m s l.length;have h2:=hL l (fun _ h=>h);simp only[dR];split<;>omega
theorem zl(e:Ex):dQ (.int .i64 (aZ e)):=by
 have h:0≤aZ e/\aZ e≤7:=by
  have:=Ht e;unfold aZ;split<;>omega
 generalize aZ e=y at h;simp only[dQ,IntKind.min,IntKind.max,IntKind.signed,IntKind.bits,if_true];omega
theorem oP(e:Ex)(hs:bF e≤1000000)(hd:eu e≤1000000)(σ:LLV):Fun G 91 [vex e] σ (aA (.d (ab (aZ e))) σ):=
 p0 Tryz.func91 (by kernel_rfl) (by kernel_rfl) (zl e) fun M bm pr w v hG hM hr=>Dc e w v (qY hM hr) (pV hG.1 hM) hd hs
end Go.Proofs.YthekkgfmagliiaaGreatDoor
namespace Go.Proofs.YthekkgfmagliiaaGreatDoor
open Go.RowKit
open Nat renaming reduceLeDiff -> jA, reduceBEq -> jB, reduceLT -> jC, reduceEqDiff -> jD, reduceAdd -> jE, reduceSub -> jF, reduceMul -> jG
open V renaming copy -> jV, lend -> jW, lend1 -> jX, cells -> jY, boxable -> jZ
section
variable {M : an} {w : World}
end
theorem AU{f:FuncId}{fn:Func}{args:List V}{u:Value}{σ:LLV}(hf:Tryz.prog.funcs[f]? = some fn)(hn:(fn.name == "runtime.NumGoroutine")=false)(hb:fn.body.isNone=false)(hu:dQ u)
 (h:∀(M:an) (bm:List Nat) (w:World) (vs:List Value),G.cells M->M.hold w->vs.length=args.length->(∀i (h:i<args.length) (h':i<vs.length),Rep M bm args[i] vs[i])->Calls Tryz.prog f vs.toArray w fun e w'=>e=.returned u/\Ext w w'):
 Fun G f args σ (aA (.d (.lit u)) σ):=by
 refine⟨bU (P:=Tryz.prog) hf hn hb,fun M bm tk pr w vs hG hI ht hl hr=>(h M bm w vs hG.1 hI.facts hl hr).mono fun e w' ⟨he,hx⟩=>?_⟩;obtain⟨h1,h2⟩:=hI.ext hx;refine⟨M,bm,tk,σ,.ret (.d (.lit u)),⟨rfl,rfl⟩,h1,h2,fun v e=>?_,fun v e=>by cases e⟩;cases e;exact⟨u,he,.d (.lit u hu),fun _ _ _ e=>by cases e⟩
theorem ER{f:FuncId}{fn:Func}{a:V}{u:Value}{σ:LLV}(hf:Tryz.prog.funcs[f]? = some fn)(hn:(fn.name == "runtime.NumGoroutine")=false)(hb:fn.body.isNone=false)(hu:dQ u)
 (h:∀(M:an) (bm:List Nat) (w:World) (v:Value),G.cells M->M.hold w->Rep M bm a v->Calls Tryz.prog f #[v] w fun e w'=>e=.returned u/\Ext w w'):Fun G f [a] σ (aA (.d (.lit u)) σ):=
 AU hf hn hb hu fun M bm w vs hG hM hl hr=>match vs,hl with
  | [v],_=>h M bm w v hG hM (hr 0 (by simp) (by simp))
theorem ET{f:FuncId}{fn:Func}{a b:V}{u:Value}{σ:LLV}(hf:Tryz.prog.funcs[f]? = some fn)(hn:(fn.name == "runtime.NumGoroutine")=false)(hb:fn.body.isNone=false)(hu:dQ u)
 (h:∀(M:an) (bm:List Nat) (w:World) (v v':Value),G.cells M->M.hold w->Rep M bm a v->Rep M bm b v'->Calls Tryz.prog f #[v,v'] w fun e w'=>e=.returned u/\Ext w w'):Fun G f [a,b] σ (aA (.d (.lit u)) σ):=
 AU hf hn hb hu fun M bm w vs hG hM hl hr=>match vs,hl with
  | [v,v'],_=>h M bm w v v' hG hM (hr 0 (by simp) (by simp)) (hr 1 (by simp) (by simp))
end Go.Proofs.YthekkgfmagliiaaGreatDoor
namespace Go.Proofs.YthekkgfmagliiaaGreatDoor
open Go.RowKit
open Nat renaming reduceLeDiff -> jA, reduceBEq -> jB, reduceLT -> jC, reduceEqDiff -> jD, reduceAdd -> jE, reduceSub -> jF, reduceMul -> jG
open V renaming copy -> jV, lend -> jW, lend1 -> jX, cells -> jY, boxable -> jZ
theorem vE{f:FuncId}{fn:Func}{args:List V}{x:V}{σ:LLV}(hf:Tryz.prog.funcs[f]? = some fn)(hn:(fn.name == "runtime.NumGoroutine")=false)(hb:fn.body.isNone=false)(hx:∀T k rows,x≠.own T k rows)
 (h:∀(M:an) (bm:List Nat) (w:World) (vs:List Value),G.cells M->M.hold w->vs.length=args.length->(∀i (h:i<args.length) (h':i<vs.length),Rep M bm args[i] vs[i])->
   Calls Tryz.prog f vs.toArray w fun e w'=>∃u,e=.returned u/\Ext w w'/\Rep (sV w w') [] x u):Fun G f args σ (aA x σ):=by
 refine⟨bU (P:=Tryz.prog) hf hn hb,fun M bm tk pr w vs hG hI ht hl hr=>(h M bm w vs hG.1 hI.facts hl hr).mono fun e w' ⟨u,he,hx',hu⟩=>?_⟩;have hlt:∀b,b<w.heap.size->∀o,(if w.heap.size≤b then w'.cell? ⟨b,o,none⟩else M b o)=M b o:=fun b hb o=>if_neg (by omega)
 have hle:M.le fun b o=>if w.heap.size≤b then w'.cell? ⟨b,o,none⟩else M b o:=fun b o x hm=>by
  have hb:=hI.facts.lt hm;show(if w.heap.size≤b then w'.cell? ⟨b,o,none⟩else M b o)=some x;rw[hlt b hb o];exact hm
 obtain⟨h1,h2⟩:=hI.grow (M':=fun b o=>if w.heap.size≤b then w'.cell? ⟨b,o,none⟩else M b o) hx' hle (fun b o x hm=>by
  by_cases hb:w.heap.size≤b
  .simpa only[if_pos hb]using hm
  .simp only[if_neg hb]at hm;exact hx'.cell (hI.facts b o x hm)) hlt
 refine⟨_,bm,tk,σ,.ret x,⟨rfl,rfl⟩,h1,h2,fun v e=>?_,fun v e=>by cases e⟩;cases e;refine⟨u,he,hu.mono (fun b o x hm=>?_) (fun i b h=>by simp at h),fun T k rows e=>absurd e (hx T k rows)⟩;unfold sV at hm;split at hm
 .rename_i hb;simp only[if_pos hb];exact hm
 .cases hm
theorem sS{M:an}{l:List ByteArray}{p:Option Addr}{cap:Nat}(h1:l.length≤cap)(h2:cap≤maxLen)(hs:∀s,s∈l->s.size≤maxLen)
 (h:∀i s,l[i]? = some s->∃b off,p=some ⟨b,off,none⟩/\M b (off+i)=some (.string s)):DRep M (dw l) (.slice p l.length cap):=by
 have hlen:l.length=(l.map fun s=>[ae s]).length:=by simp
 unfold dw;rw[hlen];refine .sl _ 1 p cap (fun i _=>.string (l[i]?.getD ⟨#[]⟩)) (fun r hr=>?_) (fun i j hi hj=>?_) (fun i hi=>?_) (by omega) h2
 .obtain⟨s,-,rfl⟩:=List.mem_map.1 hr;rfl
 .have hi':i<l.length:=by simpa using hi
  have hj0:j=0:=by simpa using hj
  subst hj0;simp only[RM,RP,Rx hi',Option.getD_some];exact .lit _ (hs _ (RC hi'))
 .have hi':i<l.length:=by simpa using hi
  obtain⟨b,off,h7,h8⟩:=h i _ (Rx hi');refine⟨b,off,h7,fun j hj=>?_⟩;have hj0:j=0:=by omega
  subst hj0;simp only[Rx hi',Option.getD_some];simpa using h8
theorem Fb{w w':World}{T:TypeId}{v:Value}{l:List ByteArray}(h:w'.ownsRow 0 T 1 v l.length (l.map Value.string))(hg:∀k,v.ownBlock=some k->w.heap.size≤k)(hs:∀s,s∈l->s.size≤maxLen):DRep (sV w w') (dw l) v:=by
 obtain⟨p,cap,rfl,h1,h2,h3⟩:=nJ h;refine sS h1 h2 hs fun i s hi=>?_;obtain⟨b,off,rfl,h4⟩:=h3 i s hi;exact⟨b,off,rfl,by unfold sV;rw[if_pos (hg b rfl)];exact h4⟩
theorem yP{w:World}{ops:List Int}{e:Ex}{cs:List Value}(h:ExRep w e cs):∀x:List ByteArray,(∀s,s∈x->s.size≤maxLen)->∀s,s∈(ew (cW ops) e x).1->s.size≤maxLen:=by
 induction h with
 | mk o n s l v css hl hc hv ho hn hs ih=>
  intro x hx
  have H:∀(r:List Ex),(∀a,a∈r->a∈l)->∀x:List ByteArray,(∀s,s∈x->s.size≤maxLen)->∀s,s∈(fo (cW ops) r x).1->s.size≤maxLen:=by
   intro r
   induction r with
   | nil=>intro _ x hx;exact hx
   | cons a r ihr=>
    intro hr x hx;rw[fo,if_pos (mc _ a x)];obtain⟨i,hi,hia⟩:=List.getElem_of_mem (hr a (by simp));subst hia;exact ihr (fun y hy=>hr y (by simp[hy])) _ (ih i hi (by omega) x hx)
  rw[ew,if_pos (show(cW ops x (Ex.mk o n s l)).2=true from rfl)];refine H l (fun _ h=>h) _ ?_;intro t ht;rcases xp ht with h|⟨rfl,h⟩
  .exact hx t h
  .exact hs
theorem CG(e:Ex)(hs:bF e≤1000000)(σ:LLV):Fun G 144 [vex e] σ (aA (.d (dw (gn [2] e))) σ):=
 vE Tryz.func144 (by kernel_rfl) (by kernel_rfl) (fun _ _ _ h=>by cases h) fun M bm w vs hG hM hl hr=>match vs,hl with
  | [v],_=>(BU e w v (qY hM (hr 0 (by simp) (by simp))) hs).mono fun en w' ⟨u,h1,h2,h3,h4⟩=>by
   obtain⟨cs,h5,-⟩:=qY hM (hr 0 (by simp) (by simp));exact⟨u,h1,h4,.d (Fb h2 h3 (yP h5 [] (by simp)))⟩
def uU(tk:bP)(g:Option Nat):bP:=fun i j=>match i,j with
 | none,0=>g
 | i,j=>tk i j
theorem uz{f:FuncId}{fn:Func}{args:List V}{l:List ByteArray}{σ:LLV}(hf:Tryz.prog.funcs[f]? = some fn)(hn:(fn.name == "runtime.NumGoroutine")=false)(hb:fn.body.isNone=false)
 (h:∀(M:an) (bm:List Nat) (w:World) (vs:List Value),G.cells M->M.hold w->vs.length=args.length->(∀i (h:i<args.length) (h':i<vs.length),Rep M bm args[i] vs[i])->(∀s,s∈l->s.size≤maxLen)/\Calls Tryz.prog f vs.toArray w (ul l w)):
 Fun G f args σ (aA (.own 9 1 (l.map fun s=>[ae s])) σ):=by
 refine⟨bU (P:=Tryz.prog) hf hn hb,fun M bm tk pr w vs hG hI ht hl hr=>(h M bm w vs hG.1 hI.facts hl hr).2.mono fun e w' ⟨v,he,hrow,hg,hx⟩=>?_⟩;have hs:=(h M bm w vs hG.1 hI.facts hl hr).1;have hlt:∀b,b<w.heap.size->∀o,(if w.heap.size≤b then(if o<l.length then w'.cell? ⟨b,o,none⟩else none)else M b o)=M b o:=fun b hb o=>if_neg (by omega)
 have hle:M.le fun b o=>if w.heap.size≤b then(if o<l.length then w'.cell? ⟨b,o,none⟩else none)else M b o:=fun b o x hm=>by
  have hb:=hI.facts.lt hm;show(if w.heap.size≤b then(if o<l.length then w'.cell? ⟨b,o,none⟩else none)else M b o)=some x;rw[hlt b hb o];exact hm
 obtain⟨h1,h2⟩:=hI.grow (M':=fun b o=>if w.heap.size≤b then(if o<l.length then w'.cell? ⟨b,o,none⟩else none)else M b o) hx hle (fun b o x hm=>by
  by_cases hb:w.heap.size≤b
  .simp only[if_pos hb]at hm;split at hm
   .exact hm
   .cases hm
  .simp only[if_neg hb]at hm;exact hx.cell (hI.facts b o x hm)) hlt
 have hgl:∀g,v.ownBlock=some g->g<w'.heap.size:=fun g hgg=>by
  obtain⟨-,⟨rfl,-⟩|⟨g',cap,cur,rfl,-,h3,-⟩⟩:=hrow
  .cases hgg
  .cases hgg;exact(Array.getElem?_eq_some_iff.1 h3).1
 have hbm:=hI.bm_lt
 have hI2:Inv (fun b o=>if w.heap.size≤b then(if o<l.length then w'.cell? ⟨b,o,none⟩else none)else M b o) bm σ (uU tk v.ownBlock) pr w':=by
  refine⟨h1.facts,h1.len,h1.box,h1.free,h1.bmnd,fun i j g hij=>?_,fun i j i' j' g h3 h4=>?_,h1.prlt⟩
  .unfold uU at hij;split at hij
   .have:=hg g hij;exact⟨hgl g hij,fun hb=>by have:=hbm g hb;omega,fun hp=>by have:=hI.prlt g hp;omega⟩
   .exact h1.tok _ _ _ hij
  .have old:∀i j,tk i j=some g->g<w.heap.size:=fun i j hij=>(hI.tok _ _ _ hij).1;unfold uU at h3 h4;split at h3<;>split at h4
   .exact⟨rfl,rfl⟩
   .have:=hg g h3;have:=old _ _ h4;omega
   .have:=hg g h4;have:=old _ _ h3;omega
   .exact h1.inj _ _ _ _ _ h3 h4
 refine⟨_,bm,uU tk v.ownBlock,σ,.ret (.own 9 1 (l.map fun s=>[ae s])),⟨rfl,rfl⟩,hI2,h2,fun x e=>?_,fun x e=>by cases e⟩;cases e;have hlen:(l.map fun s=>[ae s]).length=l.length:=by simp
 refine⟨v,he,.own ?_,fun T k rows e=>?_⟩
 .obtain⟨p,cap,rfl,g1,g2,g3⟩:=nJ hrow;refine sS g1 g2 hs fun i s hi=>?_;obtain⟨b,off,rfl,g4⟩:=g3 i s hi;refine⟨b,off,rfl,?_⟩
  have hb0:off=0:=by
   obtain⟨-,⟨e,-⟩|⟨g',cap',cur,e,-⟩⟩:=hrow
   .cases e
   .cases e;rfl
  subst hb0;have hil:=(List.getElem?_eq_some_iff.1 hi).1;have:=hg b rfl;simp only[R5]at g4 ⊢;rw[if_pos this,if_pos hil];exact g4
 .cases e;have hrow':=hrow;obtain⟨g0,⟨rfl,g1⟩|⟨g,cap,cur,rfl,g2,g3,g4⟩⟩:=hrow
  .exact .inl ⟨rfl,by have:l=[]:=List.eq_nil_of_length_eq_zero g1;simp[this]⟩
  .refine .inr ⟨g,_,rfl,rfl,fun r hr=>?_,by rw[hlen];exact hrow',fun o x hm=>?_⟩
   .obtain⟨s,-,rfl⟩:=List.mem_map.1 hr;rfl
   .have:=hg g rfl;simp only[if_pos this]at hm;split at hm
    .rw[hlen];omega
    .cases hm
theorem o8(s:ByteArray)(σ:LLV):Fun G 49 [.d (ae s)] σ (aA (.d (.lit (.bool (cf s)))) σ):=
 ER Tryz.func49 (by kernel_rfl) (by kernel_rfl) trivial fun M bm w v hG hM hr=>by
  cases hr with
  | d hr=>cases hr with
   | lit _ h=>exact gI s w (by simp only[dQ,maxLen]at h;omega) (pV hG hM)
inductive Ts where
 | mk (op lo hi:Int) (e:Ex) (name:ByteArray) (args:List Ts)
namespace Ts
def op:Ts->Int|mk o _ _ _ _ _=>o
def lo:Ts->Int|mk _ a _ _ _ _=>a
def hi:Ts->Int|mk _ _ b _ _ _=>b
def ex:Ts->Ex|mk _ _ _ e _ _=>e
def name:Ts->ByteArray|mk _ _ _ _ s _=>s
def args:Ts->List Ts|mk _ _ _ _ _ l=>l
end Ts
mutual
theorem Ts.ind{P:Ts->Prop}(h:∀s:Ts,(∀a,a∈s.args->P a)->P s):∀s,P s
 | .mk o a b e s l=>h (.mk o a b e s l) (Ts.inds h l)
theorem Ts.inds{P:Ts->Prop}(h:∀s:Ts,(∀a,a∈s.args->P a)->P s):∀l:List Ts,∀a,a∈l->P a
 | [],_,ha=>nomatch ha
 | b::r,a,ha=>by
  rcases List.mem_cons.1 ha with e|e
  .rw[e];exact Ts.ind h b
  .exact Ts.inds h r a e
end
mutual
def dts:Ts->List D
 | .mk o a b e s l=>[ab o,ab a,ab b,ab e.op,ab e.num,ae e.name,.sl (e.args.map dex),ae s,.sl (Iy l)]
def Iy:List Ts->LLD
 | []=>[]
 | a::r=>dts a::Iy r
end
theorem D1(l:List Ts):Iy l=l.map dts:=by
 induction l with
 | nil=>rfl
 | cons a r ih=>simp only[Iy,ih,RG]
theorem bY(s:Ts):dts s=[ab s.op,ab s.lo,ab s.hi,ab s.ex.op,ab s.ex.num,ae s.ex.name,.sl (s.ex.args.map dex),ae s.name,.sl (s.args.map dts)]:=by
 cases s;simp only[dts,D1,Ts.op,Ts.lo,Ts.hi,Ts.ex,Ts.name,Ts.args]
def vts(s:Ts):V:=.agg ((dts s).map V.d)
theorem am(s:Ts):vts s=.agg [.d (ab s.op),.d (ab s.lo),.d (ab s.hi),.d (ab s.ex.op),.d (ab s.ex.num),.d (ae s.ex.name),.d (.sl (s.ex.args.map dex)),.d (ae s.name),.d (.sl (s.args.map dts))]:=by
 unfold vts;rw[bY];rfl
theorem AZ(s:Ts):(dts s).length=9:=by rw[bY];rfl
mutual
def cl:Ts->Nat
 | .mk _ _ _ e _ l=>1+bF e+cv l
def cv:List Ts->Nat
 | []=>0
 | a::r=>cl a+cv r
end
theorem jn(s:Ts):cl s=1+bF s.ex+cv s.args:=by cases s;rfl
theorem sI{l:List Ts}{a:Ts}(h:a∈l):cl a≤cv l:=by
 induction l with
 | nil=>cases h
 | cons b r ih=>
  simp only[cv];rcases List.mem_cons.1 h with e|e
  .subst e;omega
  .have:=ih e;omega
theorem f5{s a:Ts}(h:a∈s.args):cl a<cl s:=by
 have:=sI h;rw[jn s];omega
theorem tb(l:List Ts):l.length≤cv l:=by
 induction l with
 | nil=>simp[cv]
 | cons b r ih=>
  have:=jn b;simp only[cv,RH];omega
theorem gm(s:Ts):s.args.length<cl s:=by
 have:=tb s.args;rw[jn s];omega
theorem sA(e:Ex):eu e≤bF e:=by
 induction e using Ex.ind with
 | h o m s l ih=>
 simp only[eu,bF]
 have H:∀(r:List Ex),(∀a,a∈r->a∈l)->dU r≤bt r:=by
  intro r
  induction r with
  | nil=>intro _;simp[dU,bt]
  | cons a r ihr=>
   intro hm;have h1:=ih a (hm a (by simp));have h2:=ihr (fun x hx=>hm x (by simp[hx]));simp only[dU,bt];omega
 have:=H l (fun _ h=>h);omega
mutual
def tsz:Ts->Nat
 | .mk _ _ _ _ _ l=>1+IR l
def IR:List Ts->Nat
 | []=>0
 | a::r=>tsz a+IR r
end
theorem GY(l:List Ts):IR l=(l.map tsz).sum:=by
 induction l with
 | nil=>rfl
 | cons a r ih=>simp only[IR,ih,RG,RX]
theorem yk(s:Ts):tsz s=1+(s.args.map tsz).sum:=by cases s;simp only[tsz,GY,Ts.args]
theorem zy(s:Ts):tsz s≤cl s:=by
 induction s using Ts.ind with
 | h s ih=>
 rw[yk,jn]
 have H:∀l:List Ts,(∀a,a∈l->tsz a≤cl a)->(l.map tsz).sum≤cv l:=by
  intro l
  induction l with
  | nil=>intro _;simp[cv]
  | cons a r ihr=>
   intro h;have h1:=h a (by simp);have h2:=ihr (fun x hx=>h x (by simp[hx]));simp only[RG,RX,cv];omega
 have:=H s.args ih;omega
mutual
def tdp:Ts->Nat
 | .mk _ _ _ _ _ l=>1+pH l
def pH:List Ts->Nat
 | []=>0
 | a::r=>max (tdp a) (pH r)
end
theorem GP(s:Ts):tdp s=1+pH s.args:=by cases s;rfl
theorem KX(s:Ts):tdp s≤cl s:=by
 induction s using Ts.ind with
 | h s ih=>
 rw[GP,jn]
 have H:∀l:List Ts,(∀a,a∈l->tdp a≤cl a)->pH l≤cv l:=by
  intro l
  induction l with
  | nil=>intro _;simp[pH]
  | cons a r ihr=>
   intro h;have h1:=h a (by simp);have h2:=ihr (fun x hx=>h x (by simp[hx]));simp only[pH,cv];omega
 have:=H s.args ih;omega
theorem Nxt.drop1{n0:Nat}{R:ah->LLV->Prop}{ρ:ah}{σ:LLV}{a b:List V}(hn:n0≤σ.length)(hb:aj (σ++[a]).length (σ++[a])=true)(hs:ao (σ++[a]).length ρ=true)(hR:R ρ (σ++[a])):Nxt n0 R ρ (σ++[a,b]) .mk:=by
 have e:σ++[a,b]=(σ++[a])++[b]:=by simp
 rw[e];exact Nxt.drop (by rw[RD];omega) hb hs hR
theorem tG(val:Ts->Int)(f:FuncId)(P:Ts->Prop)(hP:∀s,P s->∀a,a∈s.args->P a)(hB:∀s,P s->cl s≤1000000)
 (hf:∀s,P s->∀σ,nC G f [vts s] 3 1 ((s.args.map val).map fun n=>[ab n]) [] σ (aA (.d (ab (val s))) σ))(s:Ts):
 P s->∀σ,Fun G 101 [vts s,.fn f []] σ (aA (.d (ab (val s))) σ):=by
 induction s using Ts.ind with
 | h s ih=>
 intro hs σ;have hbig:=hB s hs;have hln:=gm s;refine ai Tryz.func101 Q7 (by simp only[am];rfl) fun hb hw=>?_;unfold Nu;simp -dsimp only[aw,jV,jW,jX,jY,jZ,jA,reduceIte,reduceCtorEq,jB,jC,jD,jE,jF,jG,am];refine bQ (by omega) ?_;simp -dsimp only[aw,jV,jW,jX,jY,jZ,jA,reduceIte,reduceCtorEq,jB,jC,jD,jE,jF,jG];refine bj [1,2,5,13,14,15] (R:=fun(j:Nat) ρ σ'=>ρ=[(1,.fn f []),(2,.ptr σ.length 0),(5,.own 3 1 (((s.args.take j).map val).map fun n=>[ab n])),(13,.d (.sl (s.args.map dts))),(14,aL .i64 s.args.length),(15,aL .i64 j)]/\σ'=σ++[[.d (ab s.op),.d (ab s.lo),.d (ab s.hi),.d (ab s.ex.op),.d (ab s.ex.num),.d (ae s.ex.name),.d (.sl (s.ex.args.map dex)),.d (ae s.name),.d (.sl (s.args.map dts))]]) s.args.length ⟨rfl,rfl⟩ ?_ _;rintro j ρ' σ' hj ⟨rfl,rfl⟩;by_cases hlt:j<s.args.length
 .simp -dsimp only[aw,jV,jW,jX,jY,jZ,jA,reduceIte,reduceCtorEq,jB,jC,jD,jE,jF,jG,Ru,hlt,decide_true,Rx hlt,bY s.args[j]];refine ac (by simpa only[am]using ih s.args[j] (RC hlt) (hP s hs _ (RC hlt)) _) ?_;have ht:s.args.take (j+1)=s.args.take j++[s.args[j]]:=by rw[RF,Rx hlt];rfl
  simp -dsimp only[aw,jV,jW,jX,jY,jZ,jA,reduceIte,reduceCtorEq,jB,jC,jD,jE,jF,jG];refine bQ (by first|omega|(simp only[Rz,RS];omega)) ?_;simp -dsimp only[aw,jV,jW,jX,jY,jZ,jA,reduceIte,reduceCtorEq,jB,jC,jD,jE,jF,jG,ba hlt (show s.args.length≤9223372036854775807 by omega)];refine⟨hlt,Nxt.drop1 (R0 _) (aE hb rfl) (by simp[ao,V.under,V.unders]) ⟨?_,rfl⟩⟩;rw[ht,RE,RE];rfl
 .simp -dsimp only[aw,jV,jW,jX,jY,jZ,jA,reduceIte,reduceCtorEq,jB,jC,jD,jE,jF,jG,Ru,hlt,decide_false];rw[RB (show s.args.length≤j by omega)];refine wQ (by simpa only[am]using hf s hs _) ?_;simp -dsimp only[aw,jV,jW,jX,jY,jZ,jA,reduceIte,reduceCtorEq,jB,jC,jD,jE,jF,jG];exact al hb rfl rfl Ry ⟨rfl,rfl⟩
theorem Tryz.under_strs:Tryz.prog.underlying 92=some (.slice 9):=by kernel_rfl
theorem Tryz.under_int:Tryz.prog.underlying 3=some (.int .i64):=by kernel_rfl
theorem DS(w:World):Calls Tryz.prog 202 #[.slice none 0 0,.int .i64 0] w fun e w'=>e=.returned (.slice none 0 0)/\w'=w:=by
 have h2:wrap64 ((0:Int)-(0:Int))=0:=by unfold wrap64;omega
 go_enter Tryz.func202,Tryz.ntmps202;go_wp2_with fail;go_ret;exact⟨rfl,rfl⟩
theorem ES(n:Nat)(h0:0<n)(hn:n≤1000000)(w:World):Calls Tryz.prog 202 #[.slice none 0 0,.int .i64 n] w fun e w'=>
 e=.returned (.slice (some ⟨w.heap.size,0,none⟩) 0 (grownCap w n 0 9))/\
  w'=w.drew.alloc (.cells (Builtin.zeroCells #[.string ⟨#[]⟩] n++Builtin.zeroCells #[.string ⟨#[]⟩] (grownCap w n 0 9-n)) 9):=by
 obtain⟨i0,hi0,hz0,hs0,hb0⟩:∃i0,Tryz.prog.info? 9=some i0/\i0.zero=some (.string ⟨#[]⟩)/\i0.size=1/\i0.bytes=16:=by
  have h:=Tryz.infoS;cases hi:Tryz.prog.info? 9 with
  | none=>rw[hi]at h;cases h
  | some i0=>rw[hi]at h;simp only[Option.map_some,Option.some.injEq,Prod.mk.injEq]at h;exact⟨i0,rfl,h.1,h.2.1,h.2.2⟩
 have h1:¬((n:Int)<0):=by omega
 have h2:wrap64 ((0:Int)-(0:Int))=0:=by unfold wrap64;omega
 have h3:wrap64 ((n:Int)-0)=n:=by unfold wrap64;omega
 have h4:(n:Int)>0:=by omega
 have hold:(Builtin.firstCells i0.size 0 (.slice none 0 0)).run Tryz.prog w.drew=.ok (#[]:Array Value) w.drew:=run_firstCells_none w.drew i0.size 0 0 0
 have hrz:∀ty,(Builtin.append_ #[92,3] ty #[.slice none 0 0,.int .i64 (n:Int)]).run Tryz.prog w=
  .ok (.slice (some ⟨w.heap.size,0,none⟩) n (grownCap w n 0 9)) (w.drew.alloc (.cells (Builtin.zeroCells #[.string ⟨#[]⟩] n++Builtin.zeroCells #[.string ⟨#[]⟩] (grownCap w n 0 9-n)) 9)):=fun ty=>by
  have h:=Lib.run_append_grow_zeros w 92 3 ty 9 i0 _ .i64 .i64 Tryz.under_strs Tryz.under_int hi0 hz0 none 0 0 [] hold n (by omega) (by omega) (by omega) (by omega) (by rw[hb0];omega)
   (growslice_fits (by omega) (by rw[hb0];omega))
  simp only[R5]at h;rw[h];simp[Value.cells]
 have hGn:n≤grownCap w n 0 9:=grownCap_ge w _ _ _;obtain⟨G,hG⟩:∃G,G=grownCap w n 0 9:=⟨_,rfl⟩
 rw[<-hG]at hrz hGn ⊢
 have hG63:G≤9223372036854775807:=by
  have:=grownCap_le_maxLen w n 0 9 (by unfold maxLen;omega);rw[<-hG]at this;unfold maxLen at this;omega
 clear hold hG;go_enter Tryz.func202,Tryz.ntmps202;go_wp2_with (at_builtin;refine Lib.wpList_append_run _ rfl _ _ _ _ rfl _ _ rfl rfl _ _ (hrz _) ?_);all_goals (go_ret;exact⟨rfl,rfl⟩)
theorem GS(n:Nat)(hn:n≤1000000)(σ:LLV):Fun G 202 [.nil,.d (ab n)] σ (aA (.own 9 1 []) σ):=
 uz (l:=[]) Tryz.func202 (by kernel_rfl) (by kernel_rfl) fun M bm w vs hG hM hl hr=>match vs,hl with
  | [v,u],_=>by
   refine⟨by simp,?_⟩;have h1:Rep M bm .nil v:=hr 0 (by simp) (by simp);have h2:Rep M bm (.d (ab n)) u:=hr 1 (by simp) (by simp);cases h1 with
   | nil=>cases h2 with
    | d h2=>cases h2 with
     | lit _ _=>
      by_cases h0:n=0
      .subst h0;refine(DS w).mono fun e w' ⟨h3,h4⟩=>?_;subst h4;exact⟨_,h3,⟨rfl,.inl ⟨rfl,rfl⟩⟩,(fun k hk=>by cases hk),Ext.refl _⟩
      .refine(ES n (by omega) hn w).mono fun e w' ⟨h3,h4⟩=>?_;subst h4;have hGn:n≤grownCap w n 0 9:=grownCap_ge w _ _ _;have hGm:=grownCap_le_maxLen w n 0 9 (by unfold maxLen;omega);refine⟨_,h3,⟨rfl,.inr ⟨w.heap.size,_,_,rfl,R6 _,heap_alloc_new w.drew _,R6 _,hGm,?_,rfl⟩⟩,fun k hk=>?_,((Ext.refl w).drew).alloc _⟩
       .simp only[Array.size_append,size_zeroCells,List.size_toArray,RH,RN];omega
       .simp only[Value.ownBlock,Option.some.injEq]at hk;omega
theorem zf(ls:List (List ByteArray))(hs:(ls.map RA).sum≤1000000)(hn:ls.length≤1000000)(σ:LLV):
 Fun G 173 [.d (.sl (ls.map fun l=>[D.sl (l.map fun s=>[ae s])]))] σ (aA (.own 9 1 (ls.flatten.map fun s=>[ae s])) σ):=by
 refine ai Tryz.func173 Py rfl fun hb hw=>?_;unfold c173;generalize hrows:(ls.map fun l=>[D.sl (l.map fun s=>[ae s])])=rows;have hrl:rows.length=ls.length:=by rw[<-hrows,Rz]
 have hre:∀j (h:j<ls.length),rows[j]? = some [D.sl (ls[j].map fun s=>[ae s])]:=fun j h=>by rw[<-hrows,RK,Rx h];rfl
 have hle:∀j,((ls.take j).map RA).sum≤(ls.map RA).sum:=fun j=>by
  conv=>rhs;rw[<-RQ j ls]
  rw[RE,RI];omega
 simp -dsimp only[aw,jV,jW,jX,jY,jZ,jA,reduceIte,reduceCtorEq,jB,jC,jD,jE,jF,jG,hrl];refine bj [0,3,9,10,11] (R:=fun(j:Nat) ρ σ'=>ρ=[(0,.d (.sl rows)),(3,aL .i64 (((ls.take j).map RA).sum:Nat)),(9,.d (.sl rows)),(10,aL .i64 ls.length),(11,aL .i64 j)]/\σ'=σ) ls.length ⟨rfl,rfl⟩ ?_ _;rintro j ρ' σ' hj ⟨rfl,rfl⟩;by_cases hlt:j<ls.length
 .have ht:((ls.take (j+1)).map RA).sum=((ls.take j).map RA).sum+ls[j].length:=by
   rw[RF,Rx hlt,RE,RI];show _+(ls[j].length+0)=_;omega
  have h1:=hle (j+1);have hw1:IntKind.i64.wrap ((((ls.take j).map RA).sum:Nat)+(ls[j].length:Int))=(((ls.take (j+1)).map RA).sum:Nat):=by rw[aJ (by omega) (by omega),ht];omega
  have hng:¬((((ls.take (j+1)).map RA).sum:Nat):Int)<0:=by omega
  simp -dsimp only[aw,jV,jW,jX,jY,jZ,jA,reduceIte,reduceCtorEq,jB,jC,jD,jE,jF,jG,Ru,hlt,decide_true,hre j hlt,hw1,decide_eq_false hng,ba hlt (show ls.length≤9223372036854775807 by omega)];exact Nxt.same (R0 _) hb rfl ⟨rfl,rfl⟩
 .simp -dsimp only[aw,jV,jW,jX,jY,jZ,jA,reduceIte,reduceCtorEq,jB,jC,jD,jE,jF,jG,Ru,hlt,decide_false];rw[RB (show ls.length≤j by omega)];refine ac (GS _ hs _) ?_;simp -dsimp only[aw,jV,jW,jX,jY,jZ,jA,reduceIte,reduceCtorEq,jB,jC,jD,jE,jF,jG,hrl];refine bj [6,25,26,27] (R:=fun(j:Nat) ρ σ''=>ρ=[(6,.own 9 1 ((ls.take j).flatten.map fun s=>[ae s])),(25,.d (.sl rows)),(26,aL .i64 ls.length),(27,aL .i64 j)]/\σ''=σ') ls.length ⟨rfl,rfl⟩ ?_ _;rintro j ρ' σ'' hj ⟨rfl,rfl⟩;by_cases hlt:j<ls.length
  .have ht:(ls.take (j+1)).flatten=(ls.take j).flatten++ls[j]:=by
    rw[RF,Rx hlt,List.flatten_append];simp
   have h1:=hle (j+1);have h2:((ls.take j).flatten++ls[j]).length=((ls.take (j+1)).map RA).sum:=by rw[<-ht,RJ]
   rw[RD]at h2;have hal:(ls[j].map fun s=>[ae s]).all (fun r=>r.length==1)=true:=by rw[List.all_map];exact List.all_eq_true.2 fun _ _=>rfl
   simp -dsimp only[aw,jV,jW,jX,jY,jZ,jA,reduceIte,reduceCtorEq,jB,jC,jD,jE,jF,jG,Ru,hlt,decide_true,hre j hlt,hal];refine bQ (by first|omega|(simp only[Rz];omega)) ?_;simp -dsimp only[aw,jV,jW,jX,jY,jZ,jA,reduceIte,reduceCtorEq,jB,jC,jD,jE,jF,jG,ba hlt (show ls.length≤9223372036854775807 by omega)];refine⟨hlt,Nxt.same (R0 _) hb rfl ⟨?_,rfl⟩⟩;rw[ht,RE]
  .simp -dsimp only[aw,jV,jW,jX,jY,jZ,jA,reduceIte,reduceCtorEq,jB,jC,jD,jE,jF,jG,Ru,hlt,decide_false];rw[RB (show ls.length≤j by omega)];first|exact au hb rfl rfl|exact av hb rfl rfl
abbrev vO(l:List Int):LLD:=l.map fun n=>[ab n]
theorem Ij(l:List Nat)(hl:l.sum≤1000000)(hn:l.length≤1000000)(σ:LLV):Fun G 105 [.d (.sl (vO (l.map fun n:Nat=>(n:Int))))] σ (aA (.d (ab (l.sum:Nat))) σ):=by
 refine ai Tryz.func105 Pv rfl fun hb hw=>?_;unfold NP;simp -dsimp only[aw,jV,jW,jX,jY,jZ,jA,reduceIte,reduceCtorEq,jB,jC,jD,jE,jF,jG];refine bj [3,6,7,8] (R:=fun(j:Nat) ρ σ'=>ρ=[(3,aL .i64 ((l.take j).sum:Nat)),(6,.d (.sl (vO (l.map fun n:Nat=>(n:Int))))),(7,aL .i64 l.length),(8,aL .i64 j)]/\σ'=σ) l.length ⟨rfl,rfl⟩ ?_ _;rintro j ρ' σ' hj ⟨rfl,rfl⟩;by_cases hlt:j<l.length
 .have ht:(l.take (j+1)).sum=(l.take j).sum+l[j]:=by rw[RF,Rx hlt,RI];show _+(l[j]+0)=_;omega
  have hle:(l.take (j+1)).sum≤l.sum:=by
   conv=>rhs;rw[<-RQ (j+1) l]
   rw[RI];omega
  have hw1:IntKind.i64.wrap (((l.take j).sum:Nat)+(l[j]:Int))=((l.take (j+1)).sum:Nat):=by rw[aJ (by omega) (by omega),ht];omega
  simp -dsimp only[aw,jV,jW,jX,jY,jZ,jA,reduceIte,reduceCtorEq,jB,jC,jD,jE,jF,jG,Ru,hlt,decide_true,Rx hlt,hw1,ba hlt (show l.length≤9223372036854775807 by omega)];exact Nxt.same (R0 _) hb rfl ⟨rfl,rfl⟩
 .simp -dsimp only[aw,jV,jW,jX,jY,jZ,jA,reduceIte,reduceCtorEq,jB,jC,jD,jE,jF,jG,Ru,hlt,decide_false];rw[RB (show l.length≤j by omega)];first|exact au hb rfl rfl|exact av hb rfl rfl
def I6:List Int->Int
 | []=>0
 | a::r=>r.foldl max a
theorem Hy(a:Int)(r:List Int)(hn:r.length≤1000000)(σ:LLV):Fun G 103 [.d (.sl (vO (a::r)))] σ (aA (.d (ab (I6 (a::r)))) σ):=by
 refine ai Tryz.func103 Re rfl fun hb hw=>?_;unfold O5;have e0:iaV 1 (.d (.sl ([ab a]::RZ (fun n=>[ab n]) r))) (V.d (D.lit (Value.int IntKind.i64 0)))=some (.row [ab a] 0):=rfl;have l1:¬((r.length:Int)+1<1):=by omega
 simp -dsimp only[aw,jV,jW,jX,jY,jZ,jA,reduceIte,reduceCtorEq,jB,jC,jD,jE,jF,jG,e0,decide_eq_false l1,Int.natCast_add,Int.natCast_one,Int.cast_ofNat_Int];refine bj [0,3,4] (R:=fun(j:Nat) ρ σ'=>ρ=[(0,.d (.sl ([ab a]::RZ (fun n=>[ab n]) r))),(3,aL .i64 ((r.take j).foldl max a)),(4,aL .i64 ((j+1:Nat):Int))]/\σ'=σ) r.length ⟨rfl,rfl⟩ ?_ _;rintro j ρ' σ' hj ⟨rfl,rfl⟩;by_cases hlt:j<r.length
 .have ht:(r.take (j+1)).foldl max a=max ((r.take j).foldl max a) r[j]:=by rw[RF,Rx hlt,List.foldl_append];rfl
  have hlt':j+1<r.length+1:=by omega
  simp -dsimp only[aw,jV,jW,jX,jY,jZ,jA,reduceIte,reduceCtorEq,jB,jC,jD,jE,jF,jG,Ru,hlt',decide_true,Rx hlt,<-ht,if_true,ba hlt' (show r.length+1≤9223372036854775807 by omega)];exact⟨hlt,Nxt.same (R0 _) hb rfl ⟨rfl,rfl⟩⟩
 .have hlt':¬j+1<r.length+1:=by omega
  simp -dsimp only[aw,jV,jW,jX,jY,jZ,jA,reduceIte,reduceCtorEq,jB,jC,jD,jE,jF,jG,Ru,hlt',decide_false];rw[RB (show r.length≤j by omega)];first|exact au hb rfl rfl|exact av hb rfl rfl
theorem IJ(l:List Int)(h:l≠[])(hn:l.length≤1000000)(σ:LLV):Fun G 103 [.d (.sl (vO l))] σ (aA (.d (ab (I6 l))) σ):=by
 cases l with
 | nil=>exact absurd rfl h
 | cons a r=>exact Hy a r (by simp only[RH]at hn;omega) σ
theorem xT(s:Ts)(hs:cl s≤1000000)(σ:LLV):nC G 104 [vts s] 3 1 ((s.args.map fun a=>(tsz a:Int)).map fun n=>[ab n]) [] σ (aA (.d (ab (tsz s))) σ):=by
 have h1:=yk s;have h2:=zy s;have h3:=gm s;refine oa Tryz.func104 PE (by simp only[am];rfl) fun hb hw=>?_;unfold Om;simp -dsimp only[aw,jV,jW,jX,jY,jZ,jA,reduceIte,reduceCtorEq,jB,jC,jD,jE,jF,jG,am];have hc:=Ij (s.args.map tsz) (by omega) (by rw[Rz];omega) (σ++[[.d (ab s.op),.d (ab s.lo),.d (ab s.hi),.d (ab s.ex.op),.d (ab s.ex.num),.d (ae s.ex.name),.d (.sl (s.ex.args.map dex)),.d (ae s.name),.d (.sl (s.args.map dts))]]);rw[RO]at hc;refine ac hc ?_;have hw1:IntKind.i64.wrap (1+((s.args.map tsz).sum:Nat))=(tsz s:Int):=by rw[aJ (by omega) (by omega),h1];omega
 simp -dsimp only[aw,jV,jW,jX,jY,jZ,jA,reduceIte,reduceCtorEq,jB,jC,jD,jE,jF,jG,hw1];exact al hb rfl rfl Ry ⟨rfl,rfl⟩
theorem Cw(s:Ts)(hs:cl s≤1000000)(σ:LLV):Fun G 67 [vts s] σ (aA (.d (ab (tsz s))) σ):=by
 refine ai Tryz.func67 k67 (by simp only[am];rfl) fun hb hw=>?_;unfold c67;simp -dsimp only[aw,jV,jW,jX,jY,jZ,jA,reduceIte,reduceCtorEq,jB,jC,jD,jE,jF,jG,am];refine ac (by simpa only[am]using tG (fun s=>(tsz s:Int)) 104 (fun s=>cl s≤1000000) (fun s h a ha=>by have:=f5 ha;omega) (fun s h=>h) (fun s h σ=>xT s h σ) s hs _) ?_;simp -dsimp only[aw,jV,jW,jX,jY,jZ,jA,reduceIte,reduceCtorEq,jB,jC,jD,jE,jF,jG];exact al hb rfl rfl Ry ⟨rfl,rfl⟩
theorem I5(l:List Ts):I6 ((l.map fun a=>(tdp a:Int))++[0])=(pH l:Nat):=by
 have H:∀(l:List Ts) (m:Int),0≤m->((l.map fun a=>(tdp a:Int))++[0]).foldl max m=max m (pH l:Nat):=by
  intro l
  induction l with
  | nil=>intro m hm;simp only[List.map_nil,List.nil_append,RW,List.foldl_nil,pH];rfl
  | cons a r ih=>intro m hm;simp only[RG,RU,RW,pH];rw[ih _ (by omega)];omega
 cases l with
 | nil=>rfl
 | cons a r=>simp only[RG,RU,I6,pH];rw[H r _ (by omega)];omega
theorem xG(s:Ts)(hs:cl s≤1000000)(σ:LLV):nC G 102 [vts s] 3 1 ((s.args.map fun a=>(tdp a:Int)).map fun n=>[ab n]) [] σ (aA (.d (ab (tdp s))) σ):=by
 have h1:=GP s;have h2:=KX s;have h3:=gm s;refine oa Tryz.func102 Pj (by simp only[am];rfl) fun hb hw=>?_;unfold LH;simp -dsimp only[aw,jV,jW,jX,jY,jZ,jA,reduceIte,reduceCtorEq,jB,jC,jD,jE,jF,jG,am];refine bQ (by first|omega|(simp only[Rz];omega)) ?_;simp -dsimp only[aw,jV,jW,jX,jY,jZ,jA,reduceIte,reduceCtorEq,jB,jC,jD,jE,jF,jG];have hc:=IJ ((s.args.map fun a=>(tdp a:Int))++[0]) (by simp) (by simp only[RD,Rz,RH,RN];omega) (σ++[[.d (ab s.op),.d (ab s.lo),.d (ab s.hi),.d (ab s.ex.op),.d (ab s.ex.num),.d (ae s.ex.name),.d (.sl (s.ex.args.map dex)),.d (ae s.name),.d (.sl (s.args.map dts))]]);rw[I5,vO,RE]at hc;refine ac hc ?_;have hw1:IntKind.i64.wrap (1+((pH s.args:Nat):Int))=(tdp s:Int):=by rw[aJ (by omega) (by omega),h1];omega
 simp -dsimp only[aw,jV,jW,jX,jY,jZ,jA,reduceIte,reduceCtorEq,jB,jC,jD,jE,jF,jG,hw1];exact al hb rfl rfl Ry ⟨rfl,rfl⟩
theorem x9(s:Ts)(hs:cl s≤1000000)(σ:LLV):Fun G 66 [vts s] σ (aA (.d (ab (tdp s))) σ):=by
 refine ai Tryz.func66 k66 (by simp only[am];rfl) fun hb hw=>?_;unfold c66;simp -dsimp only[aw,jV,jW,jX,jY,jZ,jA,reduceIte,reduceCtorEq,jB,jC,jD,jE,jF,jG,am];refine ac (by simpa only[am]using tG (fun s=>(tdp s:Int)) 102 (fun s=>cl s≤1000000) (fun s h a ha=>by have:=f5 ha;omega) (fun s h=>h) (fun s h σ=>xG s h σ) s hs _) ?_;simp -dsimp only[aw,jV,jW,jX,jY,jZ,jA,reduceIte,reduceCtorEq,jB,jC,jD,jE,jF,jG];exact al hb rfl rfl Ry ⟨rfl,rfl⟩
abbrev yD(l:List ByteArray):V:=.own 9 1 (l.map fun s=>[ae s])
theorem Dk(val:Ts->List ByteArray)(f:FuncId)(P:Ts->Prop)(hP:∀s,P s->∀a,a∈s.args->P a)(hB:∀s,P s->cl s≤1000000)
 (hf:∀s,P s->∀σ,nC G f [vts s] 92 1 (s.args.map fun a=>[D.sl ((val a).map fun s=>[ae s])]) [] σ (aA (yD (val s)) σ))(s:Ts):
 P s->∀σ,Fun G 171 [vts s,.fn f []] σ (aA (yD (val s)) σ):=by
 induction s using Ts.ind with
 | h s ih=>
 intro hs σ;have hbig:=hB s hs;have hln:=gm s;refine ai Tryz.func171 PM (by simp only[am];rfl) fun hb hw=>?_;unfold c171;simp -dsimp only[aw,jV,jW,jX,jY,jZ,jA,reduceIte,reduceCtorEq,jB,jC,jD,jE,jF,jG,am];refine bQ (by omega) ?_;simp -dsimp only[aw,jV,jW,jX,jY,jZ,jA,reduceIte,reduceCtorEq,jB,jC,jD,jE,jF,jG];refine bj [1,2,5,13,14,15] (R:=fun(j:Nat) ρ σ'=>ρ=[(1,.fn f []),(2,.ptr σ.length 0),(5,.own 92 1 ((s.args.take j).map fun a=>[D.sl ((val a).map fun s=>[ae s])])),(13,.d (.sl (s.args.map dts))),(14,aL .i64 s.args.length),(15,aL .i64 j)]/\σ'=σ++[[.d (ab s.op),.d (ab s.lo),.d (ab s.hi),.d (ab s.ex.op),.d (ab s.ex.num),.d (ae s.ex.name),.d (.sl (s.ex.args.map dex)),.d (ae s.name),.d (.sl (s.args.map dts))]]) s.args.length ⟨rfl,rfl⟩ ?_ _;rintro j ρ' σ' hj ⟨rfl,rfl⟩;by_cases hlt:j<s.args.length
 .simp -dsimp only[aw,jV,jW,jX,jY,jZ,jA,reduceIte,reduceCtorEq,jB,jC,jD,jE,jF,jG,Ru,hlt,decide_true,Rx hlt,bY s.args[j]];refine ac (by simpa only[am]using ih s.args[j] (RC hlt) (hP s hs _ (RC hlt)) _) ?_;have ht:s.args.take (j+1)=s.args.take j++[s.args[j]]:=by rw[RF,Rx hlt];rfl
  simp -dsimp only[aw,jV,jW,jX,jY,jZ,jA,reduceIte,reduceCtorEq,jB,jC,jD,jE,jF,jG];refine bQ (by first|omega|(simp only[Rz,RS];omega)) ?_;simp -dsimp only[aw,jV,jW,jX,jY,jZ,jA,reduceIte,reduceCtorEq,jB,jC,jD,jE,jF,jG,ba hlt (show s.args.length≤9223372036854775807 by omega)];refine⟨hlt,Nxt.drop1 (R0 _) (aE hb rfl) (by simp[ao,V.under,V.unders]) ⟨?_,rfl⟩⟩;rw[ht,RE];rfl
 .simp -dsimp only[aw,jV,jW,jX,jY,jZ,jA,reduceIte,reduceCtorEq,jB,jC,jD,jE,jF,jG,Ru,hlt,decide_false];rw[RB (show s.args.length≤j by omega)];refine wQ (by simpa only[am]using hf s hs _) ?_;simp -dsimp only[aw,jV,jW,jX,jY,jZ,jA,reduceIte,reduceCtorEq,jB,jC,jD,jE,jF,jG];exact al hb rfl rfl Ry ⟨rfl,rfl⟩
mutual
def tnm:Ts->List ByteArray
 | .mk o _ _ _ s l=>Js l++(if o=6 then[s]else[])
def Js:List Ts->List ByteArray
 | []=>[]
 | a::r=>tnm a++Js r
end
theorem C5(l:List Ts):Js l=(l.map tnm).flatten:=by
 induction l with
 | nil=>rfl
 | cons a r ih=>simp only[Js,ih,RG,List.flatten_cons]
theorem E0(s:Ts):tnm s=(s.args.map tnm).flatten++(if s.op=6 then[s.name]else[]):=by cases s;simp only[tnm,C5,Ts.args,Ts.op,Ts.name];rfl
theorem AH(s:Ts):(tnm s).length≤tsz s:=by
 induction s using Ts.ind with
 | h s ih=>
 rw[E0,yk,RD,RJ,RO]
 have H:∀l:List Ts,(∀a,a∈l->(tnm a).length≤tsz a)->(l.map (RA ∘ tnm)).sum≤(l.map tsz).sum:=by
  intro l
  induction l with
  | nil=>intro _;simp
  | cons a r ihr=>
   intro h;have h1:=h a (by simp);have h2:=ihr (fun x hx=>h x (by simp[hx]));show(tnm a).length+(r.map (RA ∘ tnm)).sum≤tsz a+(r.map tsz).sum;omega
 have:=H s.args ih;split<;>simp only[RH,RN]<;>omega
theorem Fy(s:Ts)(hs:cl s≤1000000)(σ:LLV):nC G 172 [vts s] 92 1 (s.args.map fun a=>[D.sl ((tnm a).map fun s=>[ae s])]) [] σ (aA (yD (tnm s)) σ):=by
 have h1:=E0 s;have h2:=AH s;have h3:=gm s;have h4:=zy s;have h5:((s.args.map tnm).map RA).sum≤(tnm s).length:=by rw[h1,RD,RJ];omega
 refine oa Tryz.func172 Pb (by simp only[am];rfl) fun hb hw=>?_;unfold On;simp -dsimp only[aw,jV,jW,jX,jY,jZ,jA,reduceIte,reduceCtorEq,jB,jC,jD,jE,jF,jG,am];have hc:=zf (s.args.map tnm) (by omega) (by rw[Rz];omega) (σ++[[.d (ab s.op),.d (ab s.lo),.d (ab s.hi),.d (ab s.ex.op),.d (ab s.ex.num),.d (ae s.ex.name),.d (.sl (s.ex.args.map dex)),.d (ae s.name),.d (.sl (s.args.map dts))]]);rw[RO]at hc;refine ac hc ?_;by_cases ho:s.op=6
 .rw[if_pos ho]at h1;have h6:(tnm s).length=((s.args.map tnm).flatten.map fun s=>[ae s]).length+1:=by rw[h1,RD,Rz];rfl
  simp -dsimp only[aw,jV,jW,jX,jY,jZ,jA,reduceIte,reduceCtorEq,jB,jC,jD,jE,jF,jG,decide_eq_true ho];refine bQ (by simp only[Rz]at h6 ⊢;omega) ?_;simp -dsimp only[aw,jV,jW,jX,jY,jZ,jA,reduceIte,reduceCtorEq,jB,jC,jD,jE,jF,jG];exact al (v:=yD (tnm s)) hb (by rw[h1];simp[JH,aU,bq,yD,aw,jV,jW,jX,jY,jZ,jA,reduceIte,reduceCtorEq,jB,jC,jD,jE,jF,jG]) rfl Ry ⟨rfl,rfl⟩
 .rw[if_neg ho,List.append_nil]at h1;simp -dsimp only[aw,jV,jW,jX,jY,jZ,jA,reduceIte,reduceCtorEq,jB,jC,jD,jE,jF,jG,decide_eq_false ho];exact al (v:=yD (tnm s)) hb (by rw[h1];rfl) rfl Ry ⟨rfl,rfl⟩
theorem IQ(s:Ts)(hs:cl s≤1000000)(σ:LLV):Fun G 142 [vts s] σ (aA (yD (tnm s)) σ):=by
 refine ai Tryz.func142 PP (by simp only[am];rfl) fun hb hw=>?_;unfold NO;simp -dsimp only[aw,jV,jW,jX,jY,jZ,jA,reduceIte,reduceCtorEq,jB,jC,jD,jE,jF,jG,am];refine ac (by simpa only[am]using Dk tnm 172 (fun s=>cl s≤1000000) (fun s h a ha=>by have:=f5 ha;omega) (fun s h=>h) (fun s h σ=>Fy s h σ) s hs _) ?_;simp -dsimp only[aw,jV,jW,jX,jY,jZ,jA,reduceIte,reduceCtorEq,jB,jC,jD,jE,jF,jG];first|exact au hb rfl rfl|exact av hb rfl rfl
theorem wk{C:Cx}{n0:Nat}{a b:Cd}{ρ:ah}{σ:LLV}{Q:cX}{t:Tag Q}(R:ah->LLV->Prop)(h1:dK C n0 a ρ σ (andThen R Q) .mk)(h2:∀ρ' σ',R ρ' σ'->dK C n0 b ρ' σ' Q .mk):dK C n0 (.seq a b) ρ σ Q t:=by
 rw[DY];refine jJ (fun e ρ' σ' h=>?_) h1;cases e with
 | normal=>exact h2 _ _ h
 | _=>exact h
def Mid(R:ah->LLV->Prop)(ρ:ah)(σ:LLV)(_:Tag R):Prop:=R ρ σ
theorem Mid.mk{R:ah->LLV->Prop}{ρ:ah}{σ:LLV}(h:R ρ σ):Mid R ρ σ .mk:=h
theorem m9{C:Cx}{n0:Nat}{a b:Cd}{ρ:ah}{σ:LLV}{Q:cX}{t:Tag Q}(R:ah->LLV->Prop)(h1:dK C n0 a ρ σ (andThen (fun ρ σ=>Mid R ρ σ .mk) Q) .mk)(h2:∀ρ' σ',R ρ' σ'->dK C n0 b ρ' σ' Q .mk):dK C n0 (.seq a b) ρ σ Q t:=
 wk _ h1 fun ρ' σ' h=>h2 ρ' σ' h
theorem p3{C:Cx}{n0:Nat}{a b:Cd}{ρ:ah}{σ:LLV}{Q:cX}{t:Tag Q}(ρ1:ah)(σ1:LLV)(h1:dK C n0 a ρ σ (fun e ρ' σ'=>e=.normal/\ρ'=ρ1/\σ'=σ1) .mk)(h2:dK C n0 b ρ1 σ1 Q .mk):dK C n0 (.seq a b) ρ σ Q t:=by
 rw[DY];refine jJ (fun e ρ' σ' h=>?_) h1;obtain⟨rfl,rfl,rfl⟩:=h;exact h2
def mN(e:Ex):Bool:=decide (e.op=0)&&(decide (e.num=0)&&(decide (e.name=⟨#[]⟩)&&decide (e.args.length=0)))
theorem v7(e:Ex)(σ:LLV):Fun G 141 [vex e] σ (aA (aq (mN e)) σ):=by
 refine ai Tryz.func141 Rm (by simp only[ak];rfl) fun hb hw=>?_;unfold NA mN;simp -dsimp only[aw,jV,jW,jX,jY,jZ,jA,reduceIte,reduceCtorEq,jB,jC,jD,jE,jF,jG,ak];refine bA (fun h1=>?_) (fun h1=>?_)
 .simp -dsimp only[aw,jV,jW,jX,jY,jZ,jA,reduceIte,reduceCtorEq,jB,jC,jD,jE,jF,jG];refine bA (fun h2=>?_) (fun h2=>?_)
  .simp -dsimp only[aw,jV,jW,jX,jY,jZ,jA,reduceIte,reduceCtorEq,jB,jC,jD,jE,jF,jG];refine bA (fun h3=>?_) (fun h3=>?_)
   .simp -dsimp only[aw,jV,jW,jX,jY,jZ,jA,reduceIte,reduceCtorEq,jB,jC,jD,jE,jF,jG];exact al hb rfl rfl Ry ⟨by rw[h1,h2,h3];simp;rfl,rfl⟩
   .simp -dsimp only[aw,jV,jW,jX,jY,jZ,jA,reduceIte,reduceCtorEq,jB,jC,jD,jE,jF,jG];exact al hb rfl rfl Ry ⟨by rw[h1,h2,h3];simp;rfl,rfl⟩
  .simp -dsimp only[aw,jV,jW,jX,jY,jZ,jA,reduceIte,reduceCtorEq,jB,jC,jD,jE,jF,jG];exact al hb rfl rfl Ry ⟨by rw[h1,h2];simp;rfl,rfl⟩
 .simp -dsimp only[aw,jV,jW,jX,jY,jZ,jA,reduceIte,reduceCtorEq,jB,jC,jD,jE,jF,jG];exact al hb rfl rfl Ry ⟨by rw[h1];simp;rfl,rfl⟩
def d5(o:Int):Bool:=decide (o=1)||(decide (o=6)||decide (o=7))
theorem dJ(o:Int)(σ:LLV):Fun G 140 [.d (ab o)] σ (aA (aq (d5 o)) σ):=by
 refine ai Tryz.func140 Pf rfl fun hb hw=>?_;unfold Og d5;simp -dsimp only[aw,jV,jW,jX,jY,jZ,jA,reduceIte,reduceCtorEq,jB,jC,jD,jE,jF,jG];refine bA (fun h1=>?_) (fun h1=>?_)
 .simp -dsimp only[aw,jV,jW,jX,jY,jZ,jA,reduceIte,reduceCtorEq,jB,jC,jD,jE,jF,jG];refine bA (fun h2=>?_) (fun h2=>?_)
  .simp -dsimp only[aw,jV,jW,jX,jY,jZ,jA,reduceIte,reduceCtorEq,jB,jC,jD,jE,jF,jG];exact al hb rfl rfl RL ⟨by simp_all;rfl,rfl⟩
  .simp -dsimp only[aw,jV,jW,jX,jY,jZ,jA,reduceIte,reduceCtorEq,jB,jC,jD,jE,jF,jG];exact al hb rfl rfl RL ⟨by simp_all;rfl,rfl⟩
 .simp -dsimp only[aw,jV,jW,jX,jY,jZ,jA,reduceIte,reduceCtorEq,jB,jC,jD,jE,jF,jG];exact al hb rfl rfl RL ⟨by simp_all;rfl,rfl⟩
def kh(s:Ts):Bool:=decide (s.lo=0)&&decide (s.hi=0)
def ku(s:Ts):Bool:=decide (s.lo≤s.hi)&&decide (s.hi≤16)
def jy(s:Ts):Bool:=
 if s.op=1 then decide (s.args.length=0)&&kh s
 else if s.op=2 then decide (s.args.length=2)&&(decide (0≤s.lo)&&ku s)
 else if s.op=3 then decide (s.args.length=1)&&(decide (1≤s.lo)&&ku s)
 else if s.op=4\/s.op=5 then decide (2≤s.args.length/\s.args.length≤8)&&kh s
 else if s.op=6\/s.op=7 then decide (s.args.length=1)&&kh s
 else false
abbrev wm(s:Ts):List V:=[.d (ab s.op),.d (ab s.lo),.d (ab s.hi),.d (ab s.ex.op),.d (ab s.ex.num),.d (ae s.ex.name),.d (.sl (s.ex.args.map dex)),.d (ae s.name),.d (.sl (s.args.map dts))]
def KV(s:Ts)(σ:LLV)(ρ':ah)(σ':LLV):Prop:=∃(lo hi:Nat) (p:Bool) (l:ah),(l=[]\/l=[(26,.d (ab 6)),(48,aq true)]\/l=[(48,aq true)])/\jy s=(decide (lo≤s.args.length/\s.args.length≤hi)&&p)/\ρ'=(1,.ptr σ.length 0)::(3,aL .i64 lo)::(4,aL .i64 hi)::(5,aq p)::l/\σ'=σ++[wm s]
theorem BT(s:Ts)(hs:s.args.length≤1000000)(σ:LLV):Fun G 139 [vts s] σ (aA (aq (jy s)) σ):=by
 refine ai Tryz.func139 P3 (by simp only[am];rfl) fun hb hw=>?_;unfold Nv;refine p3 [(1,.ptr σ.length 0)] (σ++[wm s]) ?_ ?_
 .simp -dsimp only[aw,jV,jW,jX,jY,jZ,jA,reduceIte,reduceCtorEq,jB,jC,jD,jE,jF,jG,am]
 refine p3 [(1,.ptr σ.length 0),(3,aL .i64 1),(4,aL .i64 1),(5,aq (kh s))] (σ++[wm s]) ?_ ?_
 .simp -dsimp only[aw,jV,jW,jX,jY,jZ,jA,reduceIte,reduceCtorEq,jB,jC,jD,jE,jF,jG];refine bA (fun h1=>?_) (fun h1=>?_)
  .simp -dsimp only[aw,jV,jW,jX,jY,jZ,jA,reduceIte,reduceCtorEq,jB,jC,jD,jE,jF,jG];simp[kh,h1]
  .simp -dsimp only[aw,jV,jW,jX,jY,jZ,jA,reduceIte,reduceCtorEq,jB,jC,jD,jE,jF,jG];simp[kh,h1]
 refine p3 [(1,.ptr σ.length 0),(3,aL .i64 1),(4,aL .i64 1),(5,aq (kh s)),(6,aq (ku s))] (σ++[wm s]) ?_ ?_
 .simp -dsimp only[aw,jV,jW,jX,jY,jZ,jA,reduceIte,reduceCtorEq,jB,jC,jD,jE,jF,jG];refine bA (fun h1=>?_) (fun h1=>?_)
  .simp -dsimp only[aw,jV,jW,jX,jY,jZ,jA,reduceIte,reduceCtorEq,jB,jC,jD,jE,jF,jG];simp[ku,h1]
  .simp -dsimp only[aw,jV,jW,jX,jY,jZ,jA,reduceIte,reduceCtorEq,jB,jC,jD,jE,jF,jG];simp[ku,h1]
 generalize hp:kh s=pB;generalize hq:ku s=wB
 have out:∀(lo hi:Nat) (p:Bool) (l:ah),(l=[]\/l=[(26,.d (ab 6)),(48,aq true)]\/l=[(48,aq true)])->jy s=(decide (lo≤s.args.length/\s.args.length≤hi)&&p)->
  dK G σ.length (.seq
  (.ops [
    ⟨(some 51),.fa 8 (.t 1),none⟩,
    ⟨(some 52),.load 1 false (.t 51),none⟩,
    ⟨(some 53),.len false (.t 52),none⟩,
    ⟨(some 54),.mv (.t 3),none⟩,
    ⟨(some 55),.bin .geq (.t 53) (.t 54),none⟩,
    ⟨(some 56),.mv (.t 55),none⟩,
    ⟨(some 57),.fa 8 (.t 1),(some (56,true))⟩,
    ⟨(some 58),.load 1 false (.t 57),(some (56,true))⟩,
    ⟨(some 59),.len false (.t 58),(some (56,true))⟩,
    ⟨(some 60),.mv (.t 4),(some (56,true))⟩,
    ⟨(some 61),.bin .leq (.t 59) (.t 60),(some (56,true))⟩,
    ⟨(some 62),.pick (.t 56) (.t 61) (.k (.d (.lit (.bool false)))),none⟩,
    ⟨(some 63),.mv (.t 62),none⟩,
    ⟨(some 64),.mv (.t 5),(some (63,true))⟩,
    ⟨(some 65),.pick (.t 63) (.t 64) (.k (.d (.lit (.bool false)))),none⟩,
    ⟨(some 2),.mv (.t 65),none⟩] [2]) .ret) ((1,.ptr σ.length 0)::(3,aL .i64 lo)::(4,aL .i64 hi)::(5,aq p)::l) (σ++[wm s]) (fin σ.length JI (aA (aq (jy s)) σ)) .mk:=by
  intro lo hi p l hl hsh;rcases hl with rfl|rfl|rfl
  all_goals
   simp -dsimp only[aw,jV,jW,jX,jY,jZ,jA,reduceIte,reduceCtorEq,jB,jC,jD,jE,jF,jG,Rw];refine bA (fun h1=>?_) (fun h1=>?_)
   .simp -dsimp only[aw,jV,jW,jX,jY,jZ,jA,reduceIte,reduceCtorEq,jB,jC,jD,jE,jF,jG,Rw];refine bA (fun h2=>?_) (fun h2=>?_)
    .simp -dsimp only[aw,jV,jW,jX,jY,jZ,jA,reduceIte,reduceCtorEq,jB,jC,jD,jE,jF,jG];exact al hb rfl rfl Ry ⟨by rw[hsh,Rs,h1,h2];simp;rfl,rfl⟩
    .simp -dsimp only[aw,jV,jW,jX,jY,jZ,jA,reduceIte,reduceCtorEq,jB,jC,jD,jE,jF,jG];exact al hb rfl rfl Ry ⟨by rw[hsh,Rs,h1,h2];simp;rfl,rfl⟩
   .simp -dsimp only[aw,jV,jW,jX,jY,jZ,jA,reduceIte,reduceCtorEq,jB,jC,jD,jE,jF,jG];exact al hb rfl rfl Ry ⟨by rw[hsh,Rs,h1];simp;rfl,rfl⟩
 refine wk (KV s σ) ?_ (fun ρ' σ' ⟨lo,hi,p,l,h0,h1,h2,h3⟩=>by subst h2;subst h3;exact out lo hi p l h0 h1);have len1:∀n:Nat,decide (s.args.length=n)=decide (n≤s.args.length/\s.args.length≤n):=fun n=>by congr 1;apply propext;omega
 have hsh:jy s=jy s:=rfl
 conv at hsh=>rhs;unfold jy
 rw[hp,hq]at hsh;by_cases o1:s.op=1
 .simp -dsimp only[aw,jV,jW,jX,jY,jZ,jA,reduceIte,reduceCtorEq,jB,jC,jD,jE,jF,jG,o1,Rv,decide_true,decide_false];exact⟨0,0,pB,[],.inl rfl,by rw[hsh,if_pos o1,len1],rfl,rfl⟩
 by_cases o2:s.op=2
 .simp -dsimp only[aw,jV,jW,jX,jY,jZ,jA,reduceIte,reduceCtorEq,jB,jC,jD,jE,jF,jG,o2,Rv,decide_true,decide_false];rw[if_neg o1,if_pos o2]at hsh;refine bA (fun h1=>?_) (fun h1=>?_)
  .simp -dsimp only[aw,jV,jW,jX,jY,jZ,jA,reduceIte,reduceCtorEq,jB,jC,jD,jE,jF,jG];exact⟨2,2,wB,[],.inl rfl,by rw[hsh,len1,h1];rfl,rfl,rfl⟩
  .simp -dsimp only[aw,jV,jW,jX,jY,jZ,jA,reduceIte,reduceCtorEq,jB,jC,jD,jE,jF,jG];exact⟨2,2,false,[],.inl rfl,by rw[hsh,len1,h1];rfl,rfl,rfl⟩
 by_cases o3:s.op=3
 .simp -dsimp only[aw,jV,jW,jX,jY,jZ,jA,reduceIte,reduceCtorEq,jB,jC,jD,jE,jF,jG,o3,Rv,decide_true,decide_false];rw[if_neg o1,if_neg o2,if_pos o3]at hsh;refine bA (fun h1=>?_) (fun h1=>?_)
  .simp -dsimp only[aw,jV,jW,jX,jY,jZ,jA,reduceIte,reduceCtorEq,jB,jC,jD,jE,jF,jG];exact⟨1,1,wB,[],.inl rfl,by rw[hsh,len1,h1];rfl,rfl,rfl⟩
  .simp -dsimp only[aw,jV,jW,jX,jY,jZ,jA,reduceIte,reduceCtorEq,jB,jC,jD,jE,jF,jG];exact⟨1,1,false,[],.inl rfl,by rw[hsh,len1,h1];rfl,rfl,rfl⟩
 rw[if_neg o1,if_neg o2,if_neg o3]at hsh;by_cases o4:s.op=4
 .simp -dsimp only[aw,jV,jW,jX,jY,jZ,jA,reduceIte,reduceCtorEq,jB,jC,jD,jE,jF,jG,o4,Rv,decide_true,decide_false];exact⟨2,8,pB,[],.inl rfl,by rw[hsh,if_pos (.inl o4)],rfl,rfl⟩
 by_cases o5:s.op=5
 .simp -dsimp only[aw,jV,jW,jX,jY,jZ,jA,reduceIte,reduceCtorEq,jB,jC,jD,jE,jF,jG,o5,Rv,decide_true,decide_false];exact⟨2,8,pB,[],.inl rfl,by rw[hsh,if_pos (.inr o5)],rfl,rfl⟩
 rw[if_neg (by omega)]at hsh;by_cases o6:s.op=6
 .simp -dsimp only[aw,jV,jW,jX,jY,jZ,jA,reduceIte,reduceCtorEq,jB,jC,jD,jE,jF,jG,o6,Rv,decide_true,decide_false];exact⟨1,1,pB,_,.inr (.inl rfl),by rw[hsh,if_pos (.inl o6),len1],rfl,rfl⟩
 by_cases o7:s.op=7
 .simp -dsimp only[aw,jV,jW,jX,jY,jZ,jA,reduceIte,reduceCtorEq,jB,jC,jD,jE,jF,jG,o7,Rv,decide_true,decide_false];exact⟨1,1,pB,_,.inr (.inr rfl),by rw[hsh,if_pos (.inr o7),len1],rfl,rfl⟩
 rw[if_neg (by omega)]at hsh;simp -dsimp only[aw,jV,jW,jX,jY,jZ,jA,reduceIte,reduceCtorEq,jB,jC,jD,jE,jF,jG,decide_eq_false o1,decide_eq_false o2,decide_eq_false o3,decide_eq_false o4,decide_eq_false o5,decide_eq_false o6,decide_eq_false o7];exact al hb rfl rfl Ry ⟨by rw[hsh];rfl,rfl⟩
end Go.Proofs.YthekkgfmagliiaaGreatDoor
