import Derived.Lib.AppendZerosOnto
import Derived.Lib.SliceRun
import Derived.Lib.Walk
import Derived.Test.YthekkgfmagliiaaGreatDoorPu
set_option linter.unusedVariables false
set_option linter.unusedSimpArgs false
set_option linter.unusedSectionVars false
set_option maxHeartbeats 2000000
open Bool renaming and_eq_true->RS,decide_and->RU
open Int renaming ofNat_lt->RW,reduceEq->RX,ofNat_le->RY
open List renaming getElem?_eq_getElem->RZ,take_left->R0,length_map->R5,length->R6,take_of_length_le->R7,length_append->R8,map_append->R9,take_add_one->Sa,length_cons->Sb,getElem_mem->Sc,map_cons->Sd,sum_append->Se,length_flatten->Sf,take_length->Si,length_take->Sj,eq_nil_of_length_eq_zero->Sk,length_nil->Sl,foldl_cons->Sm,takeWhile_cons_of_pos->Sn,map_map->So,take_append_drop->Sr,size_toArray->Ss,foldl_append->Su,cons_append->Sv,sum_cons->Sw,map->Sx
open Nat renaming le_refl->Sy,zero_add->SA,zero_le->SB
open UInt8 renaming toNat_inj->SC
namespace Go.Proofs.YthekkgfmagliiaaGreatDoor
open Go.RowKit
open Nat renaming reduceLeDiff -> jA, reduceBEq -> jB, reduceLT -> jC, reduceEqDiff -> jD, reduceAdd -> jE, reduceSub -> jF, reduceMul -> jG
open V renaming copy -> jV, lend -> jW, lend1 -> jX, cells -> jY, boxable -> jZ
theorem Ce(l:Bs)(d:UInt8):eS (l++[d])=10*eS l+(d.toNat-48):=by
 unfold eS;rw[Su];rfl
theorem Bv:∀(l:Bs) (n:Nat),n≤l.foldl (fun n c=>10*n+(c.toNat-48)) n
 | [],n=>Sy _
 | c::l,n=>Nat.le_trans (by omega) (Bv l (10*n+(c.toNat-48)))
theorem G7:∀(k:Nat) (l:Bs),l.length=k+1->(∀x,x∈l->cZ x.toNat=true)->(1<l.length->l.head? ≠ some 48)->Lib.decDigits (eS l)=l:=by
 intro k
 induction k with
 | zero=>
  intro l hl hd _
  match l,hl with
  | [d],_=>
   have:=hd d (by simp);simp only[cZ,RS,decide_eq_true_eq]at this;have e:eS [d]=d.toNat-48:=by simp[eS]
   rw[e,Lib.decDigits,dif_pos (by omega)];congr 1;rw[<-SC,il _ (by omega)];omega
 | succ k ih=>
  intro l hl hd hz
  obtain⟨x,d,rfl⟩:∃x d,l=x++[d]:=by
   rcases List.eq_nil_or_concat l with h|⟨x,d,h⟩
   .rw[h]at hl;simp at hl
   .exact⟨x,d,by rw[h];simp⟩
  have hxl:x.length=k+1:=by simpa using hl
  have hdd:=hd d (by simp);simp only[cZ,RS,decide_eq_true_eq]at hdd
  have hx:=ih x hxl (fun y hy=>hd y (by simp[hy])) (fun h1 h2=>hz (by simp;omega) (by
   cases x with
   | nil=>simp at hxl
   | cons a x=>simpa using h2))
  have hpos:1≤eS x:=by
   match x,hxl with
   | a::r,_=>
    have ha:=hd a (by simp);simp only[cZ,RS,decide_eq_true_eq]at ha;have hne:a≠48:=fun e=>hz (by simp) (by simp[e])
    have h49:49≤a.toNat:=by
     apply Classical.byContradiction;intro hh;exact hne (by rw[<-SC];show a.toNat=48;omega)
    have:=Bv r (10*0+(a.toNat-48));show 1≤(a::r).foldl _ 0;rw[Sm];omega
  rw[Ce,Lib.decDigits,dif_neg (by omega)];have e1:(10*eS x+(d.toNat-48))/10=eS x:=by omega
  have e2:(10*eS x+(d.toNat-48))%10=d.toNat-48:=by omega
  rw[e1,e2,hx];congr 2;rw[<-SC,il _ (by omega)];omega
theorem xh:∀(k u:Nat),u<10^(k+1)->(Lib.decDigits u).length≤k+1
 | 0,u,h=>by rw[Lib.decDigits,dif_pos (by omega)];simp
 | k+1,u,h=>by
  rw[Lib.decDigits];split
  .simp
  .have:=xh k (u/10) (by rw[Nat.pow_succ]at h;omega);simp;omega
theorem C4{c:UInt8}{r:Bs}{kd n:Int}{len:Nat}(N:Int)(h:bY (c::r)=.tok kd n len):bC (gJ N (c::r) kd n len)=true/\len≤16:=by
 have htake:∀(p:UInt8->Bool),(c::r).take ((c::r).takeWhile p).length=(c::r).takeWhile p:=fun p=>(List.prefix_iff_eq_take.1 (List.takeWhile_prefix p)).symm;simp only[bY]at h;split at h
 .rename_i hl;split at h
  .cases h
  .rename_i h16;cases h;refine⟨?_,by omega⟩;unfold gJ;rw[htake]
   have hall:∀x,x∈(c::r).takeWhile inn->inn x=true:=fun x hx=>by
    have:=List.all_takeWhile (p:=inn) (l:=c::r);exact List.all_eq_true.1 this x hx
   have hinc:inn c=true:=by unfold inn fm;simp[hl]
   have hne:(c::r).takeWhile inn=c::r.takeWhile inn:=Sn hinc
   have hw:fv (⟨((c::r).takeWhile inn).toArray⟩:ByteArray)=true:=by
    unfold fv;show jf ((c::r).takeWhile inn)=true;rw[hne]at hall ⊢;simp only[jf,hl,Bool.true_and];rw[List.all_eq_true];exact hall
   by_cases hk:inB ⟨((c::r).takeWhile inn).toArray⟩ dn=true
   .rw[if_pos hk];unfold bC;simp[hk]
   .have hsz:(⟨((c::r).takeWhile inn).toArray⟩:ByteArray).size≤16:=by rw[Lib.size_eq];simpa using h16
    rw[if_neg hk];have hk2:inB ⟨((c::r).takeWhile inn).toArray⟩ dn=false:=by simpa using hk
    unfold bC bt;simp only[hw,hk2,hsz,decide_true,Bool.and_self,Bool.not_false];rfl
 .split at h
  .rename_i hd;split at h
   .cases h
   .rename_i h1;split at h
    .cases h
    .rename_i h2;cases h
     have hd2:∀x,x∈(c::r).takeWhile inn->cZ x.toNat=true:=fun x hx=>by
      have:((c::r).takeWhile inn).all (fun x=>cZ x.toNat)=true:=by
       cases hh:((c::r).takeWhile inn).all fun x=>cZ x.toNat with
       | true=>rfl
       | false=>exact absurd (.inl hh) h1
      exact List.all_eq_true.1 this x hx
     have hne:(c::r).takeWhile inn=c::r.takeWhile inn:=Sn (by unfold inn fm;simp[hd])
     have hz:1<((c::r).takeWhile inn).length->((c::r).takeWhile inn).head? ≠ some 48:=fun hh e=>by
      rw[hne]at e;simp at e;exact h1 (.inr ⟨hh,e⟩)
     have hb:=G7 (r.takeWhile inn).length _ (by rw[hne];rfl) hd2 hz
     have hlen:((c::r).takeWhile inn).length≤16:=by
      have:=xh 9 (eS ((c::r).takeWhile inn)) (by omega);rw[hb]at this;omega
     refine⟨?_,hlen⟩;unfold gJ;rw[htake];unfold bC;simp[hb];omega
  .split at h
   .cases h
   .rename_i hb;cases h;rcases qy aS 0 (c::r)with h1|⟨m,h1,h2,h3⟩
    .exact absurd h1 hb
    .have h5:=pW m h1;have h6:cG (c::r)=m.length:=h3;refine⟨?_,by rw[h6];omega⟩;unfold gJ;rw[h6,<-List.prefix_iff_eq_take.1 (List.isPrefixOf_iff_prefix.1 h2)];unfold bC;simp[h1]
theorem Du:∀(k:Nat) (N:Int) (l:Bs) (ts:List Tok),l.length≤k->d8 N l=.ok ts->(∀t,t∈ts->bC t=true/\t.text.size≤16)/\ts.length≤l.length:=by
 intro k
 induction k with
 | zero=>
  intro N l ts h ht;have:l=[]:=Sk (by omega);subst this;rw[bF,dZ]at ht;cases ht;simp
 | succ k ih=>
  intro N l ts h ht;rw[bF]at ht;have hs:=(eU l).length_le;cases hsk:bM l with
  | nil=>rw[hsk]at ht;cases ht;simp
  | cons c r=>
   rw[hsk]at ht hs;simp only at ht;cases hrd:bY (c::r)with
   | err e=>rw[hrd]at ht;cases ht
   | tok kd n len=>
    obtain⟨g1,g2⟩:=jU hrd;obtain⟨v1,v2⟩:=C4 N hrd;rw[hrd]at ht;simp only at ht;have hdl:=List.length_drop (l:=c::r) (i:=len);cases hq:d8 N ((c::r).drop len)with
    | err x e=>rw[hq]at ht;cases ht
    | ok us=>
     rw[hq]at ht;cases ht;obtain⟨i1,i2⟩:=ih N _ us (by omega) hq;refine⟨fun t ht=>?_,by simp only[Sb]at *;omega⟩;rcases List.mem_cons.1 ht with rfl|ht
     .refine⟨v1,?_⟩;unfold gJ;rw[Lib.size_eq];simp only[Sj,Ss];simp;omega
     .exact i1 t ht
theorem gE{l:Bs}{ts:List Tok}(h:dP l=.ok ts):(∀t,t∈ts->bC t=true/\t.text.size≤16)/\ts.length≤l.length:=Du _ _ l ts (Sy _) h
theorem pV{f:FuncId}{fn:Func}{args:List V}{x:V}{σ:LLV}(hf:Tryz.prog.funcs[f]? = some fn)(hn:(fn.name == "runtime.NumGoroutine")=false)(hb:fn.body.isNone=false)(hx:∀T k rows,x≠.own T k rows)
 (h:∀(M:aq) (bm:List Nat) (w:World) (vs:List Value),G.cells M->M.hold w->vs.length=args.length->(∀i (h:i<args.length) (h':i<vs.length),Rep M bm args[i] vs[i])->
   Calls Tryz.prog f vs.toArray w fun e w'=>∃u,e=.returned u/\Ext w w'/\Rep (tH w w') [] x u):Fun G f args σ (az x σ):=by
 refine⟨bN (P:=Tryz.prog) hf hn hb,fun M bm tk pr w vs hG hI ht hl hr=>(h M bm w vs hG.1 hI.facts hl hr).mono fun e w' ⟨u,he,hx',hu⟩=>?_⟩;have hlt:∀b,b<w.heap.size->∀o,(if w.heap.size≤b then w'.cell? ⟨b,o,none⟩else M b o)=M b o:=fun b hb o=>if_neg (by omega)
 have hle:M.le fun b o=>if w.heap.size≤b then w'.cell? ⟨b,o,none⟩else M b o:=fun b o x hm=>by
  have hb:=hI.facts.lt hm;show(if w.heap.size≤b then w'.cell? ⟨b,o,none⟩else M b o)=some x;rw[hlt b hb o];exact hm
 obtain⟨h1,h2⟩:=hI.grow (M':=fun b o=>if w.heap.size≤b then w'.cell? ⟨b,o,none⟩else M b o) hx' hle (fun b o x hm=>by
  by_cases hb:w.heap.size≤b
  .simpa only[if_pos hb]using hm
  .simp only[if_neg hb]at hm;exact hx'.cell (hI.facts b o x hm)) hlt
 refine⟨_,bm,tk,σ,.ret x,⟨rfl,rfl⟩,h1,h2,fun v e=>?_,fun v e=>by cases e⟩;cases e;refine⟨u,he,hu.mono (fun b o x hm=>?_) (fun i b h=>by simp at h),fun T k rows e=>absurd e (hx T k rows)⟩;unfold tH at hm;split at hm
 .rename_i hb;simp only[if_pos hb];exact hm
 .cases hm
theorem tS{M:aq}{l:List ByteArray}{p:Option Addr}{cap:Nat}(h1:l.length≤cap)(h2:cap≤maxLen)(hs:∀s,s∈l->s.size≤maxLen)
 (h:∀i s,l[i]? = some s->∃b off,p=some ⟨b,off,none⟩/\M b (off+i)=some (.string s)):DRep M (dA l) (.slice p l.length cap):=by
 have hlen:l.length=(l.map fun s=>[ae s]).length:=by simp
 unfold dA;rw[hlen];refine .sl _ 1 p cap (fun i _=>.string (l[i]?.getD ⟨#[]⟩)) (fun r hr=>?_) (fun i j hi hj=>?_) (fun i hi=>?_) (by omega) h2
 .obtain⟨s,-,rfl⟩:=List.mem_map.1 hr;rfl
 .have hi':i<l.length:=by simpa using hi
  have hj0:j=0:=by simpa using hj
  subst hj0;simp only[List.getElem_map,List.getElem_cons_zero,RZ hi',Option.getD_some];exact .lit _ (hs _ (Sc hi'))
 .have hi':i<l.length:=by simpa using hi
  obtain⟨b,off,h7,h8⟩:=h i _ (RZ hi');refine⟨b,off,h7,fun j hj=>?_⟩;have hj0:j=0:=by omega
  subst hj0;simp only[RZ hi',Option.getD_some];simpa using h8
theorem yk{w w':World}{T:TypeId}{v:Value}{l:List ByteArray}(h:w'.ownsRow 0 T 1 v l.length (l.map Value.string))(hg:∀k,v.ownBlock=some k->w.heap.size≤k)(hs:∀s,s∈l->s.size≤maxLen):DRep (tH w w') (dA l) v:=by
 obtain⟨p,cap,rfl,h1,h2,h3⟩:=jl h;refine tS h1 h2 hs fun i s hi=>?_;obtain⟨b,off,rfl,h4⟩:=h3 i s hi;exact⟨b,off,rfl,by unfold tH;rw[if_pos (hg b rfl)];exact h4⟩
theorem rR{w:World}{ops:List Int}{e:Ex}{cs:List Value}(h:ExRep w e cs):∀x:List ByteArray,(∀s,s∈x->s.size≤maxLen)->∀s,s∈(d7 (ck ops) e x).1->s.size≤maxLen:=by
 induction h with
 | mk o n s l v css hl hc hv ho hn hs ih=>
  intro x hx
  have H:∀(r:List Ex),(∀a,a∈r->a∈l)->∀x:List ByteArray,(∀s,s∈x->s.size≤maxLen)->∀s,s∈(ez (ck ops) r x).1->s.size≤maxLen:=by
   intro r
   induction r with
   | nil=>intro _ x hx;exact hx
   | cons a r ihr=>
    intro hr x hx;rw[ez,if_pos (mE _ a x)];obtain⟨i,hi,hia⟩:=List.getElem_of_mem (hr a (by simp));subst hia;exact ihr (fun y hy=>hr y (by simp[hy])) _ (ih i hi (by omega) x hx)
  rw[d7,if_pos (show(ck ops x (Ex.mk o n s l)).2=true from rfl)];refine H l (fun _ h=>h) _ ?_;intro t ht;rcases wW ht with h|⟨rfl,h⟩
  .exact hx t h
  .exact hs
theorem DT(e:Ex)(hs:aT e≤1000000)(σ:LLV):Fun G 144 [vex e] σ (az (.d (dA (cM [2] e))) σ):=
 pV Tryz.func144 (by kernel_rfl) (by kernel_rfl) (fun _ _ _ h=>by cases h) fun M bm w vs hG hM hl hr=>match vs,hl with
  | [v],_=>(Di e w v (j8 hM (hr 0 (by simp) (by simp))) hs).mono fun en w' ⟨u,h1,h2,h3,h4⟩=>by
   obtain⟨cs,h5,-⟩:=j8 hM (hr 0 (by simp) (by simp));exact⟨u,h1,h4,.d (yk h2 h3 (rR h5 [] (by simp)))⟩
def uQ(tk:bD)(g:Option Nat):bD:=fun i j=>match i,j with
 | none,0=>g
 | i,j=>tk i j
theorem uK{f:FuncId}{fn:Func}{args:List V}{l:List ByteArray}{σ:LLV}(hf:Tryz.prog.funcs[f]? = some fn)(hn:(fn.name == "runtime.NumGoroutine")=false)(hb:fn.body.isNone=false)
 (h:∀(M:aq) (bm:List Nat) (w:World) (vs:List Value),G.cells M->M.hold w->vs.length=args.length->(∀i (h:i<args.length) (h':i<vs.length),Rep M bm args[i] vs[i])->(∀s,s∈l->s.size≤maxLen)/\Calls Tryz.prog f vs.toArray w (qv l w)):
 Fun G f args σ (az (.own 9 1 (l.map fun s=>[ae s])) σ):=by
 refine⟨bN (P:=Tryz.prog) hf hn hb,fun M bm tk pr w vs hG hI ht hl hr=>(h M bm w vs hG.1 hI.facts hl hr).2.mono fun e w' ⟨v,he,hrow,hg,hx⟩=>?_⟩;have hs:=(h M bm w vs hG.1 hI.facts hl hr).1;have hlt:∀b,b<w.heap.size->∀o,(if w.heap.size≤b then(if o<l.length then w'.cell? ⟨b,o,none⟩else none)else M b o)=M b o:=fun b hb o=>if_neg (by omega)
 have hle:M.le fun b o=>if w.heap.size≤b then(if o<l.length then w'.cell? ⟨b,o,none⟩else none)else M b o:=fun b o x hm=>by
  have hb:=hI.facts.lt hm;show(if w.heap.size≤b then(if o<l.length then w'.cell? ⟨b,o,none⟩else none)else M b o)=some x;rw[hlt b hb o];exact hm
 obtain⟨h1,h2⟩:=hI.grow (M':=fun b o=>if w.heap.size≤b then(if o<l.length then w'.cell? ⟨b,o,none⟩else none)else M b o) hx hle (fun b o x hm=>by
  by_cases hb:w.heap.size≤b
  .simp only[if_pos hb]at hm;split at hm
   .exact hm
   .cases hm
  .simp only[if_neg hb]at hm;exact hx.cell (hI.facts b o x hm)) hlt
 have hgl:∀g,v.ownBlock=some g->g<w'.heap.size:=fun g hgg=>by
  obtain⟨-,⟨rfl,-⟩|⟨g',cap,cur,rfl,-,h3,-⟩⟩:=hrow
  .cases hgg
  .cases hgg;exact(Array.getElem?_eq_some_iff.1 h3).1
 have hbm:=hI.bm_lt
 have hI2:Inv (fun b o=>if w.heap.size≤b then(if o<l.length then w'.cell? ⟨b,o,none⟩else none)else M b o) bm σ (uQ tk v.ownBlock) pr w':=by
  refine⟨h1.facts,h1.len,h1.box,h1.free,h1.bmnd,fun i j g hij=>?_,fun i j i' j' g h3 h4=>?_,h1.prlt⟩
  .unfold uQ at hij;split at hij
   .have:=hg g hij;exact⟨hgl g hij,fun hb=>by have:=hbm g hb;omega,fun hp=>by have:=hI.prlt g hp;omega⟩
   .exact h1.tok _ _ _ hij
  .have old:∀i j,tk i j=some g->g<w.heap.size:=fun i j hij=>(hI.tok _ _ _ hij).1;unfold uQ at h3 h4;split at h3<;>split at h4
   .exact⟨rfl,rfl⟩
   .have:=hg g h3;have:=old _ _ h4;omega
   .have:=hg g h4;have:=old _ _ h3;omega
   .exact h1.inj _ _ _ _ _ h3 h4
 refine⟨_,bm,uQ tk v.ownBlock,σ,.ret (.own 9 1 (l.map fun s=>[ae s])),⟨rfl,rfl⟩,hI2,h2,fun x e=>?_,fun x e=>by cases e⟩;cases e;have hlen:(l.map fun s=>[ae s]).length=l.length:=by simp
 refine⟨v,he,.own ?_,fun T k rows e=>?_⟩
 .obtain⟨p,cap,rfl,g1,g2,g3⟩:=jl hrow;refine tS g1 g2 hs fun i s hi=>?_;obtain⟨b,off,rfl,g4⟩:=g3 i s hi;refine⟨b,off,rfl,?_⟩
  have hb0:off=0:=by
   obtain⟨-,⟨e,-⟩|⟨g',cap',cur,e,-⟩⟩:=hrow
   .cases e
   .cases e;rfl
  subst hb0;have hil:=(List.getElem?_eq_some_iff.1 hi).1;have:=hg b rfl;simp only[SA]at g4 ⊢;rw[if_pos this,if_pos hil];exact g4
 .cases e;have hrow':=hrow;obtain⟨g0,⟨rfl,g1⟩|⟨g,cap,cur,rfl,g2,g3,g4⟩⟩:=hrow
  .exact .inl ⟨rfl,by have:l=[]:=Sk g1;simp[this]⟩
  .refine .inr ⟨g,_,rfl,rfl,fun r hr=>?_,by rw[hlen];exact hrow',fun o x hm=>?_⟩
   .obtain⟨s,-,rfl⟩:=List.mem_map.1 hr;rfl
   .have:=hg g rfl;simp only[if_pos this]at hm;split at hm
    .rw[hlen];omega
    .cases hm
theorem pP(s:ByteArray)(σ:LLV):Fun G 49 [.d (ae s)] σ (az (.d (.lit (.bool (bt s)))) σ):=
 yr Tryz.func49 (by kernel_rfl) (by kernel_rfl) trivial fun M bm w v hG hM hr=>by
  cases hr with
  | d hr=>cases hr with
   | lit _ h=>exact gO s w (by simp only[dx,maxLen]at h;omega) (qr hG hM)
theorem Aq(e:Ex)(hs:aT e≤1000000)(hd:ce e≤999999)(σ:LLV):Fun G 77 [vex e] σ (az (.d (dA (cM [2] e))) σ):=
 pV Tryz.func77 (by kernel_rfl) (by kernel_rfl) (fun _ _ _ h=>by cases h) fun M bm w vs hG hM hl hr=>match vs,hl with
  | [v],_=>(zi e w v (j8 hM (hr 0 (by simp) (by simp))) hs hd).mono fun en w' ⟨u,h1,h2,h3,h4⟩=>by
   obtain⟨cs,h5,-⟩:=j8 hM (hr 0 (by simp) (by simp));rw[(uc e hs).2.2.2.1]at h2;exact⟨u,h1,h4,.d (yk h2 h3 (rR h5 [] (by simp)))⟩
theorem pZ(s:ByteArray)(σ:LLV):Fun G 37 [.d (ae s)] σ (az (.d (.lit (.bool (bt s)))) σ):=
 yr Tryz.func37 (by kernel_rfl) (by kernel_rfl) trivial fun M bm w v hG hM hr=>by
  cases hr with
  | d hr=>cases hr with
   | lit _ h=>exact jH s w (by simp only[dx,maxLen]at h;omega)
inductive Ts where
 | mk (op lo hi:Int) (e:Ex) (name:ByteArray) (args:List Ts)
namespace Ts
def op:Ts->Int|mk o _ _ _ _ _=>o
def lo:Ts->Int|mk _ a _ _ _ _=>a
def hi:Ts->Int|mk _ _ b _ _ _=>b
def ex:Ts->Ex|mk _ _ _ e _ _=>e
def name:Ts->ByteArray|mk _ _ _ _ s _=>s
def args:Ts->List Ts|mk _ _ _ _ _ l=>l
end Ts
mutual
theorem Ts.ind{P:Ts->Prop}(h:∀s:Ts,(∀a,a∈s.args->P a)->P s):∀s,P s
 | .mk o a b e s l=>h (.mk o a b e s l) (Ts.inds h l)
theorem Ts.inds{P:Ts->Prop}(h:∀s:Ts,(∀a,a∈s.args->P a)->P s):∀l:List Ts,∀a,a∈l->P a
 | [],_,ha=>nomatch ha
 | b::r,a,ha=>by
  rcases List.mem_cons.1 ha with e|e
  .rw[e];exact Ts.ind h b
  .exact Ts.inds h r a e
end
mutual
def dts:Ts->List D
 | .mk o a b e s l=>[ab o,ab a,ab b,ab e.op,ab e.num,ae e.name,.sl (e.args.map dex),ae s,.sl (IK l)]
def IK:List Ts->LLD
 | []=>[]
 | a::r=>dts a::IK r
end
theorem FQ(l:List Ts):IK l=l.map dts:=by
 induction l with
 | nil=>rfl
 | cons a r ih=>simp only[IK,ih,Sd]
theorem bw(s:Ts):dts s=[ab s.op,ab s.lo,ab s.hi,ab s.ex.op,ab s.ex.num,ae s.ex.name,.sl (s.ex.args.map dex),ae s.name,.sl (s.args.map dts)]:=by
 cases s;simp only[dts,FQ,Ts.op,Ts.lo,Ts.hi,Ts.ex,Ts.name,Ts.args]
def vts(s:Ts):V:=.agg ((dts s).map V.d)
theorem ak(s:Ts):vts s=.agg [.d (ab s.op),.d (ab s.lo),.d (ab s.hi),.d (ab s.ex.op),.d (ab s.ex.num),.d (ae s.ex.name),.d (.sl (s.ex.args.map dex)),.d (ae s.name),.d (.sl (s.args.map dts))]:=by
 unfold vts;rw[bw];rfl
theorem lJ(s:Ts):(dts s).length=9:=by rw[bw];rfl
mutual
def bd:Ts->Nat
 | .mk _ _ _ e _ l=>1+aT e+cj l
def cj:List Ts->Nat
 | []=>0
 | a::r=>bd a+cj r
end
theorem gm(s:Ts):bd s=1+aT s.ex+cj s.args:=by cases s;rfl
theorem tB{l:List Ts}{a:Ts}(h:a∈l):bd a≤cj l:=by
 induction l with
 | nil=>cases h
 | cons b r ih=>
  simp only[cj];rcases List.mem_cons.1 h with e|e
  .subst e;omega
  .have:=ih e;omega
theorem d5{s a:Ts}(h:a∈s.args):bd a<bd s:=by
 have:=tB h;rw[gm s];omega
theorem ut(l:List Ts):l.length≤cj l:=by
 induction l with
 | nil=>simp[cj]
 | cons b r ih=>
  have:=gm b;simp only[cj,Sb];omega
theorem ey(s:Ts):s.args.length<bd s:=by
 have:=ut s.args;rw[gm s];omega
theorem l8(e:Ex):ce e≤aT e:=by
 induction e using Ex.ind with
 | h o m s l ih=>
 simp only[ce,aT]
 have H:∀(r:List Ex),(∀a,a∈r->a∈l)->dg r≤ba r:=by
  intro r
  induction r with
  | nil=>intro _;simp[dg,ba]
  | cons a r ihr=>
   intro hm;have h1:=ih a (hm a (by simp));have h2:=ihr (fun x hx=>hm x (by simp[hx]));simp only[dg,ba];omega
 have:=H l (fun _ h=>h);omega
mutual
def tsz:Ts->Nat
 | .mk _ _ _ _ _ l=>1+IA l
def IA:List Ts->Nat
 | []=>0
 | a::r=>tsz a+IA r
end
theorem Gw(l:List Ts):IA l=(l.map tsz).sum:=by
 induction l with
 | nil=>rfl
 | cons a r ih=>simp only[IA,ih,Sd,Sw]
theorem pt(s:Ts):tsz s=1+(s.args.map tsz).sum:=by cases s;simp only[tsz,Gw,Ts.args]
theorem z6(s:Ts):tsz s≤bd s:=by
 induction s using Ts.ind with
 | h s ih=>
 rw[pt,gm]
 have H:∀l:List Ts,(∀a,a∈l->tsz a≤bd a)->(l.map tsz).sum≤cj l:=by
  intro l
  induction l with
  | nil=>intro _;simp[cj]
  | cons a r ihr=>
   intro h;have h1:=h a (by simp);have h2:=ihr (fun x hx=>h x (by simp[hx]));simp only[Sd,Sw,cj];omega
 have:=H s.args ih;omega
mutual
def tdp:Ts->Nat
 | .mk _ _ _ _ _ l=>1+lm l
def lm:List Ts->Nat
 | []=>0
 | a::r=>max (tdp a) (lm r)
end
theorem uM(s:Ts):tdp s=1+lm s.args:=by cases s;rfl
theorem vZ{l:List Ts}{a:Ts}(h:a∈l):tdp a≤lm l:=by
 induction l with
 | nil=>cases h
 | cons b r ih=>
  simp only[lm];rcases List.mem_cons.1 h with e|e
  .subst e;omega
  .have:=ih e;omega
theorem LH(s:Ts):tdp s≤bd s:=by
 induction s using Ts.ind with
 | h s ih=>
 rw[uM,gm]
 have H:∀l:List Ts,(∀a,a∈l->tdp a≤bd a)->lm l≤cj l:=by
  intro l
  induction l with
  | nil=>intro _;simp[lm]
  | cons a r ihr=>
   intro h;have h1:=h a (by simp);have h2:=ihr (fun x hx=>h x (by simp[hx]));simp only[lm,cj];omega
 have:=H s.args ih;omega
theorem Nxt.drop1{n0:Nat}{R:ah->LLV->Prop}{ρ:ah}{σ:LLV}{a b:List V}(hn:n0≤σ.length)(hb:aj (σ++[a]).length (σ++[a])=true)(hs:am (σ++[a]).length ρ=true)(hR:R ρ (σ++[a])):Nxt n0 R ρ (σ++[a,b]) .mk:=by
 have e:σ++[a,b]=(σ++[a])++[b]:=by simp
 rw[e];exact Nxt.drop (by rw[R8];omega) hb hs hR
theorem uq(val:Ts->Int)(f:FuncId)(P:Ts->Prop)(hP:∀s,P s->∀a,a∈s.args->P a)(hB:∀s,P s->bd s≤1000000)
 (hf:∀s,P s->∀σ,mn G f [vts s] 3 1 ((s.args.map val).map fun n=>[ab n]) [] σ (az (.d (ab (val s))) σ))(s:Ts):
 P s->∀σ,Fun G 101 [vts s,.fn f []] σ (az (.d (ab (val s))) σ):=by
 induction s using Ts.ind with
 | h s ih=>
 intro hs σ;have hbig:=hB s hs;have hln:=ey s;refine ai Tryz.func101 Qm (by simp only[ak];rfl) fun hb hw=>?_;unfold PI;simp -dsimp only[aw,jV,jW,jX,jY,jZ,jA,reduceIte,reduceCtorEq,jB,jC,jD,jE,jF,jG,ak];refine bH (by omega) ?_;simp -dsimp only[aw,jV,jW,jX,jY,jZ,jA,reduceIte,reduceCtorEq,jB,jC,jD,jE,jF,jG];refine aY [1,2,5,13,14,15] (R:=fun(j:Nat) ρ σ'=>ρ=[(1,.fn f []),(2,.ptr σ.length 0),(5,.own 3 1 (((s.args.take j).map val).map fun n=>[ab n])),(13,.d (.sl (s.args.map dts))),(14,aI .i64 s.args.length),(15,aI .i64 j)]/\σ'=σ++[[.d (ab s.op),.d (ab s.lo),.d (ab s.hi),.d (ab s.ex.op),.d (ab s.ex.num),.d (ae s.ex.name),.d (.sl (s.ex.args.map dex)),.d (ae s.name),.d (.sl (s.args.map dts))]]) s.args.length ⟨rfl,rfl⟩ ?_ _;rintro j ρ' σ' hj ⟨rfl,rfl⟩;by_cases hlt:j<s.args.length
 .simp -dsimp only[aw,jV,jW,jX,jY,jZ,jA,reduceIte,reduceCtorEq,jB,jC,jD,jE,jF,jG,RW,hlt,decide_true,RZ hlt,bw s.args[j]];refine ac (by simpa only[ak]using ih s.args[j] (Sc hlt) (hP s hs _ (Sc hlt)) _) ?_;have ht:s.args.take (j+1)=s.args.take j++[s.args[j]]:=by rw[Sa,RZ hlt];rfl
  simp -dsimp only[aw,jV,jW,jX,jY,jZ,jA,reduceIte,reduceCtorEq,jB,jC,jD,jE,jF,jG];refine bH (by first|omega|(simp only[R5,Sj];omega)) ?_;simp -dsimp only[aw,jV,jW,jX,jY,jZ,jA,reduceIte,reduceCtorEq,jB,jC,jD,jE,jF,jG,bl hlt (show s.args.length≤9223372036854775807 by omega)];refine⟨hlt,Nxt.drop1 (Sy _) (av hb rfl) (by simp[am,V.under,V.unders]) ⟨?_,rfl⟩⟩;rw[ht,R9,R9];rfl
 .simp -dsimp only[aw,jV,jW,jX,jY,jZ,jA,reduceIte,reduceCtorEq,jB,jC,jD,jE,jF,jG,RW,hlt,decide_false];rw[R7 (show s.args.length≤j by omega)];refine qD (by simpa only[ak]using hf s hs _) ?_;simp -dsimp only[aw,jV,jW,jX,jY,jZ,jA,reduceIte,reduceCtorEq,jB,jC,jD,jE,jF,jG];exact ao hb rfl rfl R0 ⟨rfl,rfl⟩
theorem Tryz.under_strs:Tryz.prog.underlying 92=some (.slice 9):=by kernel_rfl
theorem Tryz.under_int:Tryz.prog.underlying 3=some (.int .i64):=by kernel_rfl
theorem B4(w:World):Calls Tryz.prog 202 #[.slice none 0 0,.int .i64 0] w fun e w'=>e=.returned (.slice none 0 0)/\w'=w:=by
 have h2:wrap64 ((0:Int)-(0:Int))=0:=by unfold wrap64;omega
 go_enter Tryz.func202,Tryz.ntmps202;go_wp2_with fail;go_ret;exact⟨rfl,rfl⟩
theorem Fh(n:Nat)(h0:0<n)(hn:n≤1000000)(w:World):Calls Tryz.prog 202 #[.slice none 0 0,.int .i64 n] w fun e w'=>
 e=.returned (.slice (some ⟨w.heap.size,0,none⟩) 0 (grownCap w n 0 9))/\
  w'=w.drew.alloc (.cells (Builtin.zeroCells #[.string ⟨#[]⟩] n++Builtin.zeroCells #[.string ⟨#[]⟩] (grownCap w n 0 9-n)) 9):=by
 obtain⟨i0,hi0,hz0,hs0,hb0⟩:∃i0,Tryz.prog.info? 9=some i0/\i0.zero=some (.string ⟨#[]⟩)/\i0.size=1/\i0.bytes=16:=by
  have h:=Tryz.infoS;cases hi:Tryz.prog.info? 9 with
  | none=>rw[hi]at h;cases h
  | some i0=>rw[hi]at h;simp only[Option.map_some,Option.some.injEq,Prod.mk.injEq]at h;exact⟨i0,rfl,h.1,h.2.1,h.2.2⟩
 have h1:¬((n:Int)<0):=by omega
 have h2:wrap64 ((0:Int)-(0:Int))=0:=by unfold wrap64;omega
 have h3:wrap64 ((n:Int)-0)=n:=by unfold wrap64;omega
 have h4:(n:Int)>0:=by omega
 have hold:(Builtin.firstCells i0.size 0 (.slice none 0 0)).run Tryz.prog w.drew=.ok (#[]:Array Value) w.drew:=run_firstCells_none w.drew i0.size 0 0 0
 have hrz:∀ty,(Builtin.append_ #[92,3] ty #[.slice none 0 0,.int .i64 (n:Int)]).run Tryz.prog w=
  .ok (.slice (some ⟨w.heap.size,0,none⟩) n (grownCap w n 0 9)) (w.drew.alloc (.cells (Builtin.zeroCells #[.string ⟨#[]⟩] n++Builtin.zeroCells #[.string ⟨#[]⟩] (grownCap w n 0 9-n)) 9)):=fun ty=>by
  have h:=Lib.run_append_grow_zeros w 92 3 ty 9 i0 _ .i64 .i64 Tryz.under_strs Tryz.under_int hi0 hz0 none 0 0 [] hold n (by omega) (by omega) (by omega) (by omega) (by rw[hb0];omega)
   (growslice_fits (by omega) (by rw[hb0];omega))
  simp only[SA]at h;rw[h];simp[Value.cells]
 have hGn:n≤grownCap w n 0 9:=grownCap_ge w _ _ _;obtain⟨G,hG⟩:∃G,G=grownCap w n 0 9:=⟨_,rfl⟩
 rw[<-hG]at hrz hGn ⊢
 have hG63:G≤9223372036854775807:=by
  have:=grownCap_le_maxLen w n 0 9 (by unfold maxLen;omega);rw[<-hG]at this;unfold maxLen at this;omega
 clear hold hG;go_enter Tryz.func202,Tryz.ntmps202;go_wp2_with (at_builtin;refine Lib.wpList_append_run _ rfl _ _ _ _ rfl _ _ rfl rfl _ _ (hrz _) ?_);all_goals (go_ret;exact⟨rfl,rfl⟩)
theorem Gl(n:Nat)(hn:n≤1000000)(σ:LLV):Fun G 202 [.nil,.d (ab n)] σ (az (.own 9 1 []) σ):=
 uK (l:=[]) Tryz.func202 (by kernel_rfl) (by kernel_rfl) fun M bm w vs hG hM hl hr=>match vs,hl with
  | [v,u],_=>by
   refine⟨by simp,?_⟩;have h1:Rep M bm .nil v:=hr 0 (by simp) (by simp);have h2:Rep M bm (.d (ab n)) u:=hr 1 (by simp) (by simp);cases h1 with
   | nil=>cases h2 with
    | d h2=>cases h2 with
     | lit _ _=>
      by_cases h0:n=0
      .subst h0;refine(B4 w).mono fun e w' ⟨h3,h4⟩=>?_;subst h4;exact⟨_,h3,⟨rfl,.inl ⟨rfl,rfl⟩⟩,(fun k hk=>by cases hk),Ext.refl _⟩
      .refine(Fh n (by omega) hn w).mono fun e w' ⟨h3,h4⟩=>?_;subst h4;have hGn:n≤grownCap w n 0 9:=grownCap_ge w _ _ _;have hGm:=grownCap_le_maxLen w n 0 9 (by unfold maxLen;omega);refine⟨_,h3,⟨rfl,.inr ⟨w.heap.size,_,_,rfl,SB _,heap_alloc_new w.drew _,SB _,hGm,?_,rfl⟩⟩,fun k hk=>?_,((Ext.refl w).drew).alloc _⟩
       .simp only[Array.size_append,size_zeroCells,Ss,Sb,Sl];omega
       .simp only[Value.ownBlock,Option.some.injEq]at hk;omega
theorem yT(ls:List (List ByteArray))(hs:(ls.map R6).sum≤1000000)(hn:ls.length≤1000000)(σ:LLV):
 Fun G 173 [.d (.sl (ls.map fun l=>[D.sl (l.map fun s=>[ae s])]))] σ (az (.own 9 1 (ls.flatten.map fun s=>[ae s])) σ):=by
 refine ai Tryz.func173 Qb rfl fun hb hw=>?_;unfold c173;generalize hrows:(ls.map fun l=>[D.sl (l.map fun s=>[ae s])])=rows;have hrl:rows.length=ls.length:=by rw[<-hrows,R5]
 have hre:∀j (h:j<ls.length),rows[j]? = some [D.sl (ls[j].map fun s=>[ae s])]:=fun j h=>by rw[<-hrows,List.getElem?_map,RZ h];rfl
 have hle:∀j,((ls.take j).map R6).sum≤(ls.map R6).sum:=fun j=>by
  conv=>rhs;rw[<-Sr j ls]
  rw[R9,Se];omega
 simp -dsimp only[aw,jV,jW,jX,jY,jZ,jA,reduceIte,reduceCtorEq,jB,jC,jD,jE,jF,jG,hrl];refine aY [0,3,9,10,11] (R:=fun(j:Nat) ρ σ'=>ρ=[(0,.d (.sl rows)),(3,aI .i64 (((ls.take j).map R6).sum:Nat)),(9,.d (.sl rows)),(10,aI .i64 ls.length),(11,aI .i64 j)]/\σ'=σ) ls.length ⟨rfl,rfl⟩ ?_ _;rintro j ρ' σ' hj ⟨rfl,rfl⟩;by_cases hlt:j<ls.length
 .have ht:((ls.take (j+1)).map R6).sum=((ls.take j).map R6).sum+ls[j].length:=by
   rw[Sa,RZ hlt,R9,Se];show _+(ls[j].length+0)=_;omega
  have h1:=hle (j+1);have hw1:IntKind.i64.wrap ((((ls.take j).map R6).sum:Nat)+(ls[j].length:Int))=(((ls.take (j+1)).map R6).sum:Nat):=by rw[aX (by omega) (by omega),ht];omega
  have hng:¬((((ls.take (j+1)).map R6).sum:Nat):Int)<0:=by omega
  simp -dsimp only[aw,jV,jW,jX,jY,jZ,jA,reduceIte,reduceCtorEq,jB,jC,jD,jE,jF,jG,RW,hlt,decide_true,hre j hlt,hw1,decide_eq_false hng,bl hlt (show ls.length≤9223372036854775807 by omega)];exact Nxt.same (Sy _) hb rfl ⟨rfl,rfl⟩
 .simp -dsimp only[aw,jV,jW,jX,jY,jZ,jA,reduceIte,reduceCtorEq,jB,jC,jD,jE,jF,jG,RW,hlt,decide_false];rw[R7 (show ls.length≤j by omega)];refine ac (Gl _ hs _) ?_;simp -dsimp only[aw,jV,jW,jX,jY,jZ,jA,reduceIte,reduceCtorEq,jB,jC,jD,jE,jF,jG,hrl];refine aY [6,25,26,27] (R:=fun(j:Nat) ρ σ''=>ρ=[(6,.own 9 1 ((ls.take j).flatten.map fun s=>[ae s])),(25,.d (.sl rows)),(26,aI .i64 ls.length),(27,aI .i64 j)]/\σ''=σ') ls.length ⟨rfl,rfl⟩ ?_ _;rintro j ρ' σ'' hj ⟨rfl,rfl⟩;by_cases hlt:j<ls.length
  .have ht:(ls.take (j+1)).flatten=(ls.take j).flatten++ls[j]:=by
    rw[Sa,RZ hlt,List.flatten_append];simp
   have h1:=hle (j+1);have h2:((ls.take j).flatten++ls[j]).length=((ls.take (j+1)).map R6).sum:=by rw[<-ht,Sf]
   rw[R8]at h2;have hal:(ls[j].map fun s=>[ae s]).all (fun r=>r.length==1)=true:=by rw[List.all_map];exact List.all_eq_true.2 fun _ _=>rfl
   simp -dsimp only[aw,jV,jW,jX,jY,jZ,jA,reduceIte,reduceCtorEq,jB,jC,jD,jE,jF,jG,RW,hlt,decide_true,hre j hlt,hal];refine bH (by first|omega|(simp only[R5];omega)) ?_;simp -dsimp only[aw,jV,jW,jX,jY,jZ,jA,reduceIte,reduceCtorEq,jB,jC,jD,jE,jF,jG,bl hlt (show ls.length≤9223372036854775807 by omega)];refine⟨hlt,Nxt.same (Sy _) hb rfl ⟨?_,rfl⟩⟩;rw[ht,R9]
  .simp -dsimp only[aw,jV,jW,jX,jY,jZ,jA,reduceIte,reduceCtorEq,jB,jC,jD,jE,jF,jG,RW,hlt,decide_false];rw[R7 (show ls.length≤j by omega)];first|exact aA hb rfl rfl|exact aB hb rfl rfl
abbrev yx(l:List Int):LLD:=l.map fun n=>[ab n]
theorem JY(l:List Nat)(hl:l.sum≤1000000)(hn:l.length≤1000000)(σ:LLV):Fun G 105 [.d (.sl (yx (l.map fun n:Nat=>(n:Int))))] σ (az (.d (ab (l.sum:Nat))) σ):=by
 refine ai Tryz.func105 P8 rfl fun hb hw=>?_;unfold PL;simp -dsimp only[aw,jV,jW,jX,jY,jZ,jA,reduceIte,reduceCtorEq,jB,jC,jD,jE,jF,jG];refine aY [3,6,7,8] (R:=fun(j:Nat) ρ σ'=>ρ=[(3,aI .i64 ((l.take j).sum:Nat)),(6,.d (.sl (yx (l.map fun n:Nat=>(n:Int))))),(7,aI .i64 l.length),(8,aI .i64 j)]/\σ'=σ) l.length ⟨rfl,rfl⟩ ?_ _;rintro j ρ' σ' hj ⟨rfl,rfl⟩;by_cases hlt:j<l.length
 .have ht:(l.take (j+1)).sum=(l.take j).sum+l[j]:=by rw[Sa,RZ hlt,Se];show _+(l[j]+0)=_;omega
  have hle:(l.take (j+1)).sum≤l.sum:=by
   conv=>rhs;rw[<-Sr (j+1) l]
   rw[Se];omega
  have hw1:IntKind.i64.wrap (((l.take j).sum:Nat)+(l[j]:Int))=((l.take (j+1)).sum:Nat):=by rw[aX (by omega) (by omega),ht];omega
  simp -dsimp only[aw,jV,jW,jX,jY,jZ,jA,reduceIte,reduceCtorEq,jB,jC,jD,jE,jF,jG,RW,hlt,decide_true,RZ hlt,hw1,bl hlt (show l.length≤9223372036854775807 by omega)];exact Nxt.same (Sy _) hb rfl ⟨rfl,rfl⟩
 .simp -dsimp only[aw,jV,jW,jX,jY,jZ,jA,reduceIte,reduceCtorEq,jB,jC,jD,jE,jF,jG,RW,hlt,decide_false];rw[R7 (show l.length≤j by omega)];first|exact aA hb rfl rfl|exact aB hb rfl rfl
def Ka:List Int->Int
 | []=>0
 | a::r=>r.foldl max a
theorem Je(a:Int)(r:List Int)(hn:r.length≤1000000)(σ:LLV):Fun G 103 [.d (.sl (yx (a::r)))] σ (az (.d (ab (Ka (a::r)))) σ):=by
 refine ai Tryz.func103 Ra rfl fun hb hw=>?_;unfold OA;have e0:iaV 1 (.d (.sl ([ab a]::Sx (fun n=>[ab n]) r))) (V.d (D.lit (Value.int IntKind.i64 0)))=some (.row [ab a] 0):=rfl;have l1:¬((r.length:Int)+1<1):=by omega
 simp -dsimp only[aw,jV,jW,jX,jY,jZ,jA,reduceIte,reduceCtorEq,jB,jC,jD,jE,jF,jG,e0,decide_eq_false l1,Int.natCast_add,Int.natCast_one,Int.cast_ofNat_Int];refine aY [0,3,4] (R:=fun(j:Nat) ρ σ'=>ρ=[(0,.d (.sl ([ab a]::Sx (fun n=>[ab n]) r))),(3,aI .i64 ((r.take j).foldl max a)),(4,aI .i64 ((j+1:Nat):Int))]/\σ'=σ) r.length ⟨rfl,rfl⟩ ?_ _;rintro j ρ' σ' hj ⟨rfl,rfl⟩;by_cases hlt:j<r.length
 .have ht:(r.take (j+1)).foldl max a=max ((r.take j).foldl max a) r[j]:=by rw[Sa,RZ hlt,Su];rfl
  have hlt':j+1<r.length+1:=by omega
  simp -dsimp only[aw,jV,jW,jX,jY,jZ,jA,reduceIte,reduceCtorEq,jB,jC,jD,jE,jF,jG,RW,hlt',decide_true,RZ hlt,<-ht,if_true,bl hlt' (show r.length+1≤9223372036854775807 by omega)];exact⟨hlt,Nxt.same (Sy _) hb rfl ⟨rfl,rfl⟩⟩
 .have hlt':¬j+1<r.length+1:=by omega
  simp -dsimp only[aw,jV,jW,jX,jY,jZ,jA,reduceIte,reduceCtorEq,jB,jC,jD,jE,jF,jG,RW,hlt',decide_false];rw[R7 (show r.length≤j by omega)];first|exact aA hb rfl rfl|exact aB hb rfl rfl
theorem Jm(l:List Int)(h:l≠[])(hn:l.length≤1000000)(σ:LLV):Fun G 103 [.d (.sl (yx l))] σ (az (.d (ab (Ka l))) σ):=by
 cases l with
 | nil=>exact absurd rfl h
 | cons a r=>exact Je a r (by simp only[Sb]at hn;omega) σ
theorem zp(s:Ts)(hs:bd s≤1000000)(σ:LLV):mn G 104 [vts s] 3 1 ((s.args.map fun a=>(tsz a:Int)).map fun n=>[ab n]) [] σ (az (.d (ab (tsz s))) σ):=by
 have h1:=pt s;have h2:=z6 s;have h3:=ey s;refine ma Tryz.func104 QB (by simp only[ak];rfl) fun hb hw=>?_;unfold PV;simp -dsimp only[aw,jV,jW,jX,jY,jZ,jA,reduceIte,reduceCtorEq,jB,jC,jD,jE,jF,jG,ak];have hc:=JY (s.args.map tsz) (by omega) (by rw[R5];omega) (σ++[[.d (ab s.op),.d (ab s.lo),.d (ab s.hi),.d (ab s.ex.op),.d (ab s.ex.num),.d (ae s.ex.name),.d (.sl (s.ex.args.map dex)),.d (ae s.name),.d (.sl (s.args.map dts))]]);rw[So]at hc;refine ac hc ?_;have hw1:IntKind.i64.wrap (1+((s.args.map tsz).sum:Nat))=(tsz s:Int):=by rw[aX (by omega) (by omega),h1];omega
 simp -dsimp only[aw,jV,jW,jX,jY,jZ,jA,reduceIte,reduceCtorEq,jB,jC,jD,jE,jF,jG,hw1];exact ao hb rfl rfl R0 ⟨rfl,rfl⟩
theorem Ee(s:Ts)(hs:bd s≤1000000)(σ:LLV):Fun G 67 [vts s] σ (az (.d (ab (tsz s))) σ):=by
 refine ai Tryz.func67 k67 (by simp only[ak];rfl) fun hb hw=>?_;unfold c67;simp -dsimp only[aw,jV,jW,jX,jY,jZ,jA,reduceIte,reduceCtorEq,jB,jC,jD,jE,jF,jG,ak];refine ac (by simpa only[ak]using uq (fun s=>(tsz s:Int)) 104 (fun s=>bd s≤1000000) (fun s h a ha=>by have:=d5 ha;omega) (fun s h=>h) (fun s h σ=>zp s h σ) s hs _) ?_;simp -dsimp only[aw,jV,jW,jX,jY,jZ,jA,reduceIte,reduceCtorEq,jB,jC,jD,jE,jF,jG];exact ao hb rfl rfl R0 ⟨rfl,rfl⟩
theorem J1(l:List Ts):Ka ((l.map fun a=>(tdp a:Int))++[0])=(lm l:Nat):=by
 have H:∀(l:List Ts) (m:Int),0≤m->((l.map fun a=>(tdp a:Int))++[0]).foldl max m=max m (lm l:Nat):=by
  intro l
  induction l with
  | nil=>intro m hm;simp only[List.map_nil,List.nil_append,Sm,List.foldl_nil,lm];rfl
  | cons a r ih=>intro m hm;simp only[Sd,Sv,Sm,lm];rw[ih _ (by omega)];omega
 cases l with
 | nil=>rfl
 | cons a r=>simp only[Sd,Sv,Ka,lm];rw[H r _ (by omega)];omega
theorem yo(s:Ts)(hs:bd s≤1000000)(σ:LLV):mn G 102 [vts s] 3 1 ((s.args.map fun a=>(tdp a:Int)).map fun n=>[ab n]) [] σ (az (.d (ab (tdp s))) σ):=by
 have h1:=uM s;have h2:=LH s;have h3:=ey s;refine ma Tryz.func102 Qf (by simp only[ak];rfl) fun hb hw=>?_;unfold Pt;simp -dsimp only[aw,jV,jW,jX,jY,jZ,jA,reduceIte,reduceCtorEq,jB,jC,jD,jE,jF,jG,ak];refine bH (by first|omega|(simp only[R5];omega)) ?_;simp -dsimp only[aw,jV,jW,jX,jY,jZ,jA,reduceIte,reduceCtorEq,jB,jC,jD,jE,jF,jG];have hc:=Jm ((s.args.map fun a=>(tdp a:Int))++[0]) (by simp) (by simp only[R8,R5,Sb,Sl];omega) (σ++[[.d (ab s.op),.d (ab s.lo),.d (ab s.hi),.d (ab s.ex.op),.d (ab s.ex.num),.d (ae s.ex.name),.d (.sl (s.ex.args.map dex)),.d (ae s.name),.d (.sl (s.args.map dts))]]);rw[J1,yx,R9]at hc;refine ac hc ?_;have hw1:IntKind.i64.wrap (1+((lm s.args:Nat):Int))=(tdp s:Int):=by rw[aX (by omega) (by omega),h1];omega
 simp -dsimp only[aw,jV,jW,jX,jY,jZ,jA,reduceIte,reduceCtorEq,jB,jC,jD,jE,jF,jG,hw1];exact ao hb rfl rfl R0 ⟨rfl,rfl⟩
theorem AN(s:Ts)(hs:bd s≤1000000)(σ:LLV):Fun G 66 [vts s] σ (az (.d (ab (tdp s))) σ):=by
 refine ai Tryz.func66 k66 (by simp only[ak];rfl) fun hb hw=>?_;unfold c66;simp -dsimp only[aw,jV,jW,jX,jY,jZ,jA,reduceIte,reduceCtorEq,jB,jC,jD,jE,jF,jG,ak];refine ac (by simpa only[ak]using uq (fun s=>(tdp s:Int)) 102 (fun s=>bd s≤1000000) (fun s h a ha=>by have:=d5 ha;omega) (fun s h=>h) (fun s h σ=>yo s h σ) s hs _) ?_;simp -dsimp only[aw,jV,jW,jX,jY,jZ,jA,reduceIte,reduceCtorEq,jB,jC,jD,jE,jF,jG];exact ao hb rfl rfl R0 ⟨rfl,rfl⟩
abbrev oB(l:List ByteArray):V:=.own 9 1 (l.map fun s=>[ae s])
theorem El(val:Ts->List ByteArray)(f:FuncId)(P:Ts->Prop)(hP:∀s,P s->∀a,a∈s.args->P a)(hB:∀s,P s->bd s≤1000000)
 (hf:∀s,P s->∀σ,mn G f [vts s] 92 1 (s.args.map fun a=>[D.sl ((val a).map fun s=>[ae s])]) [] σ (az (oB (val s)) σ))(s:Ts):
 P s->∀σ,Fun G 171 [vts s,.fn f []] σ (az (oB (val s)) σ):=by
 induction s using Ts.ind with
 | h s ih=>
 intro hs σ;have hbig:=hB s hs;have hln:=ey s;refine ai Tryz.func171 Qt (by simp only[ak];rfl) fun hb hw=>?_;unfold c171;simp -dsimp only[aw,jV,jW,jX,jY,jZ,jA,reduceIte,reduceCtorEq,jB,jC,jD,jE,jF,jG,ak];refine bH (by omega) ?_;simp -dsimp only[aw,jV,jW,jX,jY,jZ,jA,reduceIte,reduceCtorEq,jB,jC,jD,jE,jF,jG];refine aY [1,2,5,13,14,15] (R:=fun(j:Nat) ρ σ'=>ρ=[(1,.fn f []),(2,.ptr σ.length 0),(5,.own 92 1 ((s.args.take j).map fun a=>[D.sl ((val a).map fun s=>[ae s])])),(13,.d (.sl (s.args.map dts))),(14,aI .i64 s.args.length),(15,aI .i64 j)]/\σ'=σ++[[.d (ab s.op),.d (ab s.lo),.d (ab s.hi),.d (ab s.ex.op),.d (ab s.ex.num),.d (ae s.ex.name),.d (.sl (s.ex.args.map dex)),.d (ae s.name),.d (.sl (s.args.map dts))]]) s.args.length ⟨rfl,rfl⟩ ?_ _;rintro j ρ' σ' hj ⟨rfl,rfl⟩;by_cases hlt:j<s.args.length
 .simp -dsimp only[aw,jV,jW,jX,jY,jZ,jA,reduceIte,reduceCtorEq,jB,jC,jD,jE,jF,jG,RW,hlt,decide_true,RZ hlt,bw s.args[j]];refine ac (by simpa only[ak]using ih s.args[j] (Sc hlt) (hP s hs _ (Sc hlt)) _) ?_;have ht:s.args.take (j+1)=s.args.take j++[s.args[j]]:=by rw[Sa,RZ hlt];rfl
  simp -dsimp only[aw,jV,jW,jX,jY,jZ,jA,reduceIte,reduceCtorEq,jB,jC,jD,jE,jF,jG];refine bH (by first|omega|(simp only[R5,Sj];omega)) ?_;simp -dsimp only[aw,jV,jW,jX,jY,jZ,jA,reduceIte,reduceCtorEq,jB,jC,jD,jE,jF,jG,bl hlt (show s.args.length≤9223372036854775807 by omega)];refine⟨hlt,Nxt.drop1 (Sy _) (av hb rfl) (by simp[am,V.under,V.unders]) ⟨?_,rfl⟩⟩;rw[ht,R9];rfl
 .simp -dsimp only[aw,jV,jW,jX,jY,jZ,jA,reduceIte,reduceCtorEq,jB,jC,jD,jE,jF,jG,RW,hlt,decide_false];rw[R7 (show s.args.length≤j by omega)];refine qD (by simpa only[ak]using hf s hs _) ?_;simp -dsimp only[aw,jV,jW,jX,jY,jZ,jA,reduceIte,reduceCtorEq,jB,jC,jD,jE,jF,jG];exact ao hb rfl rfl R0 ⟨rfl,rfl⟩
mutual
def tnm:Ts->List ByteArray
 | .mk o _ _ _ s l=>JK l++(if o=6 then[s]else[])
def JK:List Ts->List ByteArray
 | []=>[]
 | a::r=>tnm a++JK r
end
theorem CB(l:List Ts):JK l=(l.map tnm).flatten:=by
 induction l with
 | nil=>rfl
 | cons a r ih=>simp only[JK,ih,Sd,List.flatten_cons]
theorem AB(s:Ts):tnm s=(s.args.map tnm).flatten++(if s.op=6 then[s.name]else[]):=by cases s;simp only[tnm,CB,Ts.args,Ts.op,Ts.name];rfl
theorem vz(s:Ts):(tnm s).length≤tsz s:=by
 induction s using Ts.ind with
 | h s ih=>
 rw[AB,pt,R8,Sf,So]
 have H:∀l:List Ts,(∀a,a∈l->(tnm a).length≤tsz a)->(l.map (R6 ∘ tnm)).sum≤(l.map tsz).sum:=by
  intro l
  induction l with
  | nil=>intro _;simp
  | cons a r ihr=>
   intro h;have h1:=h a (by simp);have h2:=ihr (fun x hx=>h x (by simp[hx]));show(tnm a).length+(r.map (R6 ∘ tnm)).sum≤tsz a+(r.map tsz).sum;omega
 have:=H s.args ih;split<;>simp only[Sb,Sl]<;>omega
theorem Fz(s:Ts)(hs:bd s≤1000000)(σ:LLV):mn G 172 [vts s] 92 1 (s.args.map fun a=>[D.sl ((tnm a).map fun s=>[ae s])]) [] σ (az (oB (tnm s)) σ):=by
 have h1:=AB s;have h2:=vz s;have h3:=ey s;have h4:=z6 s;have h5:((s.args.map tnm).map R6).sum≤(tnm s).length:=by rw[h1,R8,Sf];omega
 refine ma Tryz.func172 Qa (by simp only[ak];rfl) fun hb hw=>?_;unfold Nw;simp -dsimp only[aw,jV,jW,jX,jY,jZ,jA,reduceIte,reduceCtorEq,jB,jC,jD,jE,jF,jG,ak];have hc:=yT (s.args.map tnm) (by omega) (by rw[R5];omega) (σ++[[.d (ab s.op),.d (ab s.lo),.d (ab s.hi),.d (ab s.ex.op),.d (ab s.ex.num),.d (ae s.ex.name),.d (.sl (s.ex.args.map dex)),.d (ae s.name),.d (.sl (s.args.map dts))]]);rw[So]at hc;refine ac hc ?_;by_cases ho:s.op=6
 .rw[if_pos ho]at h1;have h6:(tnm s).length=((s.args.map tnm).flatten.map fun s=>[ae s]).length+1:=by rw[h1,R8,R5];rfl
  simp -dsimp only[aw,jV,jW,jX,jY,jZ,jA,reduceIte,reduceCtorEq,jB,jC,jD,jE,jF,jG,decide_eq_true ho];refine bH (by simp only[R5]at h6 ⊢;omega) ?_;simp -dsimp only[aw,jV,jW,jX,jY,jZ,jA,reduceIte,reduceCtorEq,jB,jC,jD,jE,jF,jG];exact ao (v:=oB (tnm s)) hb (by rw[h1];simp[Kz,aU,bu,oB,aw,jV,jW,jX,jY,jZ,jA,reduceIte,reduceCtorEq,jB,jC,jD,jE,jF,jG]) rfl R0 ⟨rfl,rfl⟩
 .rw[if_neg ho,List.append_nil]at h1;simp -dsimp only[aw,jV,jW,jX,jY,jZ,jA,reduceIte,reduceCtorEq,jB,jC,jD,jE,jF,jG,decide_eq_false ho];exact ao (v:=oB (tnm s)) hb (by rw[h1];rfl) rfl R0 ⟨rfl,rfl⟩
theorem Jg(s:Ts)(hs:bd s≤1000000)(σ:LLV):Fun G 142 [vts s] σ (az (oB (tnm s)) σ):=by
 refine ai Tryz.func142 RD (by simp only[ak];rfl) fun hb hw=>?_;unfold PB;simp -dsimp only[aw,jV,jW,jX,jY,jZ,jA,reduceIte,reduceCtorEq,jB,jC,jD,jE,jF,jG,ak];refine ac (by simpa only[ak]using El tnm 172 (fun s=>bd s≤1000000) (fun s h a ha=>by have:=d5 ha;omega) (fun s h=>h) (fun s h σ=>Fz s h σ) s hs _) ?_;simp -dsimp only[aw,jV,jW,jX,jY,jZ,jA,reduceIte,reduceCtorEq,jB,jC,jD,jE,jF,jG];first|exact aA hb rfl rfl|exact aB hb rfl rfl
theorem rA{C:Cx}{n0:Nat}{a b:Cd}{ρ:ah}{σ:LLV}{Q:cH}{t:Tag Q}(R:ah->LLV->Prop)(h1:em C n0 a ρ σ (andThen R Q) .mk)(h2:∀ρ' σ',R ρ' σ'->em C n0 b ρ' σ' Q .mk):em C n0 (.seq a b) ρ σ Q t:=by
 rw[He];refine jQ (fun e ρ' σ' h=>?_) h1;cases e with
 | normal=>exact h2 _ _ h
 | _=>exact h
def Mid(R:ah->LLV->Prop)(ρ:ah)(σ:LLV)(_:Tag R):Prop:=R ρ σ
theorem Mid.mk{R:ah->LLV->Prop}{ρ:ah}{σ:LLV}(h:R ρ σ):Mid R ρ σ .mk:=h
theorem hZ{C:Cx}{n0:Nat}{a b:Cd}{ρ:ah}{σ:LLV}{Q:cH}{t:Tag Q}(R:ah->LLV->Prop)(h1:em C n0 a ρ σ (andThen (fun ρ σ=>Mid R ρ σ .mk) Q) .mk)(h2:∀ρ' σ',R ρ' σ'->em C n0 b ρ' σ' Q .mk):em C n0 (.seq a b) ρ σ Q t:=
 rA _ h1 fun ρ' σ' h=>h2 ρ' σ' h
theorem ep{C:Cx}{n0:Nat}{a b:Cd}{ρ:ah}{σ:LLV}{Q:cH}{t:Tag Q}(ρ1:ah)(σ1:LLV)(h1:em C n0 a ρ σ (fun e ρ' σ'=>e=.normal/\ρ'=ρ1/\σ'=σ1) .mk)(h2:em C n0 b ρ1 σ1 Q .mk):em C n0 (.seq a b) ρ σ Q t:=by
 rw[He];refine jQ (fun e ρ' σ' h=>?_) h1;obtain⟨rfl,rfl,rfl⟩:=h;exact h2
def ib(e:Ex):Bool:=decide (e.op=0)&&(decide (e.num=0)&&(decide (e.name=⟨#[]⟩)&&decide (e.args.length=0)))
theorem wb(e:Ex)(σ:LLV):Fun G 141 [vex e] σ (az (an (ib e)) σ):=by
 refine ai Tryz.func141 PX (by simp only[al];rfl) fun hb hw=>?_;unfold N5 ib;simp -dsimp only[aw,jV,jW,jX,jY,jZ,jA,reduceIte,reduceCtorEq,jB,jC,jD,jE,jF,jG,al];refine aD (fun h1=>?_) (fun h1=>?_)
 .simp -dsimp only[aw,jV,jW,jX,jY,jZ,jA,reduceIte,reduceCtorEq,jB,jC,jD,jE,jF,jG];refine aD (fun h2=>?_) (fun h2=>?_)
  .simp -dsimp only[aw,jV,jW,jX,jY,jZ,jA,reduceIte,reduceCtorEq,jB,jC,jD,jE,jF,jG];refine aD (fun h3=>?_) (fun h3=>?_)
   .simp -dsimp only[aw,jV,jW,jX,jY,jZ,jA,reduceIte,reduceCtorEq,jB,jC,jD,jE,jF,jG];exact ao hb rfl rfl R0 ⟨by rw[h1,h2,h3];simp;rfl,rfl⟩
   .simp -dsimp only[aw,jV,jW,jX,jY,jZ,jA,reduceIte,reduceCtorEq,jB,jC,jD,jE,jF,jG];exact ao hb rfl rfl R0 ⟨by rw[h1,h2,h3];simp;rfl,rfl⟩
  .simp -dsimp only[aw,jV,jW,jX,jY,jZ,jA,reduceIte,reduceCtorEq,jB,jC,jD,jE,jF,jG];exact ao hb rfl rfl R0 ⟨by rw[h1,h2];simp;rfl,rfl⟩
 .simp -dsimp only[aw,jV,jW,jX,jY,jZ,jA,reduceIte,reduceCtorEq,jB,jC,jD,jE,jF,jG];exact ao hb rfl rfl R0 ⟨by rw[h1];simp;rfl,rfl⟩
def cK(o:Int):Bool:=decide (o=1)||(decide (o=6)||decide (o=7))
theorem dJ(o:Int)(σ:LLV):Fun G 140 [.d (ab o)] σ (az (an (cK o)) σ):=by
 refine ai Tryz.func140 RL rfl fun hb hw=>?_;unfold Pz cK;simp -dsimp only[aw,jV,jW,jX,jY,jZ,jA,reduceIte,reduceCtorEq,jB,jC,jD,jE,jF,jG];refine aD (fun h1=>?_) (fun h1=>?_)
 .simp -dsimp only[aw,jV,jW,jX,jY,jZ,jA,reduceIte,reduceCtorEq,jB,jC,jD,jE,jF,jG];refine aD (fun h2=>?_) (fun h2=>?_)
  .simp -dsimp only[aw,jV,jW,jX,jY,jZ,jA,reduceIte,reduceCtorEq,jB,jC,jD,jE,jF,jG];exact ao hb rfl rfl Si ⟨by simp_all;rfl,rfl⟩
  .simp -dsimp only[aw,jV,jW,jX,jY,jZ,jA,reduceIte,reduceCtorEq,jB,jC,jD,jE,jF,jG];exact ao hb rfl rfl Si ⟨by simp_all;rfl,rfl⟩
 .simp -dsimp only[aw,jV,jW,jX,jY,jZ,jA,reduceIte,reduceCtorEq,jB,jC,jD,jE,jF,jG];exact ao hb rfl rfl Si ⟨by simp_all;rfl,rfl⟩
def el(s:Ts):Bool:=decide (s.lo=0)&&decide (s.hi=0)
def jp(s:Ts):Bool:=decide (s.lo≤s.hi)&&decide (s.hi≤16)
def gj(s:Ts):Bool:=
 if s.op=1 then decide (s.args.length=0)&&el s
 else if s.op=2 then decide (s.args.length=2)&&(decide (0≤s.lo)&&jp s)
 else if s.op=3 then decide (s.args.length=1)&&(decide (1≤s.lo)&&jp s)
 else if s.op=4\/s.op=5 then decide (2≤s.args.length/\s.args.length≤8)&&el s
 else if s.op=6\/s.op=7 then decide (s.args.length=1)&&el s
 else false
abbrev ig(s:Ts):List V:=[.d (ab s.op),.d (ab s.lo),.d (ab s.hi),.d (ab s.ex.op),.d (ab s.ex.num),.d (ae s.ex.name),.d (.sl (s.ex.args.map dex)),.d (ae s.name),.d (.sl (s.args.map dts))]
def Li(s:Ts)(σ:LLV)(ρ':ah)(σ':LLV):Prop:=∃(lo hi:Nat) (p:Bool) (l:ah),(l=[]\/l=[(26,.d (ab 6)),(48,an true)]\/l=[(48,an true)])/\gj s=(decide (lo≤s.args.length/\s.args.length≤hi)&&p)/\ρ'=(1,.ptr σ.length 0)::(3,aI .i64 lo)::(4,aI .i64 hi)::(5,an p)::l/\σ'=σ++[ig s]
theorem Co(s:Ts)(hs:s.args.length≤1000000)(σ:LLV):Fun G 139 [vts s] σ (az (an (gj s)) σ):=by
 refine ai Tryz.func139 QS (by simp only[ak];rfl) fun hb hw=>?_;unfold Mf;refine ep [(1,.ptr σ.length 0)] (σ++[ig s]) ?_ ?_
 .simp -dsimp only[aw,jV,jW,jX,jY,jZ,jA,reduceIte,reduceCtorEq,jB,jC,jD,jE,jF,jG,ak]
 refine ep [(1,.ptr σ.length 0),(3,aI .i64 1),(4,aI .i64 1),(5,an (el s))] (σ++[ig s]) ?_ ?_
 .simp -dsimp only[aw,jV,jW,jX,jY,jZ,jA,reduceIte,reduceCtorEq,jB,jC,jD,jE,jF,jG];refine aD (fun h1=>?_) (fun h1=>?_)
  .simp -dsimp only[aw,jV,jW,jX,jY,jZ,jA,reduceIte,reduceCtorEq,jB,jC,jD,jE,jF,jG];simp[el,h1]
  .simp -dsimp only[aw,jV,jW,jX,jY,jZ,jA,reduceIte,reduceCtorEq,jB,jC,jD,jE,jF,jG];simp[el,h1]
 refine ep [(1,.ptr σ.length 0),(3,aI .i64 1),(4,aI .i64 1),(5,an (el s)),(6,an (jp s))] (σ++[ig s]) ?_ ?_
 .simp -dsimp only[aw,jV,jW,jX,jY,jZ,jA,reduceIte,reduceCtorEq,jB,jC,jD,jE,jF,jG];refine aD (fun h1=>?_) (fun h1=>?_)
  .simp -dsimp only[aw,jV,jW,jX,jY,jZ,jA,reduceIte,reduceCtorEq,jB,jC,jD,jE,jF,jG];simp[jp,h1]
  .simp -dsimp only[aw,jV,jW,jX,jY,jZ,jA,reduceIte,reduceCtorEq,jB,jC,jD,jE,jF,jG];simp[jp,h1]
 generalize hp:el s=pB;generalize hq:jp s=wB
 have out:∀(lo hi:Nat) (p:Bool) (l:ah),(l=[]\/l=[(26,.d (ab 6)),(48,an true)]\/l=[(48,an true)])->gj s=(decide (lo≤s.args.length/\s.args.length≤hi)&&p)->
  em G σ.length (.seq
  (.ops [
    ⟨(some 51),.fa 8 (.t 1),none⟩,
    ⟨(some 52),.load 1 false (.t 51),none⟩,
    ⟨(some 53),.len false (.t 52),none⟩,
    ⟨(some 54),.mv (.t 3),none⟩,
    ⟨(some 55),.bin .geq (.t 53) (.t 54),none⟩,
    ⟨(some 56),.mv (.t 55),none⟩,
    ⟨(some 57),.fa 8 (.t 1),(some (56,true))⟩,
    ⟨(some 58),.load 1 false (.t 57),(some (56,true))⟩,
    ⟨(some 59),.len false (.t 58),(some (56,true))⟩,
    ⟨(some 60),.mv (.t 4),(some (56,true))⟩,
    ⟨(some 61),.bin .leq (.t 59) (.t 60),(some (56,true))⟩,
    ⟨(some 62),.pick (.t 56) (.t 61) (.k (.d (.lit (.bool false)))),none⟩,
    ⟨(some 63),.mv (.t 62),none⟩,
    ⟨(some 64),.mv (.t 5),(some (63,true))⟩,
    ⟨(some 65),.pick (.t 63) (.t 64) (.k (.d (.lit (.bool false)))),none⟩,
    ⟨(some 2),.mv (.t 65),none⟩] [2]) .ret) ((1,.ptr σ.length 0)::(3,aI .i64 lo)::(4,aI .i64 hi)::(5,an p)::l) (σ++[ig s]) (fin σ.length KF (az (an (gj s)) σ)) .mk:=by
  intro lo hi p l hl hsh;rcases hl with rfl|rfl|rfl
  all_goals
   simp -dsimp only[aw,jV,jW,jX,jY,jZ,jA,reduceIte,reduceCtorEq,jB,jC,jD,jE,jF,jG,RY];refine aD (fun h1=>?_) (fun h1=>?_)
   .simp -dsimp only[aw,jV,jW,jX,jY,jZ,jA,reduceIte,reduceCtorEq,jB,jC,jD,jE,jF,jG,RY];refine aD (fun h2=>?_) (fun h2=>?_)
    .simp -dsimp only[aw,jV,jW,jX,jY,jZ,jA,reduceIte,reduceCtorEq,jB,jC,jD,jE,jF,jG];exact ao hb rfl rfl R0 ⟨by rw[hsh,RU,h1,h2];simp;rfl,rfl⟩
    .simp -dsimp only[aw,jV,jW,jX,jY,jZ,jA,reduceIte,reduceCtorEq,jB,jC,jD,jE,jF,jG];exact ao hb rfl rfl R0 ⟨by rw[hsh,RU,h1,h2];simp;rfl,rfl⟩
   .simp -dsimp only[aw,jV,jW,jX,jY,jZ,jA,reduceIte,reduceCtorEq,jB,jC,jD,jE,jF,jG];exact ao hb rfl rfl R0 ⟨by rw[hsh,RU,h1];simp;rfl,rfl⟩
 refine rA (Li s σ) ?_ (fun ρ' σ' ⟨lo,hi,p,l,h0,h1,h2,h3⟩=>by subst h2;subst h3;exact out lo hi p l h0 h1);have len1:∀n:Nat,decide (s.args.length=n)=decide (n≤s.args.length/\s.args.length≤n):=fun n=>by congr 1;apply propext;omega
 have hsh:gj s=gj s:=rfl
 conv at hsh=>rhs;unfold gj
 rw[hp,hq]at hsh;by_cases o1:s.op=1
 .simp -dsimp only[aw,jV,jW,jX,jY,jZ,jA,reduceIte,reduceCtorEq,jB,jC,jD,jE,jF,jG,o1,RX,decide_true,decide_false];exact⟨0,0,pB,[],.inl rfl,by rw[hsh,if_pos o1,len1],rfl,rfl⟩
 by_cases o2:s.op=2
 .simp -dsimp only[aw,jV,jW,jX,jY,jZ,jA,reduceIte,reduceCtorEq,jB,jC,jD,jE,jF,jG,o2,RX,decide_true,decide_false];rw[if_neg o1,if_pos o2]at hsh;refine aD (fun h1=>?_) (fun h1=>?_)
  .simp -dsimp only[aw,jV,jW,jX,jY,jZ,jA,reduceIte,reduceCtorEq,jB,jC,jD,jE,jF,jG];exact⟨2,2,wB,[],.inl rfl,by rw[hsh,len1,h1];rfl,rfl,rfl⟩
  .simp -dsimp only[aw,jV,jW,jX,jY,jZ,jA,reduceIte,reduceCtorEq,jB,jC,jD,jE,jF,jG];exact⟨2,2,false,[],.inl rfl,by rw[hsh,len1,h1];rfl,rfl,rfl⟩
 by_cases o3:s.op=3
 .simp -dsimp only[aw,jV,jW,jX,jY,jZ,jA,reduceIte,reduceCtorEq,jB,jC,jD,jE,jF,jG,o3,RX,decide_true,decide_false];rw[if_neg o1,if_neg o2,if_pos o3]at hsh;refine aD (fun h1=>?_) (fun h1=>?_)
  .simp -dsimp only[aw,jV,jW,jX,jY,jZ,jA,reduceIte,reduceCtorEq,jB,jC,jD,jE,jF,jG];exact⟨1,1,wB,[],.inl rfl,by rw[hsh,len1,h1];rfl,rfl,rfl⟩
  .simp -dsimp only[aw,jV,jW,jX,jY,jZ,jA,reduceIte,reduceCtorEq,jB,jC,jD,jE,jF,jG];exact⟨1,1,false,[],.inl rfl,by rw[hsh,len1,h1];rfl,rfl,rfl⟩
 rw[if_neg o1,if_neg o2,if_neg o3]at hsh;by_cases o4:s.op=4
 .simp -dsimp only[aw,jV,jW,jX,jY,jZ,jA,reduceIte,reduceCtorEq,jB,jC,jD,jE,jF,jG,o4,RX,decide_true,decide_false];exact⟨2,8,pB,[],.inl rfl,by rw[hsh,if_pos (.inl o4)],rfl,rfl⟩
 by_cases o5:s.op=5
 .simp -dsimp only[aw,jV,jW,jX,jY,jZ,jA,reduceIte,reduceCtorEq,jB,jC,jD,jE,jF,jG,o5,RX,decide_true,decide_false];exact⟨2,8,pB,[],.inl rfl,by rw[hsh,if_pos (.inr o5)],rfl,rfl⟩
 rw[if_neg (by omega)]at hsh;by_cases o6:s.op=6
 .simp -dsimp only[aw,jV,jW,jX,jY,jZ,jA,reduceIte,reduceCtorEq,jB,jC,jD,jE,jF,jG,o6,RX,decide_true,decide_false];exact⟨1,1,pB,_,.inr (.inl rfl),by rw[hsh,if_pos (.inl o6),len1],rfl,rfl⟩
 by_cases o7:s.op=7
 .simp -dsimp only[aw,jV,jW,jX,jY,jZ,jA,reduceIte,reduceCtorEq,jB,jC,jD,jE,jF,jG,o7,RX,decide_true,decide_false];exact⟨1,1,pB,_,.inr (.inr rfl),by rw[hsh,if_pos (.inr o7),len1],rfl,rfl⟩
 rw[if_neg (by omega)]at hsh;simp -dsimp only[aw,jV,jW,jX,jY,jZ,jA,reduceIte,reduceCtorEq,jB,jC,jD,jE,jF,jG,decide_eq_false o1,decide_eq_false o2,decide_eq_false o3,decide_eq_false o4,decide_eq_false o5,decide_eq_false o6,decide_eq_false o7];exact ao hb rfl rfl R0 ⟨by rw[hsh];rfl,rfl⟩
end Go.Proofs.YthekkgfmagliiaaGreatDoor
