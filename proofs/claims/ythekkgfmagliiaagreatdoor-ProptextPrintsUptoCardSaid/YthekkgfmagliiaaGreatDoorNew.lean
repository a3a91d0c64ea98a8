import Derived.Test.YthekkgfmagliiaaGreatDoorBr8
import Derived.Test.YthekkgfmagliiaaGreatDoorNames2
import Derived.Test.YthekkgfmagliiaaGreatDoorElem
set_option linter.unusedVariables false
set_option linter.unusedSimpArgs false
set_option linter.unusedSectionVars false
namespace Go.Proofs.YthekkgfmagliiaaGreatDoor
open Go.RowKit
theorem km{f:FuncId}{fn:Func}{args:List V}{x:V}{σ:List (List V)}(hf:Tryz.prog.funcs[f]? = some fn)(hn:(fn.name == "runtime.NumGoroutine")=false)(hb:fn.body.isNone=false)(hx:∀T k rows,x≠.own T k rows)
 (h:∀(M:av) (bm:List Nat) (w:World) (vs:List Value),G.cells M→M.hold w→vs.length=args.length→(∀i (h:i<args.length) (h':i<vs.length),Rep M bm args[i] vs[i])→
   Calls Tryz.prog f vs.toArray w fun e w'=>∃u,e=.returned u∧Ext w w'∧Rep (nN w w') [] x u):Fun G f args σ (aB x σ):=by
 refine⟨bq (P:=Tryz.prog) hf hn hb,fun M bm tk pr w vs hG hI ht hl hr=>(h M bm w vs hG.1 hI.facts hl hr).mono fun e w' ⟨u,he,hx',hu⟩=>?_⟩;have hlt:∀b,b<w.heap.size→∀o,(if w.heap.size≤b then w'.cell? ⟨b,o,none⟩else M b o)=M b o:=fun b hb o=>if_neg (by omega)
 have hle:M.le fun b o=>if w.heap.size≤b then w'.cell? ⟨b,o,none⟩else M b o:=fun b o x hm=>by
  have hb:=hI.facts.lt hm;show(if w.heap.size≤b then w'.cell? ⟨b,o,none⟩else M b o)=some x;rw[hlt b hb o];exact hm
 obtain⟨h1,h2⟩:=hI.grow (M':=fun b o=>if w.heap.size≤b then w'.cell? ⟨b,o,none⟩else M b o) hx' hle (fun b o x hm=>by
  by_cases hb:w.heap.size≤b
  ·simpa only[if_pos hb]using hm
  ·simp only[if_neg hb]at hm;exact hx'.cell (hI.facts b o x hm)) hlt
 refine⟨_,bm,tk,σ,.ret x,⟨rfl,rfl⟩,h1,h2,fun v e=>?_,fun v e=>by cases e⟩;cases e;refine⟨u,he,hu.mono (fun b o x hm=>?_) (fun i b h=>by simp at h),fun T k rows e=>absurd e (hx T k rows)⟩;unfold nN at hm;split at hm
 ·rename_i hb;simp only[if_pos hb];exact hm
 ·cases hm
theorem nJ{M:av}{l:List ByteArray}{p:Option Addr}{cap:Nat}(h1:l.length≤cap)(h2:cap≤maxLen)(hs:∀s,s∈l→s.size≤maxLen)
 (h:∀i s,l[i]? = some s→∃b off,p=some ⟨b,off,none⟩∧M b (off+i)=some (.string s)):DRep M (cj l) (.slice p l.length cap):=by
 have hlen:l.length=(l.map fun s=>[ak s]).length:=by simp
 unfold cj;rw[hlen];refine .sl _ 1 p cap (fun i _=>.string (l[i]?.getD ⟨#[]⟩)) (fun r hr=>?_) (fun i j hi hj=>?_) (fun i hi=>?_) (by omega) h2
 ·obtain⟨s,-,rfl⟩:=List.mem_map.1 hr;rfl
 ·have hi':i<l.length:=by simpa using hi
  have hj0:j=0:=by simpa using hj
  subst hj0;simp only[List.getElem_map,List.getElem_cons_zero,List.getElem?_eq_getElem hi',Option.getD_some];exact .lit _ (hs _ (List.getElem_mem hi'))
 ·have hi':i<l.length:=by simpa using hi
  obtain⟨b,off,h7,h8⟩:=h i _ (List.getElem?_eq_getElem hi');refine⟨b,off,h7,fun j hj=>?_⟩;have hj0:j=0:=by omega
  subst hj0;simp only[List.getElem?_eq_getElem hi',Option.getD_some];simpa using h8
theorem pt{w w':World}{T:TypeId}{v:Value}{l:List ByteArray}(h:w'.ownsRow 0 T 1 v l.length (l.map Value.string))(hg:∀k,v.ownBlock=some k→w.heap.size≤k)(hs:∀s,s∈l→s.size≤maxLen):DRep (nN w w') (cj l) v:=by
 obtain⟨p,cap,rfl,h1,h2,h3⟩:=fg h;refine nJ h1 h2 hs fun i s hi=>?_;obtain⟨b,off,rfl,h4⟩:=h3 i s hi;exact⟨b,off,rfl,by unfold nN;rw[if_pos (hg b rfl)];exact h4⟩
theorem lG{w:World}{ops:List Int}{e:Ex}{cs:List Value}(h:ExRep w e cs):∀x:List ByteArray,(∀s,s∈x→s.size≤maxLen)→∀s,s∈(cE (bI ops) e x).1→s.size≤maxLen:=by
 induction h with
 | mk o n s l v css hl hc hv ho hn hs ih=>
  intro x hx
  have H:∀(r:List Ex),(∀a,a∈r→a∈l)→∀x:List ByteArray,(∀s,s∈x→s.size≤maxLen)→∀s,s∈(cR (bI ops) r x).1→s.size≤maxLen:=by
   intro r
   induction r with
   | nil=>intro _ x hx;exact hx
   | cons a r ihr=>
    intro hr x hx;rw[cR,if_pos (ik _ a x)];obtain⟨i,hi,hia⟩:=List.getElem_of_mem (hr a (by simp));subst hia;exact ihr (fun y hy=>hr y (by simp[hy])) _ (ih i hi (by omega) x hx)
  rw[cE,if_pos (show(bI ops x (Ex.mk o n s l)).2=true from rfl)];refine H l (fun _ h=>h) _ ?_;intro t ht;rcases p5 ht with h|⟨rfl,h⟩
  ·exact hx t h
  ·exact hs
theorem uK(e:Ex)(hs:ba e≤1000000)(σ:List (List V)):Fun G 144 [vex e] σ (aB (.d (cj (b5 [2] e))) σ):=
 km Tryz.func144 (by kernel_rfl) (by kernel_rfl) (fun _ _ _ h=>by cases h) fun M bm w vs hG hM hl hr=>match vs,hl with
  | [v],_=>(t7 e w v (fL hM (hr 0 (by simp) (by simp))) hs).mono fun en w' ⟨u,h1,h2,h3,h4⟩=>by
   obtain⟨cs,h5,-⟩:=fL hM (hr 0 (by simp) (by simp));exact⟨u,h1,h4,.d (pt h2 h3 (lG h5 [] (by simp)))⟩
def oL(tk:aY)(g:Option Nat):aY:=fun i j=>match i,j with
 | none,0=>g
 | i,j=>tk i j
theorem n8{f:FuncId}{fn:Func}{args:List V}{l:List ByteArray}{σ:List (List V)}(hf:Tryz.prog.funcs[f]? = some fn)(hn:(fn.name == "runtime.NumGoroutine")=false)(hb:fn.body.isNone=false)
 (h:∀(M:av) (bm:List Nat) (w:World) (vs:List Value),G.cells M→M.hold w→vs.length=args.length→(∀i (h:i<args.length) (h':i<vs.length),Rep M bm args[i] vs[i])→(∀s,s∈l→s.size≤maxLen)∧Calls Tryz.prog f vs.toArray w (lj l w)):
 Fun G f args σ (aB (.own 9 1 (l.map fun s=>[ak s])) σ):=by
 refine⟨bq (P:=Tryz.prog) hf hn hb,fun M bm tk pr w vs hG hI ht hl hr=>(h M bm w vs hG.1 hI.facts hl hr).2.mono fun e w' ⟨v,he,hrow,hg,hx⟩=>?_⟩;have hs:=(h M bm w vs hG.1 hI.facts hl hr).1;have hlt:∀b,b<w.heap.size→∀o,(if w.heap.size≤b then(if o<l.length then w'.cell? ⟨b,o,none⟩else none)else M b o)=M b o:=fun b hb o=>if_neg (by omega)
 have hle:M.le fun b o=>if w.heap.size≤b then(if o<l.length then w'.cell? ⟨b,o,none⟩else none)else M b o:=fun b o x hm=>by
  have hb:=hI.facts.lt hm;show(if w.heap.size≤b then(if o<l.length then w'.cell? ⟨b,o,none⟩else none)else M b o)=some x;rw[hlt b hb o];exact hm
 obtain⟨h1,h2⟩:=hI.grow (M':=fun b o=>if w.heap.size≤b then(if o<l.length then w'.cell? ⟨b,o,none⟩else none)else M b o) hx hle (fun b o x hm=>by
  by_cases hb:w.heap.size≤b
  ·simp only[if_pos hb]at hm;split at hm
   ·exact hm
   ·cases hm
  ·simp only[if_neg hb]at hm;exact hx.cell (hI.facts b o x hm)) hlt
 have hgl:∀g,v.ownBlock=some g→g<w'.heap.size:=fun g hgg=>by
  obtain⟨-,⟨rfl,-⟩|⟨g',cap,cur,rfl,-,h3,-⟩⟩:=hrow
  ·cases hgg
  ·cases hgg;exact(Array.getElem?_eq_some_iff.1 h3).1
 have hbm:=hI.bm_lt
 have hI2:Inv (fun b o=>if w.heap.size≤b then(if o<l.length then w'.cell? ⟨b,o,none⟩else none)else M b o) bm σ (oL tk v.ownBlock) pr w':=by
  refine⟨h1.facts,h1.len,h1.box,h1.free,h1.bmnd,fun i j g hij=>?_,fun i j i' j' g h3 h4=>?_,h1.prlt⟩
  ·unfold oL at hij;split at hij
   ·have:=hg g hij;exact⟨hgl g hij,fun hb=>by have:=hbm g hb;omega,fun hp=>by have:=hI.prlt g hp;omega⟩
   ·exact h1.tok _ _ _ hij
  ·have old:∀i j,tk i j=some g→g<w.heap.size:=fun i j hij=>(hI.tok _ _ _ hij).1;unfold oL at h3 h4;split at h3<;>split at h4
   ·exact⟨rfl,rfl⟩
   ·have:=hg g h3;have:=old _ _ h4;omega
   ·have:=hg g h4;have:=old _ _ h3;omega
   ·exact h1.inj _ _ _ _ _ h3 h4
 refine⟨_,bm,oL tk v.ownBlock,σ,.ret (.own 9 1 (l.map fun s=>[ak s])),⟨rfl,rfl⟩,hI2,h2,fun x e=>?_,fun x e=>by cases e⟩;cases e;have hlen:(l.map fun s=>[ak s]).length=l.length:=by simp
 refine⟨v,he,.own ?_,fun T k rows e=>?_⟩
 ·obtain⟨p,cap,rfl,g1,g2,g3⟩:=fg hrow;refine nJ g1 g2 hs fun i s hi=>?_;obtain⟨b,off,rfl,g4⟩:=g3 i s hi;refine⟨b,off,rfl,?_⟩
  have hb0:off=0:=by
   obtain⟨-,⟨e,-⟩|⟨g',cap',cur,e,-⟩⟩:=hrow
   ·cases e
   ·cases e;rfl
  subst hb0;have hil:=(List.getElem?_eq_some_iff.1 hi).1;have:=hg b rfl;simp only[Nat.zero_add]at g4 ⊢;rw[if_pos this,if_pos hil];exact g4
 ·cases e;have hrow':=hrow;obtain⟨g0,⟨rfl,g1⟩|⟨g,cap,cur,rfl,g2,g3,g4⟩⟩:=hrow
  ·exact .inl ⟨rfl,by have:l=[]:=List.eq_nil_of_length_eq_zero g1;simp[this]⟩
  ·refine .inr ⟨g,_,rfl,rfl,fun r hr=>?_,by rw[hlen];exact hrow',fun o x hm=>?_⟩
   ·obtain⟨s,-,rfl⟩:=List.mem_map.1 hr;rfl
   ·have:=hg g rfl;simp only[if_pos this]at hm;split at hm
    ·rw[hlen];omega
    ·cases hm
theorem kJ(s:ByteArray)(σ:List (List V)):Fun G 49 [.d (ak s)] σ (aB (.d (.lit (.bool (bj s)))) σ):=
 qj Tryz.func49 (by kernel_rfl) (by kernel_rfl) trivial fun M bm w v hG hM hr=>by
  cases hr with
  | d hr=>cases hr with
   | lit _ h=>exact fd s w (by simp only[ca,maxLen]at h;omega) (pc hG hM)
end Go.Proofs.YthekkgfmagliiaaGreatDoor
