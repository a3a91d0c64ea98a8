import Derived.Test.YthoebpnbhgmoiaaGreatDoorEval
import Derived.Test.YthoebpnbhgmoiaaGreatDoorNames2
import Derived.Test.YthoebpnbhgmoiaaGreatDoorIt1
import Derived.Test.YthoebpnbhgmoiaaGreatDoorFold
import Derived.Test.YthoebpnbhgmoiaaGreatDoorData
import Derived.Test.YthoebpnbhgmoiaaGreatDoorK
set_option linter.unusedVariables false
set_option linter.unusedSimpArgs false
set_option linter.unusedSectionVars false
open List renaming getElem?_eq_getElem→JH,getElem_cons_zero→JI,getElem_map→JJ,getElem_cons_succ→JK,getElem_of_mem→JL
open Option renaming getD_some→JM
namespace Go.Proofs.YthoebpnbhgmoiaaGreatDoor
open Go.RowKit
def pc(w w':World):ax:=fun b o=>if w.heap.size≤b then w'.cell? ⟨b,o,none⟩else none
theorem fJ{f:FuncId}{fn:Func}{args:List V}{x:V}{σ:List (List V)}(hf:Tryz.prog.funcs[f]? = some fn)(hn:(fn.name == "runtime.NumGoroutine")=false)(hb:fn.body.isNone=false)(hx:∀T k rows,x≠.own T k rows)
 (h:∀(M:ax) (bm:List Nat) (w:World) (vs:List Value),G.cells M→M.hold w→vs.length=args.length→(∀i (h:i<args.length) (h':i<vs.length),Rep M bm args[i] vs[i])→
   Calls Tryz.prog f vs.toArray w fun e w'=>∃u,e=.returned u∧Ext w w'∧Rep (pc w w') [] x u):Fun G f args σ (aO x σ):=by
 refine⟨di (P:=Tryz.prog) hf hn hb,fun M bm tk pr w vs hG hI ht hl hr=>(h M bm w vs hG.1 hI.facts hl hr).mono fun e w' ⟨u,he,hx',hu⟩=>?_⟩;have hlt:∀b,b<w.heap.size→∀o,(if w.heap.size≤b then w'.cell? ⟨b,o,none⟩else M b o)=M b o:=fun b hb o=>if_neg (by omega)
 have hle:M.le fun b o=>if w.heap.size≤b then w'.cell? ⟨b,o,none⟩else M b o:=fun b o x hm=>by
  have hb:=hI.facts.lt hm;show(if w.heap.size≤b then w'.cell? ⟨b,o,none⟩else M b o)=some x;rw[hlt b hb o];exact hm
 obtain⟨h1,h2⟩:=hI.grow (M':=fun b o=>if w.heap.size≤b then w'.cell? ⟨b,o,none⟩else M b o) hx' hle (fun b o x hm=>by
  by_cases hb:w.heap.size≤b
  ·simpa only[if_pos hb]using hm
  ·simp only[if_neg hb]at hm;exact hx'.cell (hI.facts b o x hm)) hlt
 refine⟨_,bm,tk,σ,.ret x,⟨rfl,rfl⟩,h1,h2,fun v e=>?_,fun v e=>by cases e⟩;cases e;refine⟨u,he,hu.mono (fun b o x hm=>?_) (fun i b h=>by simp at h),fun T k rows e=>absurd e (hx T k rows)⟩;unfold pc at hm;split at hm
 ·rename_i hb;simp only[if_pos hb];exact hm
 ·cases hm
theorem oK{M:ax}{l:List ByteArray}{p:Option Addr}{cap:Nat}(h1:l.length≤cap)(h2:cap≤maxLen)(hs:∀s,s∈l→s.size≤maxLen)
 (h:∀i s,l[i]? = some s→∃b off,p=some ⟨b,off,none⟩∧M b (off+i)=some (.string s)):DRep M (aQ l) (.slice p l.length cap):=by
 have hlen:l.length=(l.map fun s=>[al s]).length:=by simp
 unfold aQ;rw[hlen];refine .sl _ 1 p cap (fun i _=>.string (l[i]?.getD ⟨#[]⟩)) (fun r hr=>?_) (fun i j hi hj=>?_) (fun i hi=>?_) (by omega) h2
 ·obtain⟨s,-,rfl⟩:=List.mem_map.1 hr;rfl
 ·have hi':i<l.length:=by simpa using hi
  have hj0:j=0:=by simpa using hj
  subst hj0;simp only[JJ,JI,JH hi',JM];exact .lit _ (hs _ (List.getElem_mem hi'))
 ·have hi':i<l.length:=by simpa using hi
  obtain⟨b,off,h7,h8⟩:=h i _ (JH hi');refine⟨b,off,h7,fun j hj=>?_⟩;have hj0:j=0:=by omega
  subst hj0;simp only[JH hi',JM];simpa using h8
theorem qY{w w':World}{T:TypeId}{v:Value}{l:List ByteArray}(h:w'.ownsRow 0 T 1 v l.length (l.map Value.string))(hg:∀k,v.ownBlock=some k→w.heap.size≤k)(hs:∀s,s∈l→s.size≤maxLen):DRep (pc w w') (aQ l) v:=by
 obtain⟨p,cap,rfl,h1,h2,h3⟩:=iI h;refine oK h1 h2 hs fun i s hi=>?_;obtain⟨b,off,rfl,h4⟩:=h3 i s hi;exact⟨b,off,rfl,by unfold pc;rw[if_pos (hg b rfl)];exact h4⟩
theorem tq{w:World}{ops:List Int}{e:Ex}{cs:List Value}(h:ExRep w e cs):∀x:List ByteArray,(∀s,s∈x→s.size≤maxLen)→∀s,s∈(da (cX ops) e x).1→s.size≤maxLen:=by
 induction h with
 | mk o n s l v css hl hc hv ho hn hs ih=>
  intro x hx
  have H:∀(r:List Ex),(∀a,a∈r→a∈l)→∀x:List ByteArray,(∀s,s∈x→s.size≤maxLen)→∀s,s∈(dj (cX ops) r x).1→s.size≤maxLen:=by
   intro r
   induction r with
   | nil=>intro _ x hx;exact hx
   | cons a r ihr=>
    intro hr x hx;rw[dj,if_pos (ji _ a x)];obtain⟨i,hi,hia⟩:=JL (hr a (by simp));subst hia;exact ihr (fun y hy=>hr y (by simp[hy])) _ (ih i hi (by omega) x hx)
  rw[da,if_pos (show(cX ops x (Ex.mk o n s l)).2=true from rfl)];refine H l (fun _ h=>h) _ ?_;intro t ht;rcases rO ht with h|⟨rfl,h⟩
  ·exact hx t h
  ·exact hs
theorem BL{D:Nat→Prop}{w:World}{M:ax}(hM:∀b,D b→∀o x,w.cell? ⟨b,o,none⟩=some x→M b o=some x){e:Ex}{cs:List Value}(h:ExIn D w e cs):cs.length=4∧∀i (h:i<(dex e).length) (h':i<cs.length),DRep M (dex e)[i] cs[i]:=by
 induction h with
 | mk o n s l v css hl hc hv ho hn hs ih=>
 refine⟨rfl,fun i h h'=>?_⟩
 have h3:DRep M (.sl (l.map dex)) v:=by
  obtain⟨p,cap,rfl,h1,h2,h3⟩:=hv;have hlen:css.length=(l.map dex).length:=by simp[hl]
  rw[hlen];refine .sl _ 4 p cap (fun i j=>(css[i]?.getD [])[j]?.getD .nilIface) (fun r hr=>?_) (fun i j hi hj=>?_) (fun i hi=>?_) (by omega) h2
  ·obtain⟨a,-,rfl⟩:=List.mem_map.1 hr;rw[aT];rfl
  ·have hi':i<l.length:=by simpa using hi
   have hic:i<css.length:=by omega
   obtain⟨h4,h5⟩:=ih i hi' hic;have hj4:j<4:=by simp only[JJ]at hj;rw[aT]at hj;simpa using hj
   have:=h5 j (by simpa using hj) (by omega);simp only[JJ,JH hic,JM];rw[JH (by omega:j<css[i].length)];exact this
  ·have hi':i<l.length:=by simpa using hi
   have hic:i<css.length:=by omega
   obtain⟨b,off,h4,hD,h5,h6⟩:=h3 i _ (JH hic);refine⟨b,off,h4,fun j hj=>?_⟩;simp only[JH hic,JM];rw[JH (by omega:j<css[i].length)];exact hM b hD _ _ (h6 j _ (JH (by omega)))
 have e1:=aT (.mk o n s l)
 match i,h' with
 | 0,_=>simp only[e1,JI];exact .lit _ (by simpa[cR,IntKind.min,IntKind.max,IntKind.signed,IntKind.bits,Ex.op]using ho)
 | 1,_=>simp only[e1,JI,JK];exact .lit _ (by simpa[cR,IntKind.min,IntKind.max,IntKind.signed,IntKind.bits,Ex.num]using hn)
 | 2,_=>simp only[e1,JI,JK];exact .lit _ hs
 | 3,_=>simp only[e1,JI,JK];exact h3
theorem DW{D:Nat→Prop}{w:World}{M:ax}{bm:List Nat}(hM:∀b,D b→∀o x,w.cell? ⟨b,o,none⟩=some x→M b o=some x){e:Ex}{cs:List Value}(h:ExIn D w e cs):Rep M bm (vex e) (.agg cs.toArray):=by
 obtain⟨h2,h3⟩:=BL hM h;have h4:(dex e).length=4:=by rw[aT];rfl
 unfold vex;refine .agg (by simp[h2,h4]) (fun i g g'=>?_) (fun v hv=>?_)
 ·simp only[JJ];exact .d (h3 i (by simpa using g) g')
 ·obtain⟨i,hi,rfl⟩:=JL hv;exact(h3 i (by omega) hi).one
def pU(tk:bq)(g:Option Nat):bq:=fun i j=>match i,j with
 | none,0=>g
 | i,j=>tk i j
theorem kD{f:FuncId}{fn:Func}{args:List V}{l:List ByteArray}{σ:List (List V)}(hf:Tryz.prog.funcs[f]? = some fn)(hn:(fn.name == "runtime.NumGoroutine")=false)(hb:fn.body.isNone=false)
 (h:∀(M:ax) (bm:List Nat) (w:World) (vs:List Value),G.cells M→M.hold w→vs.length=args.length→(∀i (h:i<args.length) (h':i<vs.length),Rep M bm args[i] vs[i])→(∀s,s∈l→s.size≤maxLen)∧Calls Tryz.prog f vs.toArray w (mq l w)):
 Fun G f args σ (aO (.own 9 1 (l.map fun s=>[al s])) σ):=by
 refine⟨di (P:=Tryz.prog) hf hn hb,fun M bm tk pr w vs hG hI ht hl hr=>(h M bm w vs hG.1 hI.facts hl hr).2.mono fun e w' ⟨v,he,hrow,hg,hx⟩=>?_⟩;have hs:=(h M bm w vs hG.1 hI.facts hl hr).1;have hlt:∀b,b<w.heap.size→∀o,(if w.heap.size≤b then(if o<l.length then w'.cell? ⟨b,o,none⟩else none)else M b o)=M b o:=fun b hb o=>if_neg (by omega)
 have hle:M.le fun b o=>if w.heap.size≤b then(if o<l.length then w'.cell? ⟨b,o,none⟩else none)else M b o:=fun b o x hm=>by
  have hb:=hI.facts.lt hm;show(if w.heap.size≤b then(if o<l.length then w'.cell? ⟨b,o,none⟩else none)else M b o)=some x;rw[hlt b hb o];exact hm
 obtain⟨h1,h2⟩:=hI.grow (M':=fun b o=>if w.heap.size≤b then(if o<l.length then w'.cell? ⟨b,o,none⟩else none)else M b o) hx hle (fun b o x hm=>by
  by_cases hb:w.heap.size≤b
  ·simp only[if_pos hb]at hm;split at hm
   ·exact hm
   ·cases hm
  ·simp only[if_neg hb]at hm;exact hx.cell (hI.facts b o x hm)) hlt
 have hgl:∀g,v.ownBlock=some g→g<w'.heap.size:=fun g hgg=>by
  obtain⟨-,⟨rfl,-⟩|⟨g',cap,cur,rfl,-,h3,-⟩⟩:=hrow
  ·cases hgg
  ·cases hgg;exact(Array.getElem?_eq_some_iff.1 h3).1
 have hbm:=hI.bm_lt
 have hI2:Inv (fun b o=>if w.heap.size≤b then(if o<l.length then w'.cell? ⟨b,o,none⟩else none)else M b o) bm σ (pU tk v.ownBlock) pr w':=by
  refine⟨h1.facts,h1.len,h1.box,h1.free,h1.bmnd,fun i j g hij=>?_,fun i j i' j' g h3 h4=>?_,h1.prlt⟩
  ·unfold pU at hij;split at hij
   ·have:=hg g hij;exact⟨hgl g hij,fun hb=>by have:=hbm g hb;omega,fun hp=>by have:=hI.prlt g hp;omega⟩
   ·exact h1.tok _ _ _ hij
  ·have old:∀i j,tk i j=some g→g<w.heap.size:=fun i j hij=>(hI.tok _ _ _ hij).1;unfold pU at h3 h4;split at h3<;>split at h4
   ·exact⟨rfl,rfl⟩
   ·have:=hg g h3;have:=old _ _ h4;omega
   ·have:=hg g h4;have:=old _ _ h3;omega
   ·exact h1.inj _ _ _ _ _ h3 h4
 refine⟨_,bm,pU tk v.ownBlock,σ,.ret (.own 9 1 (l.map fun s=>[al s])),⟨rfl,rfl⟩,hI2,h2,fun x e=>?_,fun x e=>by cases e⟩;cases e;have hlen:(l.map fun s=>[al s]).length=l.length:=by simp
 refine⟨v,he,.own ?_,fun T k rows e=>?_⟩
 ·obtain⟨p,cap,rfl,g1,g2,g3⟩:=iI hrow;refine oK g1 g2 hs fun i s hi=>?_;obtain⟨b,off,rfl,g4⟩:=g3 i s hi;refine⟨b,off,rfl,?_⟩
  have hb0:off=0:=by
   obtain⟨-,⟨e,-⟩|⟨g',cap',cur,e,-⟩⟩:=hrow
   ·cases e
   ·cases e;rfl
  subst hb0;have hil:=(List.getElem?_eq_some_iff.1 hi).1;have:=hg b rfl;simp only[Nat.zero_add]at g4 ⊢;rw[if_pos this,if_pos hil];exact g4
 ·cases e;have hrow':=hrow;obtain⟨g0,⟨rfl,g1⟩|⟨g,cap,cur,rfl,g2,g3,g4⟩⟩:=hrow
  ·exact .inl ⟨rfl,by have:l=[]:=List.eq_nil_of_length_eq_zero g1;simp[this]⟩
  ·refine .inr ⟨g,_,rfl,rfl,fun r hr=>?_,by rw[hlen];exact hrow',fun o x hm=>?_⟩
   ·obtain⟨s,-,rfl⟩:=List.mem_map.1 hr;rfl
   ·have:=hg g rfl;simp only[if_pos this]at hm;split at hm
    ·rw[hlen];omega
    ·cases hm
theorem tz(o m:Int)(s:ByteArray)(k:Nat):0≤aJ o m s k∧aJ o m s k≤7:=by
 unfold aJ;repeat' split
 all_goals omega
theorem AL(e:Ex):0≤ed e∧ed e≤7:=by
 induction e using Ex.ind with
 | h o m s l ih=>
 have hL:∀(r:List Ex),(∀a,a∈r→a∈l)→0≤gW r∧gW r≤7:=by
  intro r
  induction r with
  | nil=>intro _;simp[gW]
  | cons a r ihr=>
   intro hm;have h1:=ih a (hm a (by simp));have h2:=ihr (fun x hx=>hm x (by simp[hx]));simp only[gW];split<;>omega
 have h1:=tz o m s l.length;have h2:=hL l (fun _ h=>h);simp only[ed];split<;>omega
theorem nK(e:Ex):cR (.int .i64 (aX e)):=by
 have h:0≤aX e∧aX e≤7:=by
  have:=AL e;unfold aX;split<;>omega
 generalize aX e=y at h;simp only[cR,IntKind.min,IntKind.max,IntKind.signed,IntKind.bits,if_true];omega
theorem gD(e:Ex)(hs:aA e≤1000000)(hd:bM e≤1000000)(σ:List (List V)):Fun G 41 [vex e] σ (aO (.d (ah (aX e))) σ):=
 kg Tryz.func41 (by kernel_rfl) (by kernel_rfl) (nK e) fun M bm w v hG hM hr=>vw e w v (fR hM hr) (ul hG hM) hd hs
theorem rv(e:Ex)(hs:aA e≤1000000)(hd:bM e≤999999)(σ:List (List V)):Fun G 21 [vex e] σ (aO (.d (aQ (eC [3,24] e))) σ):=
 fJ Tryz.func21 (by kernel_rfl) (by kernel_rfl) (fun _ _ _ h=>by cases h) fun M bm w vs hG hM hl hr=>match vs,hl with
  | [v],_=>(qO e w v (fR hM (hr 0 (by simp) (by simp))) hs hd).mono fun en w' ⟨u,h1,h2,h3,h4⟩=>by
   obtain⟨cs,h5,-⟩:=fR hM (hr 0 (by simp) (by simp));rw[(o8 e hs).2.2.2.2]at h2;exact⟨u,h1,h4,.d (qY h2 h3 (tq h5 [] (by simp)))⟩
theorem pq(e:Ex)(nm:ByteArray)(b:Ex)(hs:aA e≤1000000)(hb:aA b≤1000000)(σ:List (List V)):Fun G 141 [vex e,.d (al nm),vex b] σ (aO (vex (fy nm b e)) σ):=
 fJ Tryz.func141 (by kernel_rfl) (by kernel_rfl) (fun _ _ _ h=>by cases h) fun M bm w vs hG hM hl hr=>match vs,hl with
  | [v,n,v'],_=>by
   have h0:=fR hM (hr 0 (by simp) (by simp));have h1:Rep M bm (.d (al nm)) n:=hr 1 (by simp) (by simp);have h2:=fR hM (hr 2 (by simp) (by simp));cases h1 with
   | d h1=>cases h1 with
    | lit _ _=>
     refine(wg nm b (us b (by omega)) e (us e (by omega)) v v' w h0 h2).mono fun en w' ⟨cs,h3,h4,h5⟩=>?_
     exact⟨_,h3,h5,DW (fun b hb o x hx=>by
      unfold pc;rw[if_pos (by rcases hb with hb|hb;exact hb.elim;exact hb)];exact hx) h4⟩
def ey(l:List Sig):D:=.sl (l.map fun s=>[al s.name,ah s.val])
theorem hY(e:Ex)(hs:aA e≤1000000)(hd:bM e≤999999)(σ:List (List V)):Fun G 44 [vex e] σ (aO (.d (ah (aX e))) σ):=
 kg Tryz.func44 (by kernel_rfl) (by kernel_rfl) (nK e) fun M bm w v hG hM hr=>by
  have:=sC e w v (fR hM hr) hs hd;rwa[wK e hs]at this
theorem gS(s:ByteArray)(σ:List (List V)):Fun G 34 [.d (al s)] σ (aO (.d (.lit (.bool (bH s)))) σ):=
 kg Tryz.func34 (by kernel_rfl) (by kernel_rfl) trivial fun M bm w v hG hM hr=>by
  cases hr with
  | d h=>cases h with
   | lit _ hs=>exact gf s w (by simp only[cR,maxLen]at hs;omega)
end Go.Proofs.YthoebpnbhgmoiaaGreatDoor
