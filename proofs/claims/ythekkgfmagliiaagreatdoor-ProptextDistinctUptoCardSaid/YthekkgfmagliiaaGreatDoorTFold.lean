import Derived.Test.YthekkgfmagliiaaGreatDoorBr8
import Derived.Test.YthekkgfmagliiaaGreatDoorNames2
import Derived.Test.YthekkgfmagliiaaGreatDoorElem
set_option linter.unusedVariables false
set_option linter.unusedSimpArgs false
set_option linter.unusedSectionVars false
namespace Go.Proofs.YthekkgfmagliiaaGreatDoor
open Go.RowKit
theorem mY{f:FuncId}{fn:Func}{args:List V}{x:V}{σ:List (List V)}(hf:Tryz.prog.funcs[f]? = some fn)(hn:(fn.name == "runtime.NumGoroutine")=false)(hb:fn.body.isNone=false)(hx:∀T k rows,x≠.own T k rows)
 (h:∀(M:av) (bm:List Nat) (w:World) (vs:List Value),G.cells M→M.hold w→vs.length=args.length→(∀i (h:i<args.length) (h':i<vs.length),Rep M bm args[i] vs[i])→
   Calls Tryz.prog f vs.toArray w fun e w'=>∃u,e=.returned u∧Ext w w'∧Rep (qr w w') [] x u):Fun G f args σ (aG x σ):=by
 refine⟨bw (P:=Tryz.prog) hf hn hb,fun M bm tk pr w vs hG hI ht hl hr=>(h M bm w vs hG.1 hI.facts hl hr).mono fun e w' ⟨u,he,hx',hu⟩=>?_⟩;have hlt:∀b,b<w.heap.size→∀o,(if w.heap.size≤b then w'.cell? ⟨b,o,none⟩else M b o)=M b o:=fun b hb o=>if_neg (by omega)
 have hle:M.le fun b o=>if w.heap.size≤b then w'.cell? ⟨b,o,none⟩else M b o:=fun b o x hm=>by
  have hb:=hI.facts.lt hm;show(if w.heap.size≤b then w'.cell? ⟨b,o,none⟩else M b o)=some x;rw[hlt b hb o];exact hm
 obtain⟨h1,h2⟩:=hI.grow (M':=fun b o=>if w.heap.size≤b then w'.cell? ⟨b,o,none⟩else M b o) hx' hle (fun b o x hm=>by
  by_cases hb:w.heap.size≤b
  ·simpa only[if_pos hb]using hm
  ·simp only[if_neg hb]at hm;exact hx'.cell (hI.facts b o x hm)) hlt
 refine⟨_,bm,tk,σ,.ret x,⟨rfl,rfl⟩,h1,h2,fun v e=>?_,fun v e=>by cases e⟩;cases e;refine⟨u,he,hu.mono (fun b o x hm=>?_) (fun i b h=>by simp at h),fun T k rows e=>absurd e (hx T k rows)⟩;unfold qr at hm;split at hm
 ·rename_i hb;simp only[if_pos hb];exact hm
 ·cases hm
theorem qL{M:av}{l:List ByteArray}{p:Option Addr}{cap:Nat}(h1:l.length≤cap)(h2:cap≤maxLen)(hs:∀s,s∈l→s.size≤maxLen)
 (h:∀i s,l[i]? = some s→∃b off,p=some ⟨b,off,none⟩∧M b (off+i)=some (.string s)):DRep M (dy l) (.slice p l.length cap):=by
 have hlen:l.length=(l.map fun s=>[an s]).length:=by simp
 unfold dy;rw[hlen];refine .sl _ 1 p cap (fun i _=>.string (l[i]?.getD ⟨#[]⟩)) (fun r hr=>?_) (fun i j hi hj=>?_) (fun i hi=>?_) (by omega) h2
 ·obtain⟨s,-,rfl⟩:=List.mem_map.1 hr;rfl
 ·have hi':i<l.length:=by simpa using hi
  have hj0:j=0:=by simpa using hj
  subst hj0;simp only[List.getElem_map,List.getElem_cons_zero,List.getElem?_eq_getElem hi',Option.getD_some];exact .lit _ (hs _ (List.getElem_mem hi'))
 ·have hi':i<l.length:=by simpa using hi
  obtain⟨b,off,h7,h8⟩:=h i _ (List.getElem?_eq_getElem hi');refine⟨b,off,h7,fun j hj=>?_⟩;have hj0:j=0:=by omega
  subst hj0;simp only[List.getElem?_eq_getElem hi',Option.getD_some];simpa using h8
theorem tz{w w':World}{T:TypeId}{v:Value}{l:List ByteArray}(h:w'.ownsRow 0 T 1 v l.length (l.map Value.string))(hg:∀k,v.ownBlock=some k→w.heap.size≤k)(hs:∀s,s∈l→s.size≤maxLen):DRep (qr w w') (dy l) v:=by
 obtain⟨p,cap,rfl,h1,h2,h3⟩:=gn h;refine qL h1 h2 hs fun i s hi=>?_;obtain⟨b,off,rfl,h4⟩:=h3 i s hi;exact⟨b,off,rfl,by unfold qr;rw[if_pos (hg b rfl)];exact h4⟩
theorem oX{w:World}{ops:List Int}{e:Ex}{cs:List Value}(h:ExRep w e cs):∀x:List ByteArray,(∀s,s∈x→s.size≤maxLen)→∀s,s∈(dh (bO ops) e x).1→s.size≤maxLen:=by
 induction h with
 | mk o n s l v css hl hc hv ho hn hs ih=>
  intro x hx
  have H:∀(r:List Ex),(∀a,a∈r→a∈l)→∀x:List ByteArray,(∀s,s∈x→s.size≤maxLen)→∀s,s∈(dB (bO ops) r x).1→s.size≤maxLen:=by
   intro r
   induction r with
   | nil=>intro _ x hx;exact hx
   | cons a r ihr=>
    intro hr x hx;rw[dB,if_pos (kq _ a x)];obtain⟨i,hi,hia⟩:=List.getElem_of_mem (hr a (by simp));subst hia;exact ihr (fun y hy=>hr y (by simp[hy])) _ (ih i hi (by omega) x hx)
  rw[dh,if_pos (show(bO ops x (Ex.mk o n s l)).2=true from rfl)];refine H l (fun _ h=>h) _ ?_;intro t ht;rcases tG ht with h|⟨rfl,h⟩
  ·exact hx t h
  ·exact hs
theorem y6(e:Ex)(hs:aQ e≤1000000)(σ:List (List V)):Fun G 144 [vex e] σ (aG (.d (dy (ck [2] e))) σ):=
 mY Tryz.func144 (by kernel_rfl) (by kernel_rfl) (fun _ _ _ h=>by cases h) fun M bm w vs hG hM hl hr=>match vs,hl with
  | [v],_=>(Aw e w v (iu hM (hr 0 (by simp) (by simp))) hs).mono fun en w' ⟨u,h1,h2,h3,h4⟩=>by
   obtain⟨cs,h5,-⟩:=iu hM (hr 0 (by simp) (by simp));exact⟨u,h1,h4,.d (tz h2 h3 (oX h5 [] (by simp)))⟩
def rV(tk:a6)(g:Option Nat):a6:=fun i j=>match i,j with
 | none,0=>g
 | i,j=>tk i j
theorem rQ{f:FuncId}{fn:Func}{args:List V}{l:List ByteArray}{σ:List (List V)}(hf:Tryz.prog.funcs[f]? = some fn)(hn:(fn.name == "runtime.NumGoroutine")=false)(hb:fn.body.isNone=false)
 (h:∀(M:av) (bm:List Nat) (w:World) (vs:List Value),G.cells M→M.hold w→vs.length=args.length→(∀i (h:i<args.length) (h':i<vs.length),Rep M bm args[i] vs[i])→(∀s,s∈l→s.size≤maxLen)∧Calls Tryz.prog f vs.toArray w (nJ l w)):
 Fun G f args σ (aG (.own 9 1 (l.map fun s=>[an s])) σ):=by
 refine⟨bw (P:=Tryz.prog) hf hn hb,fun M bm tk pr w vs hG hI ht hl hr=>(h M bm w vs hG.1 hI.facts hl hr).2.mono fun e w' ⟨v,he,hrow,hg,hx⟩=>?_⟩;have hs:=(h M bm w vs hG.1 hI.facts hl hr).1;have hlt:∀b,b<w.heap.size→∀o,(if w.heap.size≤b then(if o<l.length then w'.cell? ⟨b,o,none⟩else none)else M b o)=M b o:=fun b hb o=>if_neg (by omega)
 have hle:M.le fun b o=>if w.heap.size≤b then(if o<l.length then w'.cell? ⟨b,o,none⟩else none)else M b o:=fun b o x hm=>by
  have hb:=hI.facts.lt hm;show(if w.heap.size≤b then(if o<l.length then w'.cell? ⟨b,o,none⟩else none)else M b o)=some x;rw[hlt b hb o];exact hm
 obtain⟨h1,h2⟩:=hI.grow (M':=fun b o=>if w.heap.size≤b then(if o<l.length then w'.cell? ⟨b,o,none⟩else none)else M b o) hx hle (fun b o x hm=>by
  by_cases hb:w.heap.size≤b
  ·simp only[if_pos hb]at hm;split at hm
   ·exact hm
   ·cases hm
  ·simp only[if_neg hb]at hm;exact hx.cell (hI.facts b o x hm)) hlt
 have hgl:∀g,v.ownBlock=some g→g<w'.heap.size:=fun g hgg=>by
  obtain⟨-,⟨rfl,-⟩|⟨g',cap,cur,rfl,-,h3,-⟩⟩:=hrow
  ·cases hgg
  ·cases hgg;exact(Array.getElem?_eq_some_iff.1 h3).1
 have hbm:=hI.bm_lt
 have hI2:Inv (fun b o=>if w.heap.size≤b then(if o<l.length then w'.cell? ⟨b,o,none⟩else none)else M b o) bm σ (rV tk v.ownBlock) pr w':=by
  refine⟨h1.facts,h1.len,h1.box,h1.free,h1.bmnd,fun i j g hij=>?_,fun i j i' j' g h3 h4=>?_,h1.prlt⟩
  ·unfold rV at hij;split at hij
   ·have:=hg g hij;exact⟨hgl g hij,fun hb=>by have:=hbm g hb;omega,fun hp=>by have:=hI.prlt g hp;omega⟩
   ·exact h1.tok _ _ _ hij
  ·have old:∀i j,tk i j=some g→g<w.heap.size:=fun i j hij=>(hI.tok _ _ _ hij).1;unfold rV at h3 h4;split at h3<;>split at h4
   ·exact⟨rfl,rfl⟩
   ·have:=hg g h3;have:=old _ _ h4;omega
   ·have:=hg g h4;have:=old _ _ h3;omega
   ·exact h1.inj _ _ _ _ _ h3 h4
 refine⟨_,bm,rV tk v.ownBlock,σ,.ret (.own 9 1 (l.map fun s=>[an s])),⟨rfl,rfl⟩,hI2,h2,fun x e=>?_,fun x e=>by cases e⟩;cases e;have hlen:(l.map fun s=>[an s]).length=l.length:=by simp
 refine⟨v,he,.own ?_,fun T k rows e=>?_⟩
 ·obtain⟨p,cap,rfl,g1,g2,g3⟩:=gn hrow;refine qL g1 g2 hs fun i s hi=>?_;obtain⟨b,off,rfl,g4⟩:=g3 i s hi;refine⟨b,off,rfl,?_⟩
  have hb0:off=0:=by
   obtain⟨-,⟨e,-⟩|⟨g',cap',cur,e,-⟩⟩:=hrow
   ·cases e
   ·cases e;rfl
  subst hb0;have hil:=(List.getElem?_eq_some_iff.1 hi).1;have:=hg b rfl;simp only[Nat.zero_add]at g4 ⊢;rw[if_pos this,if_pos hil];exact g4
 ·cases e;have hrow':=hrow;obtain⟨g0,⟨rfl,g1⟩|⟨g,cap,cur,rfl,g2,g3,g4⟩⟩:=hrow
  ·exact .inl ⟨rfl,by have:l=[]:=List.eq_nil_of_length_eq_zero g1;simp[this]⟩
  ·refine .inr ⟨g,_,rfl,rfl,fun r hr=>?_,by rw[hlen];exact hrow',fun o x hm=>?_⟩
   ·obtain⟨s,-,rfl⟩:=List.mem_map.1 hr;rfl
   ·have:=hg g rfl;simp only[if_pos this]at hm;split at hm
    ·rw[hlen];omega
    ·cases hm
theorem m5(s:ByteArray)(σ:List (List V)):Fun G 49 [.d (an s)] σ (aG (.d (.lit (.bool (a8 s)))) σ):=
 uB Tryz.func49 (by kernel_rfl) (by kernel_rfl) trivial fun M bm w v hG hM hr=>by
  cases hr with
  | d hr=>cases hr with
   | lit _ h=>exact gy s w (by simp only[ct,maxLen]at h;omega) (sN hG hM)
theorem xq(e:Ex)(hs:aQ e≤1000000)(hd:bN e≤999999)(σ:List (List V)):Fun G 77 [vex e] σ (aG (.d (dy (ck [2] e))) σ):=
 mY Tryz.func77 (by kernel_rfl) (by kernel_rfl) (fun _ _ _ h=>by cases h) fun M bm w vs hG hM hl hr=>match vs,hl with
  | [v],_=>(wQ e w v (iu hM (hr 0 (by simp) (by simp))) hs hd).mono fun en w' ⟨u,h1,h2,h3,h4⟩=>by
   obtain⟨cs,h5,-⟩:=iu hM (hr 0 (by simp) (by simp));rw[(qX e hs).2.2.2.1]at h2;exact⟨u,h1,h4,.d (tz h2 h3 (oX h5 [] (by simp)))⟩
theorem mO(s:ByteArray)(σ:List (List V)):Fun G 37 [.d (an s)] σ (aG (.d (.lit (.bool (a8 s)))) σ):=
 uB Tryz.func37 (by kernel_rfl) (by kernel_rfl) trivial fun M bm w v hG hM hr=>by
  cases hr with
  | d hr=>cases hr with
   | lit _ h=>exact gS s w (by simp only[ct,maxLen]at h;omega)
inductive Ts where
 | mk (op lo hi:Int) (e:Ex) (name:ByteArray) (args:List Ts)
namespace Ts
def op:Ts→Int|mk o _ _ _ _ _=>o
def lo:Ts→Int|mk _ a _ _ _ _=>a
def hi:Ts→Int|mk _ _ b _ _ _=>b
def ex:Ts→Ex|mk _ _ _ e _ _=>e
def name:Ts→ByteArray|mk _ _ _ _ s _=>s
def args:Ts→List Ts|mk _ _ _ _ _ l=>l
end Ts
mutual
theorem Ts.ind{P:Ts→Prop}(h:∀s:Ts,(∀a,a∈s.args→P a)→P s):∀s,P s
 | .mk o a b e s l=>h (.mk o a b e s l) (Ts.inds h l)
theorem Ts.inds{P:Ts→Prop}(h:∀s:Ts,(∀a,a∈s.args→P a)→P s):∀l:List Ts,∀a,a∈l→P a
 | [],_,ha=>nomatch ha
 | b::r,a,ha=>by
  rcases List.mem_cons.1 ha with e|e
  ·rw[e];exact Ts.ind h b
  ·exact Ts.inds h r a e
end
mutual
def dts:Ts→List D
 | .mk o a b e s l=>[ao o,ao a,ao b,ao e.op,ao e.num,an e.name,.sl (e.args.map dex),an s,.sl (Gb l)]
def Gb:List Ts→List (List D)
 | []=>[]
 | a::r=>dts a::Gb r
end
theorem DK(l:List Ts):Gb l=l.map dts:=by
 induction l with
 | nil=>rfl
 | cons a r ih=>simp only[Gb,ih,List.map_cons]
theorem bP(s:Ts):dts s=[ao s.op,ao s.lo,ao s.hi,ao s.ex.op,ao s.ex.num,an s.ex.name,.sl (s.ex.args.map dex),an s.name,.sl (s.args.map dts)]:=by
 cases s;simp only[dts,DK,Ts.op,Ts.lo,Ts.hi,Ts.ex,Ts.name,Ts.args]
def vts(s:Ts):V:=.agg ((dts s).map V.d)
theorem ax(s:Ts):vts s=.agg [.d (ao s.op),.d (ao s.lo),.d (ao s.hi),.d (ao s.ex.op),.d (ao s.ex.num),.d (an s.ex.name),.d (.sl (s.ex.args.map dex)),.d (an s.name),.d (.sl (s.args.map dts))]:=by
 unfold vts;rw[bP];rfl
theorem nN(s:Ts):(dts s).length=9:=by rw[bP];rfl
mutual
def bq:Ts→Nat
 | .mk _ _ _ e _ l=>1+aQ e+bM l
def bM:List Ts→Nat
 | []=>0
 | a::r=>bq a+bM r
end
theorem fu(s:Ts):bq s=1+aQ s.ex+bM s.args:=by cases s;rfl
theorem qH{l:List Ts}{a:Ts}(h:a∈l):bq a≤bM l:=by
 induction l with
 | nil=>cases h
 | cons b r ih=>
  simp only[bM];rcases List.mem_cons.1 h with e|e
  ·subst e;omega
  ·have:=ih e;omega
theorem di{s a:Ts}(h:a∈s.args):bq a<bq s:=by
 have:=qH h;rw[fu s];omega
theorem qU(l:List Ts):l.length≤bM l:=by
 induction l with
 | nil=>simp[bM]
 | cons b r ih=>
  have:=fu b;simp only[bM,List.length_cons];omega
theorem dC(s:Ts):s.args.length<bq s:=by
 have:=qU s.args;rw[fu s];omega
theorem jK(e:Ex):bN e≤aQ e:=by
 induction e using Ex.ind with
 | h o m s l ih=>
 simp only[bN,aQ]
 have H:∀(r:List Ex),(∀a,a∈r→a∈l)→cY r≤aV r:=by
  intro r
  induction r with
  | nil=>intro _;simp[cY,aV]
  | cons a r ihr=>
   intro hm;have h1:=ih a (hm a (by simp));have h2:=ihr (fun x hx=>hm x (by simp[hx]));simp only[cY,aV];omega
 have:=H l (fun _ h=>h);omega
mutual
def tsz:Ts→Nat
 | .mk _ _ _ _ _ l=>1+Gl l
def Gl:List Ts→Nat
 | []=>0
 | a::r=>tsz a+Gl r
end
theorem Dk(l:List Ts):Gl l=(l.map tsz).sum:=by
 induction l with
 | nil=>rfl
 | cons a r ih=>simp only[Gl,ih,List.map_cons,List.sum_cons]
theorem mJ(s:Ts):tsz s=1+(s.args.map tsz).sum:=by cases s;simp only[tsz,Dk,Ts.args]
theorem u6(s:Ts):tsz s≤bq s:=by
 induction s using Ts.ind with
 | h s ih=>
 rw[mJ,fu]
 have H:∀l:List Ts,(∀a,a∈l→tsz a≤bq a)→(l.map tsz).sum≤bM l:=by
  intro l
  induction l with
  | nil=>intro _;simp[bM]
  | cons a r ihr=>
   intro h;have h1:=h a (by simp);have h2:=ihr (fun x hx=>h x (by simp[hx]));simp only[List.map_cons,List.sum_cons,bM];omega
 have:=H s.args ih;omega
mutual
def tdp:Ts→Nat
 | .mk _ _ _ _ _ l=>1+jF l
def jF:List Ts→Nat
 | []=>0
 | a::r=>max (tdp a) (jF r)
end
theorem rS(s:Ts):tdp s=1+jF s.args:=by cases s;rfl
theorem ux{l:List Ts}{a:Ts}(h:a∈l):tdp a≤jF l:=by
 induction l with
 | nil=>cases h
 | cons b r ih=>
  simp only[jF];rcases List.mem_cons.1 h with e|e
  ·subst e;omega
  ·have:=ih e;omega
theorem Hr(s:Ts):tdp s≤bq s:=by
 induction s using Ts.ind with
 | h s ih=>
 rw[rS,fu]
 have H:∀l:List Ts,(∀a,a∈l→tdp a≤bq a)→jF l≤bM l:=by
  intro l
  induction l with
  | nil=>intro _;simp[jF]
  | cons a r ihr=>
   intro h;have h1:=h a (by simp);have h2:=ihr (fun x hx=>h x (by simp[hx]));simp only[jF,bM];omega
 have:=H s.args ih;omega
theorem Nxt.drop1{n0:Nat}{R:ak→List (List V)→Prop}{ρ:ak}{σ:List (List V)}{a b:List V}(hn:n0≤σ.length)(hb:az (σ++[a]).length (σ++[a])=true)(hs:aP (σ++[a]).length ρ=true)(hR:R ρ (σ++[a])):Nxt n0 R ρ (σ++[a,b]) .mk:=by
 have e:σ++[a,b]=(σ++[a])++[b]:=by simp
 rw[e];exact Nxt.drop (by rw[List.length_append];omega) hb hs hR
theorem rt(val:Ts→Int)(f:FuncId)(P:Ts→Prop)(hP:∀s,P s→∀a,a∈s.args→P a)(hB:∀s,P s→bq s≤1000000)
 (hf:∀s,P s→∀σ,jx G f [vts s] 3 1 ((s.args.map val).map fun n=>[ao n]) [] σ (aG (.d (ao (val s))) σ))(s:Ts):
 P s→∀σ,Fun G 101 [vts s,.fn f []] σ (aG (.d (ao (val s))) σ):=by
 induction s using Ts.ind with
 | h s ih=>
 intro hs σ;have hbig:=hB s hs;have hln:=dC s;refine aD Tryz.func101 NW (by simp only[ax];rfl) fun hb hw=>?_;unfold MH;simp -dsimp -implicitDefEqProofs only[aw,ac,V.copy,V.lend,V.lend1,V.cells,V.boxable,over,al,ah,ae,ai,V.plain,Nat.reduceLeDiff,cond_true,cond_false,implies_true,eq_self,ne_eq,reduceIte,reduceCtorEq,Nat.reduceBEq,Nat.reduceLT,Nat.reduceEqDiff,Nat.reduceAdd,Nat.reduceSub,Nat.reduceMul,ax];refine dG (by omega) ?_;simp -dsimp -implicitDefEqProofs only[aw,ac,V.copy,V.lend,V.lend1,V.cells,V.boxable,over,al,ah,ae,ai,V.plain,Nat.reduceLeDiff,cond_true,cond_false,implies_true,eq_self,ne_eq,reduceIte,reduceCtorEq,Nat.reduceBEq,Nat.reduceLT,Nat.reduceEqDiff,Nat.reduceAdd,Nat.reduceSub,Nat.reduceMul]
 refine ce [1,2,5,13,14,15] (R:=fun(j:Nat) ρ σ'=>ρ=[(1,.fn f []),(2,.ptr σ.length 0),(5,.own 3 1 (((s.args.take j).map val).map fun n=>[ao n])),(13,.d (.sl (s.args.map dts))),(14,aW .i64 s.args.length),(15,aW .i64 j)]∧σ'=σ++[[.d (ao s.op),.d (ao s.lo),.d (ao s.hi),.d (ao s.ex.op),.d (ao s.ex.num),.d (an s.ex.name),.d (.sl (s.ex.args.map dex)),.d (an s.name),.d (.sl (s.args.map dts))]]) s.args.length ⟨rfl,rfl⟩ ?_ _;rintro j ρ' σ' hj ⟨rfl,rfl⟩;by_cases hlt:j<s.args.length
 ·simp -dsimp -implicitDefEqProofs only[aw,ac,V.copy,V.lend,V.lend1,V.cells,V.boxable,over,al,ah,ae,ai,V.plain,Nat.reduceLeDiff,cond_true,cond_false,implies_true,eq_self,ne_eq,reduceIte,reduceCtorEq,Nat.reduceBEq,Nat.reduceLT,Nat.reduceEqDiff,Nat.reduceAdd,Nat.reduceSub,Nat.reduceMul,Int.ofNat_lt,hlt,decide_true,List.getElem?_eq_getElem hlt,bP s.args[j]];refine aq (by simpa only[ax]using ih s.args[j] (List.getElem_mem hlt) (hP s hs _ (List.getElem_mem hlt)) _) ?_;have ht:s.args.take (j+1)=s.args.take j++[s.args[j]]:=by rw[List.take_add_one,List.getElem?_eq_getElem hlt];rfl
  simp -dsimp -implicitDefEqProofs only[aw,ac,V.copy,V.lend,V.lend1,V.cells,V.boxable,over,al,ah,ae,ai,V.plain,Nat.reduceLeDiff,cond_true,cond_false,implies_true,eq_self,ne_eq,reduceIte,reduceCtorEq,Nat.reduceBEq,Nat.reduceLT,Nat.reduceEqDiff,Nat.reduceAdd,Nat.reduceSub,Nat.reduceMul];refine dG (by first|omega|(simp only[List.length_map,List.length_take];omega)) ?_;simp -dsimp -implicitDefEqProofs only[aw,ac,V.copy,V.lend,V.lend1,V.cells,V.boxable,over,al,ah,ae,ai,V.plain,Nat.reduceLeDiff,cond_true,cond_false,implies_true,eq_self,ne_eq,reduceIte,reduceCtorEq,Nat.reduceBEq,Nat.reduceLT,Nat.reduceEqDiff,Nat.reduceAdd,Nat.reduceSub,Nat.reduceMul,bE hlt (show s.args.length≤9223372036854775807 by omega)];refine⟨hlt,Nxt.drop1 (Nat.le_refl _) (bj hb rfl) (by simp[aP,V.under,V.unders]) ⟨?_,rfl⟩⟩
  rw[ht,List.map_append,List.map_append];rfl
 ·simp -dsimp -implicitDefEqProofs only[aw,ac,V.copy,V.lend,V.lend1,V.cells,V.boxable,over,al,ah,ae,ai,V.plain,Nat.reduceLeDiff,cond_true,cond_false,implies_true,eq_self,ne_eq,reduceIte,reduceCtorEq,Nat.reduceBEq,Nat.reduceLT,Nat.reduceEqDiff,Nat.reduceAdd,Nat.reduceSub,Nat.reduceMul,Int.ofNat_lt,hlt,decide_false];rw[List.take_of_length_le (show s.args.length≤j by omega)];refine ow (by simpa only[ax]using hf s hs _) ?_;simp -dsimp -implicitDefEqProofs only[aw,ac,V.copy,V.lend,V.lend1,V.cells,V.boxable,over,al,ah,ae,ai,V.plain,Nat.reduceLeDiff,cond_true,cond_false,implies_true,eq_self,ne_eq,reduceIte,reduceCtorEq,Nat.reduceBEq,Nat.reduceLT,Nat.reduceEqDiff,Nat.reduceAdd,Nat.reduceSub,Nat.reduceMul];exact am hb rfl rfl List.take_left ⟨rfl,rfl⟩
end Go.Proofs.YthekkgfmagliiaaGreatDoor
