import Derived.WalkSpells
import Derived.Outline
import Derived.WalkLawsBesides
import Derived.ProofKit
import Derived.Deep.Slices
import Derived.Deep.QuietTactic
import Derived.BigQuiet
import Derived.Lib.Strings
import Derived.Lib.Bytealg
import Derived.Deep.RegionHeld3
import Derived.BigRegion
import Derived.Laws.Externs
import Derived.Deep.Light
import Derived.Lib.IndexLaws
import Derived.Lib.ItoaNum
import Derived.Lib.ParseIntB
import Derived.Lib.ParseIntBCases
import Derived.Test.YtnhphlmblenapaaGreatDoorRows
import Derived.Test.YtnhphlmblenapaaGreatDoorA20
set_option linter.unusedVariables false
set_option linter.unusedSimpArgs false
set_option linter.unusedSectionVars false
set_option maxRecDepth 100000
open Bool renaming and_eq_true->TJ,eq_iff_iff->TK
open List renaming eq_nil_of_length_eq_zero->TL,takeWhile_cons_of_pos->TM,drop_eq_getElem_cons->TN,length_nil->TO,takeWhile_cons_of_neg->TP,length_cons->TQ,suffix_refl->TR,getElem_mem->TS,getElem?_eq_getElem->TT,dropWhile_suffix->TU,drop_succ_cons->TV,length_drop->TW,mem_cons->TX
open Nat renaming zero_le->TY,le_refl->TZ,le_trans->T0,lt_of_lt_of_le->T1,strongRecOn->T3,zero_add->T4,add_zero->T5
namespace Go.Proofs.YtnhphlmblenapaaGreatDoor
open Go.RowKit
inductive Ex where
 | mk (op n:Int) (name:ByteArray) (args:List Ex)
namespace Ex
def op:Ex->Int|mk o _ _ _=>o
def num:Ex->Int|mk _ n _ _=>n
def name:Ex->ByteArray|mk _ _ s _=>s
def args:Ex->List Ex|mk _ _ _ l=>l
end Ex
mutual
theorem Ex.ind{P:Ex->Prop}(h:∀o n s l,(∀a,a∈l->P a)->P (.mk o n s l)):∀e,P e
 | .mk o n s l=>h o n s l (Ex.inds h l)
theorem Ex.inds{P:Ex->Prop}(h:∀o n s l,(∀a,a∈l->P a)->P (.mk o n s l)):∀l:List Ex,∀a,a∈l->P a
 | [],_,ha=>nomatch ha
 | b::r,a,ha=>by
  rcases List.mem_cons.1 ha with e|e
  .rw[e];exact Ex.ind h b
  .exact Ex.inds h r a e
end
theorem cu{k:IntKind}{a b:Int}(h:a=b):Ending.returned (.int k a)=.returned (.int k b):=by rw[h]
theorem aV{a b:Bool}(h:a=b):Ending.returned (.bool a)=.returned (.bool b):=by rw[h]
def Ext(w w':World):Prop:=Below w.heap.size w w'
theorem Ext.refl(w:World):Ext w w:=Below.refl _ _
theorem Ext.trans{a b c:World}(h:Ext a b)(k:Ext b c):Ext a c:=Below.trans h (Below.mono k h.size)
theorem Ext.cell{w w':World}(h:Ext w w'){p:Addr}{v:Value}(hp:w.cell? p=some v):w'.cell? p=some v:=by
 have hb:p.block<w.heap.size:=by
  unfold World.cell? at hp;split at hp
  .rename_i h1;exact(Array.getElem?_eq_some_iff.1 h1).1
  .cases hp
 rw[Below.cell h hb];exact hp
theorem Ext.alloc{a w:World}(h:Ext a w)(o:Obj):Ext a (w.alloc o):=Below.alloc h h.size o
theorem Ext.drewN{a w:World}(h:Ext a w)(n:Nat):Ext a (w.drewN n):=⟨h.os,h.tape,h.output,h.size,h.block⟩
theorem Ext.drew{a w:World}(h:Ext a w):Ext a w.drew:=Below.drew h
theorem Ext.box4{w w':World}{T:TypeId}{a b c d:Value}(h:Ext (w.alloc (.cells #[a,b,c,d] T)) w'):
 w'.cell? ⟨w.heap.size,0,none⟩=some a/\w'.cell? ⟨w.heap.size,1,none⟩=some b/\w'.cell? ⟨w.heap.size,2,none⟩=some c/\w'.cell? ⟨w.heap.size,3,none⟩=some d:=
 ⟨h.cell (by simp[World.cell?_alloc_new]),h.cell (by simp[World.cell?_alloc_new]),h.cell (by simp[World.cell?_alloc_new]),h.cell (by simp[World.cell?_alloc_new])⟩
theorem Ext.past{w w':World}{o:Obj}(h:Ext (w.alloc o) w'):Ext w w':=((Ext.refl w).alloc o).trans h
def lI(w:World)(b off:Nat)(cs:List Value):Prop:=∀j v,cs[j]? = some v->w.cell? ⟨b,off+j,none⟩=some v
def nw(w:World)(size:Nat)(v:Value)(css:List (List Value)):Prop:=
 ∃p cap,v=.slice p css.length cap/\css.length≤cap/\cap≤maxLen/\
  ∀i cs,css[i]? = some cs->∃b off,p=some ⟨b,off,none⟩/\cs.length=size/\lI w b (off+i*size) cs
theorem lI.ext{w w':World}(h:Ext w w'){b off:Nat}{cs:List Value}(hc:lI w b off cs):lI w' b off cs:=
 fun j v hj=>h.cell (hc j v hj)
theorem nw.ext{w w':World}(h:Ext w w'){size:Nat}{v:Value}{css:List (List Value)}(hs:nw w size v css):nw w' size v css:=by
 obtain⟨p,cap,h1,h2,h3,h4⟩:=hs;refine⟨p,cap,h1,h2,h3,fun i cs hi=>?_⟩;obtain⟨b,off,g1,g2,g3⟩:=h4 i cs hi;exact⟨b,off,g1,g2,g3.ext h⟩
inductive ExRep(w:World):Ex->List Value->Prop
 | mk (o n:Int) (s:ByteArray) (l:List Ex) (v:Value) (css:List (List Value)) (hl:css.length=l.length)
  (hc:∀i (h:i<l.length) (h':i<css.length),ExRep w l[i] css[i]) (hv:nw w 4 v css)
  (ho : -9223372036854775808≤o/\o≤9223372036854775807) (hn : -9223372036854775808≤n/\n≤9223372036854775807) (hs:s.size≤maxLen):
  ExRep w (.mk o n s l) [.int .i64 o,.int .i64 n,.string s,v]
theorem ExRep.ext{w w':World}(h:Ext w w'){e:Ex}{cs:List Value}(he:ExRep w e cs):ExRep w' e cs:=by
 induction he with
 | mk o n s l v css hl hc hv ho hn hs ih=>exact .mk o n s l v css hl ih (hv.ext h) ho hn hs
def iD(w:World)(e:Ex)(v:Value):Prop:=∃cs,ExRep w e cs/\v=.agg cs.toArray
theorem iD.ext{w w':World}(h:Ext w w'){e:Ex}{v:Value}:iD w e v->iD w' e v
 | ⟨cs,h1,h2⟩=>⟨cs,h1.ext h,h2⟩
def u0(w:World)(l:List Ex)(v:Value):Prop:=∃css:List (List Value),css.length=l.length/\nw w 4 v css/\∀i (h:i<l.length) (h':i<css.length),ExRep w l[i] css[i]
theorem zk{w:World}{b o:Nat}{e:Ex}{cs:List Value}(hr:ExRep w e cs)(hc:lI w b o cs):
 ∃v,iD w e (.agg #[.int .i64 e.op,.int .i64 e.num,.string e.name,v])/\u0 w e.args v/\
  w.cell? ⟨b,o,none⟩=some (.int .i64 e.op)/\w.cell? ⟨b,o+1,none⟩=some (.int .i64 e.num)/\
  w.cell? ⟨b,o+2,none⟩=some (.string e.name)/\w.cell? ⟨b,o+3,none⟩=some v:=by
 cases hr with
 | mk o' n s l v css hl hc' hv ho hn hs=>
  refine⟨v,⟨_,.mk o' n s l v css hl hc' hv ho hn hs,rfl⟩,⟨css,hl,hv,hc'⟩,?_,?_,?_,?_⟩
  .exact hc 0 _ rfl
  .exact hc 1 _ rfl
  .exact hc 2 _ rfl
  .exact hc 3 _ rfl
theorem x7{w:World}{l:List Ex}{p:Option Addr}{n cap:Nat}(h:u0 w l (.slice p n cap)){j:Nat}(hj:j<l.length):
 ∃b o cs,p=some ⟨b,o,none⟩/\ExRep w l[j] cs/\lI w b (o+j*4) cs:=by
 obtain⟨css,hl,⟨p',cap',hv,h1,h2,h3⟩,hr⟩:=h;cases hv;have hj':j<css.length:=by omega
 obtain⟨b,o,g1,g2,g3⟩:=h3 j css[j] (by simp[hj']);exact⟨b,o,css[j],g1,hr j hj hj',g3⟩
theorem lH{w:World}{l:List Ex}{v:Value}(h:u0 w l v):∃p cap,v=.slice p l.length cap/\l.length≤cap/\cap≤9223372036854775807:=by
 obtain⟨css,hl,⟨p,cap,hv,h1,h2,h3⟩,hr⟩:=h;exact⟨p,cap,by rw[hv,hl],by omega,h2⟩
theorem gB{w:World}{e:Ex}{v:Value}(h:iD w e v):
 ∃p cap,v=.agg #[.int .i64 e.op,.int .i64 e.num,.string e.name,.slice p e.args.length cap]/\u0 w e.args (.slice p e.args.length cap)/\
  e.args.length≤cap/\cap≤9223372036854775807/\
  (-9223372036854775808≤e.op/\e.op≤9223372036854775807)/\(-9223372036854775808≤e.num/\e.num≤9223372036854775807)/\e.name.size≤9223372036854775807:=by
 obtain⟨cs,hr,rfl⟩:=h;cases hr with
 | mk o' n s l v css hl hc' hv ho hn hs=>
  obtain⟨p,cap,rfl,h1,h2⟩:=lH ⟨css,hl,hv,hc'⟩;exact⟨p,cap,rfl,⟨css,hl,hv,hc'⟩,h1,h2,ho,hn,hs⟩
theorem oR(a b:ByteArray):(a.toList==b.toList)=decide (a=b):=by
 rw[ByteArray.toList_eq,ByteArray.toList_eq,TK];simp only[beq_iff_eq,decide_eq_true_eq];constructor
 .intro h;cases a;cases b;simp only[ByteArray.mk.injEq];exact Array.toList_inj.1 h
 .intro h;rw[h]
def inB(s:ByteArray)(l:List ByteArray):Bool:=l.any fun x=>decide (x=s)
theorem qb{s:ByteArray}{l:List ByteArray}:inB s l=true↔s∈l:=by simp[inB]
theorem p0{s:ByteArray}{l:List ByteArray}:inB s l=false↔s∉l:=by rw[<-qb,Bool.not_eq_true]
def dq(w:World)(l:List ByteArray)(v:Value):Prop:=
 ∃p cap,v=.slice p l.length cap/\l.length≤cap/\cap≤9223372036854775807/\
  ∀i s,l[i]? = some s->∃b off,p=some ⟨b,off,none⟩/\w.cell? ⟨b,off+i,none⟩=some (.string s)
theorem dq.ext{w w':World}(h:Ext w w'){l:List ByteArray}{v:Value}:dq w l v->dq w' l v
 | ⟨p,cap,h1,h2,h3,h4⟩=>⟨p,cap,h1,h2,h3,fun i s hi=>by obtain⟨b,off,g1,g2⟩:=h4 i s hi;exact⟨b,off,g1,h.cell g2⟩⟩
theorem uG{w:World}{l:List ByteArray}{p:Option Addr}{n cap:Nat}(h:dq w l (.slice p n cap)){j:Nat}(hj:j<l.length):
 ∃b off,p=some ⟨b,off,none⟩/\w.cell? ⟨b,off+j,none⟩=some (.string l[j]):=by
 obtain⟨p',cap',hv,h1,h2,h3⟩:=h;cases hv;exact h3 j l[j] (by simp[hj])
theorem yA(w:World)(l:List ByteArray)(T:TypeId)(hl:l.length≤9223372036854775807):
 dq (w.alloc (.cells (l.map Value.string).toArray T)) l (.slice (some ⟨w.heap.size,0,none⟩) l.length l.length):=by
 refine⟨_,_,rfl,TZ _,hl,fun i s hi=>⟨_,_,rfl,?_⟩⟩;simp[World.cell?_alloc_new,hi]
def IP(l:List ByteArray)(w:World)(e:Ending)(w':World):Prop:=∃v,e=.returned v/\dq w' l v/\Ext w w'
structure Keep(O:Nat->Prop)(w w':World):Prop where
 os:w'.os=w.os
 tape:w'.tape=w.tape
 output:w'.output=w.output
 size:w.heap.size≤w'.heap.size
 block:∀k,k<w.heap.size->¬O k->w'.heap[k]? = w.heap[k]?
theorem Keep.refl(O:Nat->Prop)(w:World):Keep O w w:=⟨rfl,rfl,rfl,TZ _,fun _ _ _=>rfl⟩
theorem Keep.trans{O O':Nat->Prop}{a b c:World}(h:Keep O a b)(k:Keep O' b c)(ho:∀x,O' x->O x\/a.heap.size≤x):Keep O a c:=
 ⟨k.os.trans h.os,k.tape.trans h.tape,k.output.trans h.output,T0 h.size k.size,fun i hi hn=>
   (k.block i (T1 hi h.size) (fun hx=>(ho i hx).elim hn (fun hx=>by omega))).trans (h.block i hi hn)⟩
theorem Keep.of_ext{O:Nat->Prop}{w w':World}(h:Ext w w'):Keep O w w':=⟨h.os,h.tape,h.output,h.size,fun k hk _=>h.block k hk⟩
theorem Keep.mono{O O':Nat->Prop}{w w':World}(h:Keep O w w')(ho:∀x,O x->O' x):Keep O' w w':=
 ⟨h.os,h.tape,h.output,h.size,fun k hk hn=>h.block k hk fun hx=>hn (ho k hx)⟩
theorem Keep.ext{O:Nat->Prop}{w0 w w':World}(h:Keep O w w')(h0:Ext w0 w)(ho:∀x,O x->w0.heap.size≤x):Ext w0 w':=
 ⟨h.os.trans h0.os,h.tape.trans h0.tape,h.output.trans h0.output,T0 h0.size h.size,fun k hk=>
   (h.block k (T1 hk h0.size) (fun hx=>by have:=ho k hx;omega)).trans (h0.block k hk)⟩
theorem Keep.cell{O:Nat->Prop}{w w':World}(h:Keep O w w'){p:Addr}{v:Value}(hn:¬O p.block)(hp:w.cell? p=some v):w'.cell? p=some v:=by
 have hb:p.block<w.heap.size:=by
  unfold World.cell? at hp;split at hp
  .rename_i h1;exact(Array.getElem?_eq_some_iff.1 h1).1
  .cases hp
 rw[World.cell?_of_block (w:=w) (h.block p.block hb hn)];exact hp
theorem Keep.heap{O:Nat->Prop}{w w':World}(h:Keep O w w'){k:Nat}{o:Obj}(hn:¬O k)(hp:w.heap[k]? = some o):w'.heap[k]? = some o:=by
 rw[h.block k (Array.getElem?_eq_some_iff.1 hp).1 hn];exact hp
theorem Keep.alloc{O:Nat->Prop}{a w:World}(h:Keep O a w)(o:Obj):Keep O a (w.alloc o):=
 h.trans (Keep.of_ext (O:=O) ((Ext.refl w).alloc o)) fun _ hx=>.inl hx
theorem Keep.drewN{O:Nat->Prop}{a w:World}(h:Keep O a w)(n:Nat):Keep O a (w.drewN n):=⟨h.os,h.tape,h.output,h.size,h.block⟩
theorem Keep.setCell{O:Nat->Prop}{a w:World}(h:Keep O a w){p:Addr}(hp:O p.block\/a.heap.size≤p.block)(u:Value):Keep O a (w.setCell p u):=by
 refine⟨h.os,h.tape,h.output,T0 h.size (by simp[World.setCell]),fun k hk hn=>?_⟩;rw[Below.heap_setCell _ _ _ _ (fun e=>?_)]
 .exact h.block k hk hn
 .subst e;rcases hp with hp|hp
  .exact hn hp
  .omega
theorem Keep.grown{O:Nat->Prop}{a w w':World}{row:Option Nat}(h:Keep O a w)(hg:w.grownBy w' row)(hr:∀k,row=some k->O k\/a.heap.size≤k):Keep O a w':=
 ⟨hg.os.trans h.os,hg.tape.trans h.tape,hg.output.trans h.output,T0 h.size hg.size,fun k hk hn=>by
   rw[hg.block k (T1 hk h.size) (fun e=>?_)]
   .exact h.block k hk hn
   .rcases hr k e.symm with h'|h'
    .exact hn h'
    .omega⟩
def One(b:Nat)(T:TypeId)(v:Value)(w:World):Prop:=w.heap[b]? = some (.cells #[v] T (0,0))
theorem One.cell{b:Nat}{T:TypeId}{v:Value}{w:World}(h:One b T v w):w.cell? ⟨b,0,none⟩=some v:=by
 unfold One at h;simp[World.cell?,h]
theorem One.frozen{b:Nat}{T:TypeId}{v:Value}{w:World}(h:One b T v w):w.frozen? ⟨b,0,none⟩=false:=by
 unfold One at h;simp[World.frozen?,h]
theorem One.lt{b:Nat}{T:TypeId}{v:Value}{w:World}(h:One b T v w):b<w.heap.size:=(Array.getElem?_eq_some_iff.1 h).1
theorem One.keep{O:Nat->Prop}{w w':World}(h:Keep O w w'){b:Nat}{T:TypeId}{v:Value}(hn:¬O b)(h1:One b T v w):One b T v w':=h.heap hn h1
theorem One.set{b:Nat}{T:TypeId}{v:Value}{w:World}(h:One b T v w)(u:Value):One b T u (w.setCell ⟨b,0,none⟩ u):=by
 unfold One at h ⊢;simp[World.setCell,Array.getElem?_modify,h]
theorem One.alloc{b:Nat}{T:TypeId}{v:Value}{w:World}(h:One b T v w)(o:Obj):One b T v (w.alloc o):=by
 have:=h.lt;unfold One at h ⊢;rw[Below.heap_alloc _ _ _ this];exact h
theorem One.new(w:World)(T:TypeId)(v:Value):One w.heap.size T v (w.alloc (.cells #[v] T)):=by
 unfold One;show(w.heap.push _)[w.heap.size]? = _;simp
theorem _root_.Go.World.ownsRow.drewN{w:World}{base:Nat}{e:TypeId}{size:Nat}{v:Value}{n:Nat}{xs:List Value}(h:w.ownsRow base e size v n xs)(k:Nat):(w.drewN k).ownsRow base e size v n xs:=h
theorem kR{P:Program}{f:FuncId}{args:Array Value}{w:World}{n:Nat}{v:Value}(h:Calls P f args (w.drewN n) fun e w'=>e=.returned v/\w.drewN n=w'):
 Calls P f args (w.drewN n) fun e w''=>e=.returned v/\∃m,w''=w.drewN m:=h.mono fun _ _ h=>⟨h.1,n,h.2.symm⟩
theorem nS{w:World}{base:Nat}{T:TypeId}{v:Value}{l:List ByteArray}(h:w.ownsRow base T 1 v l.length (l.map Value.string)):dq w l v:=by
 obtain⟨h1,h2⟩:=h;rcases h2 with⟨rfl,h0⟩|⟨g,cap,cur,rfl,hb,hh,hn,hc,hs,ht⟩
 .have:l=[]:=TL h0;subst this;exact⟨none,0,rfl,TZ _,by omega,fun i s hi=>by simp at hi⟩
 .refine⟨_,cap,rfl,hn,hc,fun i s hi=>⟨g,0,rfl,?_⟩⟩;have hlt:i<l.length:=(List.getElem?_eq_some_iff.1 hi).1;have e1:(cur.toList.take (l.length*1))[i]? = some (.string s):=by rw[ht];simp[hi]
  rw[List.getElem?_take_of_lt (by omega)]at e1;simp[World.cell?,hh];simpa using e1
theorem rE{α:Type}[DecidableEq α]:∀{l N:List α},l.Nodup->(∀s,s∈l->s∈N)->l.length≤N.length
 | [],_,_,_=>TY _
 | a::r,N,hn,hm=>by
  have ha:a∈N:=hm a (by simp)
  have hr:=rE (l:=r) (N:=N.erase a) (List.nodup_cons.1 hn).2 (fun s hs=>by
   have hne:s≠a:=fun e=>(List.nodup_cons.1 hn).1 (e▸hs);exact(List.mem_erase_of_ne hne).2 (hm s (by simp[hs])))
  rw[List.length_erase_of_mem ha]at hr;have:0<N.length:=List.length_pos_of_mem ha;simp only[TQ];omega
mutual
def fr{σ:Type}(next:σ->Ex->σ×Bool):Ex->σ->σ×Bool
 | .mk o n s l,x=>if(next x (.mk o n s l)).2 then fZ next l (next x (.mk o n s l)).1 else((next x (.mk o n s l)).1,false)
def fZ{σ:Type}(next:σ->Ex->σ×Bool):List Ex->σ->σ×Bool
 | [],x=>(x,true)
 | a::r,x=>if(fr next a x).2 then fZ next r (fr next a x).1 else((fr next a x).1,false)
end
structure Visits(P:Program)(w0:World)(F:FuncId)(cap:Array Value){σ:Type}(next:σ->Ex->σ×Bool)(I:(Nat->Prop)->σ->World->Prop)(Q:Ex->Prop):Prop where
 sub:∀{o n s l},Q (.mk o n s l)->∀a,a∈l->Q a
 stays:∀{O s w w'},I O s w->(∀k,O k->w'.heap[k]? = w.heap[k]?)->I O s w'
 lt:∀{O s w},I O s w->∀k,O k->w0.heap.size≤k/\k<w.heap.size
 call:∀{O s w e v},Q e->Ext w0 w->I O s w->iD w0 e v->
  Calls P F (#[v]++cap) w fun en w'=>en=.returned (.bool (next s e).2)/\∃O',I O' (next s e).1 w'/\(∀k,O' k->O k\/w.heap.size≤k)/\Keep O w w'
section
variable {P : Program}
theorem vV(w:World)(t ty e:TypeId)(i:TypeInfo)(z:Value)(size bytes:Nat)(ht:P.underlying t=some (.slice e))(hi:P.info? e=some i)(hz:i.zero=some z)
 (hsize:i.size=size)(hby:i.bytes=bytes)(hzs:z.cells.size=size)(hsz:0<size)
 (v:Value)(n:Nat)(xs:List Value)(hown:w.ownsRow 0 e size v n xs)
 (a:Addr)(m c:Nat)(news:List Value)(hl:news.length=m*size)(hnews:∀j u,news[j]? = some u->w.cell? (a.add j)=some u)(h1:∀u∈news,u.oneCell'=true)
 (h63:n+m≤maxLen)(hbytes:(n+m)*bytes≤140737488355328)(hm:0<m):
 ∃v' w',(Builtin.append_ #[t,t] ty #[v,.slice (some a) m c]).run P w=.ok v' w'/\w'.ownsRow 0 e size v' (n+m) (xs++news)/\w.grownBy w' v.ownBlock/\
  ∃g cap,v'=.slice (some ⟨g,0,none⟩) (n+m) cap/\(v.ownBlock=some g\/w.heap.size≤g):=by
 obtain⟨v',w',hr,h2,h3,h4⟩:=run_append_own (P:=P) w 0 t ty e i z size bytes ht hi hz hsize hby hzs hsz v n xs hown a m c news hl hnews h1 h63 hbytes (TY _);refine⟨v',w',hr,h2,h3,?_⟩;subst hsize;subst hby;rcases hown.2 with⟨rfl,rfl⟩|⟨g,cap,cur,rfl,hbg,hg,hnc,hcm,hcs,htake⟩
 .have hr2:=run_append_nil (P:=P) w t ty e i z ht hi hz a m c news hl hnews hm (by simp only[maxLen]at h63;omega) (by have hb:=hbytes;simp only[T4]at hb;omega);rw[hr]at hr2;injection hr2 with e1 e2
  exact⟨w.heap.size,_,by rw[e1,T4],.inr (TZ _)⟩
 .by_cases hroom:n+m≤cap
  .have hfit:n*i.size+news.length≤cur.size:=by rw[hl,hcs,<-Nat.add_mul];exact Nat.mul_le_mul_right _ hroom
   have hr2:=run_append_room (P:=P) w t ty e i ht hi g n cap cur hg a m c news hl hnews h1 hroom hfit;rw[hr]at hr2;injection hr2 with e1 e2
   exact⟨g,_,e1,.inl rfl⟩
  .have hr2:=run_append_grow (P:=P) w t ty e i z ht hi hz ⟨g,0,none⟩ n cap xs hown.1 (hown.cells (g:=g) rfl) a m c news hl hnews (by omega) (by simp only[maxLen]at h63;omega) (growslice_fits (by omega) hbytes);rw[hr]at hr2;injection hr2 with e1 e2
   exact⟨w.heap.size,_,e1,.inr (TZ _)⟩
structure Grew(w:World)(e:TypeId)(size:Nat)(v:Value)(n:Nat)(xs:List Value)(g cap:Nat)(w':World):Prop where
 row:w'.ownsRow 0 e size (.slice (some ⟨g,0,none⟩) n cap) n xs
 grown:w.grownBy w' v.ownBlock
 new:v.ownBlock=some g\/w.heap.size≤g
end
end Go.Proofs.YtnhphlmblenapaaGreatDoor
namespace Go.Proofs.YtnhphlmblenapaaGreatDoor
open Go.RowKit
mutual
def b8:Ex->Nat
 | .mk _ _ _ l=>cZ l+1
def cZ:List Ex->Nat
 | []=>0
 | a::r=>max (b8 a) (cZ r)
end
theorem pd{l:List Ex}{a:Ex}(h:a∈l):b8 a≤cZ l:=by
 induction l with
 | nil=>cases h
 | cons b r ih=>
  simp only[cZ];rcases List.mem_cons.1 h with h|h
  .subst h;omega
  .have:=ih h;omega
theorem BD(e:Ex):∀(v:Value) (w:World),b8 e≤1200000->iD w e v->
 Calls Tryz.prog 183 #[v] w fun en w'=>en=.returned (.int .i64 (b8 e))/\Ext w w':=by
 induction e using Ex.ind with
 | h o m s l ih=>
  intro v w hd hv;obtain⟨p,cap,rfl,hl,h1,h2,-,-,-⟩:=gB hv;simp only[Ex.op,Ex.num,Ex.name,Ex.args]at *;have hd':cZ l<1200000:=by simp only[b8]at hd;omega
  have hq:b8 (.mk o m s l)=cZ l+1:=by simp only[b8]
  generalize b8 (.mk o m s l)=R at *;have HQ:=Lib.hid hq;clear hq;clear hd;have HL:=Lib.hid hl;clear hl;have HV:=Lib.hid hv;clear hv;have IH:=Lib.hid ih;clear ih;go_enter Tryz.func183,Tryz.ntmps183;go_wp2_with fail;go_loopw [3,9,5] (fun d i _ wr=>∃(dd j:Nat),d=.int .i64 dd/\i=.int .i64 j/\j≤l.length/\max dd (cZ (l.drop j))=cZ l/\Ext w wr) (fun _ i _ _=>l.length-(intOf i).toNat);case atStart=>exact⟨0,0,rfl,rfl,TY _,by simp,(Ext.refl w).alloc _⟩
  case round=>
   obtain⟨dd,j,rfl,rfl,hj,hrec,hext⟩:=hrel;have hdd:(dd:Int)<1200000:=by omega
   have HR:=Lib.hid hrec;clear hrec;have HX:=Lib.hid hext;clear hext;by_cases hlt:j<l.length
   .obtain⟨b,off,cs,rfl,hr,hc⟩:=x7 HL.out hlt;obtain⟨sv,gv,gl,q2,q3,q4,q5⟩:=zk hr hc;obtain⟨p',cp',rfl,-,-⟩:=lH gl;have r2:=HX.out.cell q2;have r3:=HX.out.cell q3;have r4:=HX.out.cell q4;have r5:=HX.out.cell q5;clear q2 q3 q4 q5 hr hc gl;have GV:=Lib.hid gv;clear gv;have hle:=pd (TS hlt);go_wp2_with fail;refine(IH.out l[j] (by simp) _ _ (by omega) (GV.out.ext (HX.out.alloc _))).mono ?_;rintro e w' ⟨rfl,hx⟩;have HY:=Lib.hid hx;clear hx;go_wp2_with fail;go_roundw
    case rel=>
     refine⟨max dd (b8 l[j]),j+1,?_,by go_num,by omega,?_,(HX.out.alloc _).trans HY.out⟩
     .congr 1;omega
     .rw[<-HR.out,TN hlt];simp only[cZ];omega
    case measure=>simp[intOf];omega
   .have:j=l.length:=by omega
    subst this;go_wp2_with fail;go_ret;have h9:=HR.out;simp only[List.drop_length,cZ,Nat.max_zero]at h9;exact⟨cu (by rw[HQ.out,<-h9];rfl),HX.out⟩
theorem Ca{w:World}{a:Addr}{v:Value}(h:w.cell? a=some v):a.spot=none:=by
 unfold World.cell? at h;split at h
 .split at h
  .cases h
  .rename_i hs;simpa using hs
 .cases h
instance:Inhabited Ex:=⟨.mk 0 0 ⟨#[]⟩ []⟩
def cj:List ByteArray:=[⟨#[99,108,97,115,115]⟩,⟨#[101,120,116,101,110,100,115]⟩,⟨#[114,97,110,100]⟩,⟨#[114,97,110,100,99]⟩,⟨#[115,116,97,116,101]⟩,⟨#[99,111,110,115,116,114,97,105,110,116]⟩,⟨#[115,111,102,116]⟩,⟨#[100,105,115,116]⟩,⟨#[105,102]⟩,⟨#[101,108,115,101]⟩,⟨#[101,97,99,104]⟩,⟨#[105,110]⟩,⟨#[115,111,108,118,101]⟩,⟨#[98,101,102,111,114,101]⟩,⟨#[105,110,115,105,100,101]⟩,⟨#[112,114,111,112,101,114,116,121]⟩,⟨#[115,101,113]⟩,⟨#[97,110,100]⟩,⟨#[111,114]⟩,⟨#[110,111,116]⟩,⟨#[115,101,116]⟩,⟨#[104,111,108,100]⟩,⟨#[112,108,97,105,110]⟩,⟨#[114,101,112,101,97,116]⟩]
def ff(c:Int):Bool:=decide (97≤c)&&decide (c≤122)
def dG(c:Int):Bool:=decide (48≤c)&&decide (c≤57)
def ul(c:Int):Bool:=decide (65≤c)&&decide (c≤90)
def dV(c:Int):Bool:=ff c||dG c||ul c||decide (c=95)
theorem dX(c:Int)(w:World):
 Calls Tryz.prog 170 #[.int .i32 c] w fun e w'=>e=.returned (.bool (ff c))/\w=w':=by
 by_cases h:97≤c
 .go_enter Tryz.func170,Tryz.ntmps170;go_wp2_with fail;go_ret;exact⟨aV (by simp[ff,h]),rfl⟩
 .go_enter Tryz.func170,Tryz.ntmps170;go_wp2_with fail;go_ret;exact⟨aV (by simp[ff];omega),rfl⟩
theorem f6(c:Int)(w:World):
 Calls Tryz.prog 172 #[.int .i32 c] w fun e w'=>e=.returned (.bool (dG c))/\w=w':=by
 by_cases h:48≤c
 .go_enter Tryz.func172,Tryz.ntmps172;go_wp2_with fail;go_ret;exact⟨aV (by simp[dG,h]),rfl⟩
 .go_enter Tryz.func172,Tryz.ntmps172;go_wp2_with fail;go_ret;exact⟨aV (by simp[dG];omega),rfl⟩
theorem gU(c:Int)(w:World):
 Calls Tryz.prog 200 #[.int .i32 c] w fun e w'=>e=.returned (.bool (dV c))/\w=w':=by
 by_cases hl:ff c=true
 .go_enter Tryz.func200,Tryz.ntmps200;go_wp2_with (first|(go_at_call 170;refine(dX _ _).mono ?_;rintro e w' ⟨rfl,rfl⟩)|(go_at_call 172;refine(f6 _ _).mono ?_;rintro e w' ⟨rfl,rfl⟩));go_ret;exact⟨aV (by simp[dV,hl]),rfl⟩
 .have hl':ff c=false:=by simpa using hl
  clear hl;by_cases hd:dG c=true
  .go_enter Tryz.func200,Tryz.ntmps200;go_wp2_with (first|(go_at_call 170;refine(dX _ _).mono ?_;rintro e w' ⟨rfl,rfl⟩)|(go_at_call 172;refine(f6 _ _).mono ?_;rintro e w' ⟨rfl,rfl⟩));go_ret;exact⟨aV (by simp[dV,hd]),rfl⟩
  .have hd':dG c=false:=by simpa using hd
   clear hd;by_cases hu:65≤c
   .by_cases hu2:c≤90
    .go_enter Tryz.func200,Tryz.ntmps200;go_wp2_with (first|(go_at_call 170;refine(dX _ _).mono ?_;rintro e w' ⟨rfl,rfl⟩)|(go_at_call 172;refine(f6 _ _).mono ?_;rintro e w' ⟨rfl,rfl⟩));go_ret;exact⟨aV (by simp[dV,ul,hu,hu2]),rfl⟩
    .go_enter Tryz.func200,Tryz.ntmps200;go_wp2_with (first|(go_at_call 170;refine(dX _ _).mono ?_;rintro e w' ⟨rfl,rfl⟩)|(go_at_call 172;refine(f6 _ _).mono ?_;rintro e w' ⟨rfl,rfl⟩));go_ret;exact⟨aV (by rw[dV,hl',hd',ul,TK];simp;omega),rfl⟩
   .go_enter Tryz.func200,Tryz.ntmps200;go_wp2_with (first|(go_at_call 170;refine(dX _ _).mono ?_;rintro e w' ⟨rfl,rfl⟩)|(go_at_call 172;refine(f6 _ _).mono ?_;rintro e w' ⟨rfl,rfl⟩));go_ret;exact⟨aV (by rw[dV,hl',hd',ul,TK];simp;omega),rfl⟩
theorem eI(c:Int)(w:World):
 Calls Tryz.prog 186 #[.int .u8 c] w fun e w'=>e=.returned (.bool (ff c))/\w=w':=by
 by_cases h:97≤c
 .go_enter Tryz.func186,Tryz.ntmps186;go_wp2_with fail;go_ret;exact⟨aV (by simp[ff,h]),rfl⟩
 .go_enter Tryz.func186,Tryz.ntmps186;go_wp2_with fail;go_ret;exact⟨aV (by simp[ff];omega),rfl⟩
theorem iA(c:Int)(w:World):
 Calls Tryz.prog 189 #[.int .u8 c] w fun e w'=>e=.returned (.bool (dG c))/\w=w':=by
 by_cases h:48≤c
 .go_enter Tryz.func189,Tryz.ntmps189;go_wp2_with fail;go_ret;exact⟨aV (by simp[dG,h]),rfl⟩
 .go_enter Tryz.func189,Tryz.ntmps189;go_wp2_with fail;go_ret;exact⟨aV (by simp[dG];omega),rfl⟩
theorem sH(c:Int)(w:World):
 Calls Tryz.prog 199 #[.int .u8 c] w fun e w'=>e=.returned (.bool (dV c))/\w=w':=by
 by_cases hl:ff c=true
 .go_enter Tryz.func199,Tryz.ntmps199;go_wp2_with (first|(go_at_call 186;refine(eI _ _).mono ?_;rintro e w' ⟨rfl,rfl⟩)|(go_at_call 189;refine(iA _ _).mono ?_;rintro e w' ⟨rfl,rfl⟩));go_ret;exact⟨aV (by simp[dV,hl]),rfl⟩
 .have hl':ff c=false:=by simpa using hl
  clear hl;by_cases hd:dG c=true
  .go_enter Tryz.func199,Tryz.ntmps199;go_wp2_with (first|(go_at_call 186;refine(eI _ _).mono ?_;rintro e w' ⟨rfl,rfl⟩)|(go_at_call 189;refine(iA _ _).mono ?_;rintro e w' ⟨rfl,rfl⟩));go_ret;exact⟨aV (by simp[dV,hd]),rfl⟩
  .have hd':dG c=false:=by simpa using hd
   clear hd;by_cases hu:65≤c
   .by_cases hu2:c≤90
    .go_enter Tryz.func199,Tryz.ntmps199;go_wp2_with (first|(go_at_call 186;refine(eI _ _).mono ?_;rintro e w' ⟨rfl,rfl⟩)|(go_at_call 189;refine(iA _ _).mono ?_;rintro e w' ⟨rfl,rfl⟩));go_ret;exact⟨aV (by simp[dV,ul,hu,hu2]),rfl⟩
    .go_enter Tryz.func199,Tryz.ntmps199;go_wp2_with (first|(go_at_call 186;refine(eI _ _).mono ?_;rintro e w' ⟨rfl,rfl⟩)|(go_at_call 189;refine(iA _ _).mono ?_;rintro e w' ⟨rfl,rfl⟩));go_ret;exact⟨aV (by rw[dV,hl',hd',ul,TK];simp;omega),rfl⟩
   .go_enter Tryz.func199,Tryz.ntmps199;go_wp2_with (first|(go_at_call 186;refine(eI _ _).mono ?_;rintro e w' ⟨rfl,rfl⟩)|(go_at_call 189;refine(iA _ _).mono ?_;rintro e w' ⟨rfl,rfl⟩));go_ret;exact⟨aV (by rw[dV,hl',hd',ul,TK];simp;omega),rfl⟩
theorem nv{P:Program}(w:World)(s:ByteArray)(pos:Nat)(ty:TypeId)(h:pos<s.size):
 (Instr.next (.pointer (some ⟨w.heap.size,0,none⟩)) true ty).run P (w.iter s pos)=
   .ok (.tuple #[.bool true,.int .i64 pos,.int .i32 (Utf8.decode s pos).1]) (w.iter s (pos+(Utf8.decode s pos).2)):=by
 simp only[Instr.next,getObj,setObj,Sem.run_bind,Sem.run,World.iter_heap,Result.andThen,h,if_true,World.iter_set];simp[goInt]
theorem kA(s:ByteArray)(pos:Nat)(h:pos<s.size)(ha:128≤(s[pos]'h).toNat):128≤(Utf8.decode s pos).1:=by
 have e:s.get! (pos+0)=s[pos]'h:=by
  show s.get! pos=_;simp[ByteArray.get!,getElem!_pos,h];rfl
 have e2:¬(s[pos]'h).toNat<128:=by omega
 simp only[Utf8.decode,e,e2,if_false];split
 .split<;>(try simp only[Utf8.runeError])<;>omega
 .split
  .split
   .rename_i h2;simp only[TJ,decide_eq_true_eq]at h2;omega
   .simp only[Utf8.runeError];omega
  .split
   .split
    .rename_i h2;simp only[TJ,decide_eq_true_eq]at h2;omega
    .simp only[Utf8.runeError];omega
   .simp only[Utf8.runeError];omega
def kj:List UInt8->Bool
 | []=>false
 | c::r=>ff c.toNat&&(c::r).all fun c=>dV c.toNat
def fm(s:ByteArray):Bool:=kj s.data.toList
theorem Ext.iter{a w:World}(h:Ext a w)(s:ByteArray)(pos:Nat):Ext a (w.iter s pos):=h.alloc _
def FH(s:ByteArray)(pos:Nat):Prop:=(∀k (h:k<s.size),k<pos->dV (s[k]'h).toNat=true)/\(∀h:0<s.size,0<pos->ff (s[0]'h).toNat=true)
theorem rJ{s:ByteArray}(h:FH s s.size)(h0:0<s.size):fm s=true:=by
 have hl:=h.2 h0 h0;have hf:=h.1;unfold fm
 match e:s.data.toList with
 | []=>
  have:s.data.toList.length=s.size:=by simp
  rw[e]at this;simp at this;omega
 | c::r=>
  have hlen:(c::r).length=s.size:=by rw[<-e];simp
  have hget:∀k (hk:k<(c::r).length),(c::r)[k]=s[k]'(by omega):=by
   intro k hk;simp only[<-e];simp;rfl
  have h00:=hget 0 (by simp);simp only[List.getElem_cons_zero]at h00;simp only[kj,TJ];refine⟨by rw[h00];exact hl,List.all_eq_true.2 fun x hx=>?_⟩;obtain⟨k,hk,rfl⟩:=List.getElem_of_mem hx;rw[hget k hk];exact hf k (by omega) (by omega)
theorem lG{s:ByteArray}{k:Nat}(hk:k<s.size)(h:dV (s[k]'hk).toNat=false):fm s=false:=by
 unfold fm
 have hm:s[k]'hk∈s.data.toList:=by
  have:s[k]'hk=s.data.toList[k]'(by simpa using hk):=by simp;rfl
  rw[this];exact TS _
 match e:s.data.toList with
 | []=>rfl
 | c::r=>
  rw[e]at hm;simp only[kj,Bool.and_eq_false_iff];right;exact List.all_eq_false.2 ⟨_,hm,by simp[h]⟩
theorem og{s:ByteArray}(hk:0<s.size)(h:ff (s[0]'hk).toNat=false):fm s=false:=by
 unfold fm
 match e:s.data.toList with
 | []=>rfl
 | c::r=>
  have:c=s[0]'hk:=by
   have h1:s[0]'hk=s.data.toList[0]'(by simpa using hk):=by simp;rfl
   rw[h1];simp[e]
  simp[kj,this,h]
theorem lD{c:Int}(h:128≤c):dV c=false:=by
 simp[dV,ff,dG,ul];omega
theorem tA{c:Int}(h:128≤c):ff c=false:=by
 simp[ff];omega
theorem qQ(s:ByteArray)(w:World)(hs:s.size≤9223372036854775807):
 Calls Tryz.prog 146 #[.string s] w fun e w'=>e=.returned (.bool (fm s))/\Ext w w':=by
 go_enter Tryz.func146,Tryz.ntmps146;go_wp2_with fail;go_loopw [3,4] (fun _ _ wr=>∃pos:Nat,pos≤s.size/\wr=w.iter s pos/\FH s pos) (fun _ _ wr=>match wr.heap[w.heap.size]? with|some (.stringIter _ p)=>s.size-p|_=>0);case atStart=>exact⟨0,TY _,rfl,fun k _ h=>by omega,fun _ h=>by omega⟩
 case round=>
  obtain⟨pos,hp,rfl,hb⟩:=hrel;have HB:=Lib.hid hb;clear hb;by_cases hlt:pos<s.size
  .have hnx:=fun ty=>nv (P:=Tryz.prog) w s pos ty hlt;by_cases h0:pos=0
   .subst h0;by_cases hl:ff (Utf8.decode s 0).1=true
    .have ha:(s[0]'hlt).toNat<128:=by
      apply Classical.byContradiction;intro hn;rw[tA (by have:=kA s 0 hlt (by omega);omega)]at hl;cases hl
     have hd:=decode_ascii s 0 hlt ha;have HD:=Lib.hid hd;clear hd;have hd1:(Utf8.decode s 0).2=1:=by rw[HD.out]
     have hf:dV (Utf8.decode s 0).1=true:=by simp[dV,hl]
     go_wp2_with (first|(go_at_call 170;refine(dX _ _).mono ?_;rintro e w' ⟨rfl,rfl⟩)|(go_at_call 200;refine(gU _ _).mono ?_;rintro e w' ⟨rfl,rfl⟩));go_roundw
     case rel=>
      refine⟨1,hlt,by simp,?_,?_⟩
      .intro k hk hk1;have:k=0:=by omega
       subst this;rw[HD.out]at hf;exact hf
      .intro h _;rw[HD.out]at hl;exact hl
     case measure=>simp[World.iter_heap];omega
    .have hl':ff (Utf8.decode s 0).1=false:=by simpa using hl
     clear hl;go_wp2_with (first|(go_at_call 170;refine(dX _ _).mono ?_;rintro e w' ⟨rfl,rfl⟩)|(go_at_call 200;refine(gU _ _).mono ?_;rintro e w' ⟨rfl,rfl⟩));go_ret;refine⟨aV ?_,(Ext.refl w).iter _ _⟩;by_cases ha:(s[0]'hlt).toNat<128
     .exact(og hlt (by rw[decode_ascii s 0 hlt ha]at hl';exact hl')).symm
     .exact(og hlt (tA (by omega))).symm
   .have h0':((pos:Int)==0)=false:=by rw[beq_eq_false_iff_ne];omega
    by_cases hf:dV (Utf8.decode s pos).1=true
    .have ha:(s[pos]'hlt).toNat<128:=by
      apply Classical.byContradiction;intro hn;rw[lD (by have:=kA s pos hlt (by omega);omega)]at hf;cases hf
     have hd:=decode_ascii s pos hlt ha;have HD:=Lib.hid hd;clear hd;have hd1:(Utf8.decode s pos).2=1:=by rw[HD.out]
     go_wp2_with (first|(go_at_call 170;refine(dX _ _).mono ?_;rintro e w' ⟨rfl,rfl⟩)|(go_at_call 200;refine(gU _ _).mono ?_;rintro e w' ⟨rfl,rfl⟩));go_roundw
     case rel=>
      refine⟨pos+1,hlt,by simp,?_,?_⟩
      .intro k hk hk1;by_cases hkp:k=pos
       .subst hkp;rw[HD.out]at hf;exact hf
       .exact HB.out.1 k hk (by omega)
      .intro h _;exact HB.out.2 h (by omega)
     case measure=>simp[World.iter_heap];omega
    .have hf':dV (Utf8.decode s pos).1=false:=by simpa using hf
     clear hf;go_wp2_with (first|(go_at_call 170;refine(dX _ _).mono ?_;rintro e w' ⟨rfl,rfl⟩)|(go_at_call 200;refine(gU _ _).mono ?_;rintro e w' ⟨rfl,rfl⟩));go_ret;refine⟨aV ?_,(Ext.refl w).iter _ _⟩;by_cases ha:(s[pos]'hlt).toNat<128
     .exact(lG hlt (by rw[decode_ascii s pos hlt ha]at hf';exact hf')).symm
     .exact(lG hlt (lD (by omega))).symm
  .have:pos=s.size:=by omega
   subst this;have hnx:=fun ty=>run_next_end (P:=Tryz.prog) w s s.size ty (by omega);go_wp2_with fail;go_ret;refine⟨aV ?_,(Ext.refl w).iter _ _⟩;by_cases h0:0<s.size
   .rw[rJ HB.out h0]
    match e:s.toList with
    | []=>rw[ByteArray.toList_eq]at e;have h9:=Lib.size_eq s;rw[e]at h9;simp only[TO]at h9;omega
    | _::_=>rfl
   .have:s.data.toList=[]:=TL (by have:=Lib.size_eq s;omega);simp[fm,this,ByteArray.toList_eq,kj]
def so:List ByteArray->ByteArray->Nat->Int
 | [],_,_=>-1
 | a::r,s,i=>if s=a then i else so r s (i+1)
theorem Ig(l:List ByteArray)(s:ByteArray):∀i:Nat,(0≤so l s i↔s∈l):=by
 induction l with
 | nil=>intro i;simp[so]
 | cons a r ih=>
  intro i;simp only[so,TX];split
  .rename_i h;simp[h]
  .rename_i h;rw[ih];simp[h]
theorem AO(l:List ByteArray)(s:ByteArray)(v:Value)(w:World)(hv:dq w l v):
 Calls Tryz.prog 237 #[v,.string s] w fun e w'=>e=.returned (.int .i64 (so l s 0))/\w=w':=by
 have hv':=hv;obtain⟨p,cap,rfl,h1,h2,h3⟩:=hv';have H3:=Lib.hid h3;clear h3;have HV:=Lib.hid hv;clear hv;go_enter Tryz.func237,Tryz.ntmps237;go_wp2_with fail;go_loop [8,5] (fun i _=>∃j:Nat,i=.int .i64 j/\j≤l.length/\so (l.drop j) s j=so l s 0) (fun i _=>l.length-(intOf i).toNat);case atStart=>exact⟨0,rfl,TY _,rfl⟩
 case round=>
  obtain⟨j,rfl,hj,hrec⟩:=hrel;have HR:=Lib.hid hrec;clear hrec;by_cases hlt:j<l.length
  .obtain⟨b,off,rfl,hc⟩:=uG HV.out hlt;by_cases he:s=l[j]
   .have he':(s.toList==(l[j]).toList)=true:=by rw[oR];simpa using he
    have HE:=Lib.hid he;clear he;go_wp2_with fail;go_ret;exact⟨cu (by rw[<-HR.out,TN hlt,so,if_pos HE.out]),rfl⟩
   .have he':(s.toList==(l[j]).toList)=false:=by rw[oR];simpa using he
    go_wp2_with fail;go_round;case rel=>exact⟨j+1,by go_num,by omega,by rw[<-HR.out,TN hlt,so,if_neg he]⟩
    case measure=>simp[intOf];omega
  .have:j=l.length:=by omega
   subst this;go_wp2_with fail;go_ret;exact⟨cu (by rw[<-HR.out];simp[so]),rfl⟩
theorem uD(l:List ByteArray)(s:ByteArray)(v:Value)(w:World)(hv:dq w l v):
 Calls Tryz.prog 201 #[v,.string s] w fun e w'=>e=.returned (.bool (inB s l))/\w=w':=by
 have hi:=Ig l s 0;have HI:=Lib.hid hi;clear hi;go_enter Tryz.func201,Tryz.ntmps201;go_wp2_with (go_at_call 237;refine(AO _ _ _ _ hv).mono ?_;rintro e w' ⟨rfl,rfl⟩);go_ret;exact⟨aV (by rw[TK,qb];simpa using HI.out),rfl⟩
def ol(w:World):Prop:=∃v,w.cell? ⟨0,0,none⟩=some v/\dq w cj v
theorem ol.ext{w w':World}(h:Ext w w'):ol w->ol w'
 | ⟨v,h1,h2⟩=>⟨v,h.cell h1,h2.ext h⟩
theorem gA(s:ByteArray)(w:World)(hk:ol w):
 Calls Tryz.prog 147 #[.string s] w fun e w'=>e=.returned (.bool (inB s cj))/\w=w':=by
 obtain⟨v,h1,h2⟩:=hk;go_enter Tryz.func147,Tryz.ntmps147;go_wp2_with (go_at_call 201;refine(uD _ _ _ _ h2).mono ?_;rintro e w' ⟨rfl,rfl⟩);go_ret;exact⟨rfl,rfl⟩
def bC(s:ByteArray):Bool:=fm s&&decide (s.size≤16) && !inB s cj
theorem gh(s:ByteArray)(w:World)(hs:s.size≤9223372036854775807)(hk:ol w):
 Calls Tryz.prog 96 #[.string s] w fun e w'=>e=.returned (.bool (bC s))/\Ext w w':=by
 have HK:=Lib.hid hk;clear hk;by_cases hw:fm s=true
 .by_cases hz:s.size≤16
  .go_enter Tryz.func96,Tryz.ntmps96;go_wp2_with (first|(go_at_call 146;refine(qQ _ _ hs).mono ?_;rintro e w' ⟨rfl,hx⟩)|(go_at_call 147;refine(gA _ _ (HK.out.ext (by assumption))).mono ?_;rintro e w' ⟨rfl,rfl⟩));go_ret;exact⟨aV (by simp[bC,hw,hz]),by assumption⟩
  .go_enter Tryz.func96,Tryz.ntmps96;go_wp2_with (first|(go_at_call 146;refine(qQ _ _ hs).mono ?_;rintro e w' ⟨rfl,hx⟩)|(go_at_call 147;refine(gA _ _ (HK.out.ext (by assumption))).mono ?_;rintro e w' ⟨rfl,rfl⟩));go_ret;exact⟨aV (by rw[bC,hw,decide_eq_false (by omega)];rfl),by assumption⟩
 .have hw':fm s=false:=by simpa using hw
  clear hw;go_enter Tryz.func96,Tryz.ntmps96;go_wp2_with (first|(go_at_call 146;refine(qQ _ _ hs).mono ?_;rintro e w' ⟨rfl,hx⟩)|(go_at_call 147;refine(gA _ _ (HK.out.ext (by assumption))).mono ?_;rintro e w' ⟨rfl,rfl⟩));go_ret;exact⟨aV (by simp[bC,hw']),by assumption⟩
theorem HM(l:List ByteArray)(s:ByteArray)(v:Value)(w:World)(hv:dq w l v):
 Calls Tryz.prog 226 #[v,.string s] w fun e w'=>e=.returned (.bool (inB s l))/\w=w':=by
 have hv':=hv;obtain⟨p,cap,rfl,h1,h2,h3⟩:=hv';have H3:=Lib.hid h3;clear h3;have HV:=Lib.hid hv;clear hv;go_enter Tryz.func226,Tryz.ntmps226;go_wp2_with fail;go_loop [5] (fun i=>∃j:Nat,i=.int .i64 j/\j≤l.length/\(s∈l.drop j↔s∈l)) (fun i=>l.length-(intOf i).toNat);case atStart=>exact⟨0,rfl,TY _,by simp⟩
 case round=>
  obtain⟨j,rfl,hj,hrec⟩:=hrel;have HR:=Lib.hid hrec;clear hrec;by_cases hlt:j<l.length
  .obtain⟨b,off,rfl,hc⟩:=uG HV.out hlt;by_cases he:l[j]=s
   .have he':((l[j]).toList==s.toList)=true:=by rw[oR];simpa using he
    have HE:=Lib.hid he;clear he;go_wp2_with fail;go_ret;exact⟨aV (by rw[<-HE.out];exact(qb.2 (TS _)).symm),rfl⟩
   .have he':((l[j]).toList==s.toList)=false:=by rw[oR];simpa using he
    have HE:=Lib.hid he;clear he;go_wp2_with fail;go_round;case rel=>exact⟨j+1,by go_num,by omega,by rw[<-HR.out,TN hlt,TX];exact⟨.inr,fun h=>h.resolve_left fun e=>HE.out e.symm⟩⟩
    case measure=>simp[intOf];omega
  .have:j=l.length:=by omega
   subst this;have hn:s∉l:=fun h=>by have:=HR.out.2 h;simp at this
   have HN:=Lib.hid hn;clear hn;go_wp2_with fail;go_ret;exact⟨aV (p0.2 HN.out).symm,rfl⟩
theorem uS(w:World):Calls Tryz.prog 227 #[] w (IP cj w):=by
 go_enter Tryz.func227,Tryz.ntmps227;go_wp2_with fail;go_ret;exact⟨_,rfl,yA w cj _ (by decide),(Ext.refl w).alloc _⟩
theorem fG(s:ByteArray)(w:World):
 Calls Tryz.prog 188 #[.string s] w fun e w'=>e=.returned (.bool (inB s cj))/\Ext w w':=by
 go_enter Tryz.func188,Tryz.ntmps188;go_wp2_with (first|(go_at_call 227;refine(uS _).mono ?_;rintro e w' ⟨v,rfl,hv,hx⟩)|(go_at_call 226;refine(HM _ _ _ _ (by assumption)).mono ?_;rintro e w' ⟨rfl,rfl⟩));go_ret;exact⟨rfl,by assumption⟩
theorem iK(s:ByteArray)(w:World)(hs:s.size≤9223372036854775807):
 Calls Tryz.prog 142 #[.string s] w fun e w'=>e=.returned (.bool (bC s))/\Ext w w':=by
 by_cases hz:s.size=0
 .have e1:s.toList=[]:=by rw[ByteArray.toList_eq];exact TL (by have:=Lib.size_eq s;omega)
  have e2:fm s=false:=by rw[ByteArray.toList_eq]at e1;simp[fm,e1,kj]
  have E2:=Lib.hid e2;clear e2;clear hz;go_enter Tryz.func142,Tryz.ntmps142;go_wp2_with fail;go_ret;exact⟨aV (by simp[bC,E2.out]),Ext.refl _⟩
 .have e1:s.toList.isEmpty=false:=by
   match e:s.toList with
   | []=>rw[ByteArray.toList_eq]at e;have h9:=Lib.size_eq s;rw[e]at h9;simp only[TO]at h9;omega
   | _::_=>rfl
  have hp:0<s.size:=by omega
  clear hz;by_cases hz2:s.size≤16
  .by_cases hl:ff (s[0]'hp).toNat=true
   .by_cases hk:inB s cj=true
    .go_enter Tryz.func142,Tryz.ntmps142;go_wp2_with (first|(go_at_call 186;refine(eI _ _).mono ?_;rintro e w' ⟨rfl,rfl⟩)|(go_at_call 188;refine(fG _ _).mono ?_;rintro e w' ⟨rfl,hx⟩));go_ret;exact⟨aV (by simp[bC,hk]),by assumption⟩
    .have hk':inB s cj=false:=by simpa using hk
     clear hk;go_enter Tryz.func142,Tryz.ntmps142;go_wp2_with (first|(go_at_call 186;refine(eI _ _).mono ?_;rintro e w' ⟨rfl,rfl⟩)|(go_at_call 188;refine(fG _ _).mono ?_;rintro e w' ⟨rfl,hx⟩));have HX:=Lib.hid hx;clear hx;go_loop [3] (fun i=>∃j:Nat,i=.int .i64 j/\j≤s.size/\FH s j) (fun i=>s.size-(intOf i).toNat);case atStart=>exact⟨0,rfl,TY _,fun k _ h=>by omega,fun _ h=>by omega⟩
     case round=>
      obtain⟨j,rfl,hj,hb⟩:=hrel;have HB:=Lib.hid hb;clear hb;by_cases hlt:j<s.size
      .by_cases hf:dV (s[j]'hlt).toNat=true
       .go_wp2_with (go_at_call 199;refine(sH _ _).mono ?_;rintro e w' ⟨rfl,rfl⟩);go_round
        case rel=>
         refine⟨j+1,by go_num,hlt,fun k hk hk1=>?_,fun h _=>hl⟩;by_cases hkj:k=j
         .subst hkj;exact hf
         .exact HB.out.1 k hk (by omega)
        case measure=>simp[intOf];omega
       .have hf':dV (s[j]'hlt).toNat=false:=by simpa using hf
        clear hf;go_wp2_with (go_at_call 199;refine(sH _ _).mono ?_;rintro e w' ⟨rfl,rfl⟩);go_ret;exact⟨aV (by simp[bC,lG hlt hf']),HX.out⟩
      .have:j=s.size:=by omega
       subst this;go_wp2_with fail;go_ret;exact⟨aV (by simp[bC,rJ HB.out hp,hz2,hk']),HX.out⟩
   .have hl':ff (s[0]'hp).toNat=false:=by simpa using hl
    clear hl;go_enter Tryz.func142,Tryz.ntmps142;go_wp2_with (first|(go_at_call 186;refine(eI _ _).mono ?_;rintro e w' ⟨rfl,rfl⟩)|(go_at_call 188;refine(fG _ _).mono ?_;rintro e w' ⟨rfl,hx⟩));go_ret;exact⟨aV (by simp[bC,og hp hl']),Ext.refl _⟩
  .go_enter Tryz.func142,Tryz.ntmps142;go_wp2_with (first|(go_at_call 186;refine(eI _ _).mono ?_;rintro e w' ⟨rfl,rfl⟩)|(go_at_call 188;refine(fG _ _).mono ?_;rintro e w' ⟨rfl,hx⟩));go_ret;exact⟨aV (by rw[bC,decide_eq_false (p:=s.size≤16) (by omega)];simp),Ext.refl _⟩
theorem mj(s:ByteArray)(c:Int)(w:World):
 Calls Tryz.prog 278 #[.string s,.int .u8 c] w fun e w'=>e=.returned (.int .i64 (Lib.indexByte s.data.toList c.toNat.toUInt8))/\w=w':=by
 have hx:∀w,(callFunc 305 #[.string s,.int .u8 c]).run Tryz.prog w=.ok (.value (.int .i64 (Lib.indexByte s.data.toList c.toNat.toUInt8))) w:=fun w=>by
  rw[run_callFunc_extern Tryz.func305 (by kernel_rfl) (by kernel_rfl) (by kernel_rfl) (e:=Extern.BytealgIndexByte.indexByte) (by kernel_rfl),Lib.run_indexByteString];rfl
 go_enter Tryz.func278,Tryz.ntmps278;go_wp2_with fail;go_ret;exact⟨rfl,rfl⟩
theorem F2{s:ByteArray}{c:UInt8}(h:([c]==s.toList)=true):Lib.indexByte s.data.toList c=0:=by
 rw[ByteArray.toList_eq]at h;rw[<-(beq_iff_eq.1 h)];simp[Lib.indexByte]
theorem CZ(s:ByteArray)(c:UInt8)(w:World):
 Calls Tryz.prog 277 #[.string s,.string ⟨#[c]⟩] w fun e w'=>e=.returned (.int .i64 (Lib.indexByte s.data.toList c))/\w=w':=by
 by_cases he:([c]==s.toList)=true
 .have h0:=F2 he;have H0:=Lib.hid h0;clear h0;go_enter Tryz.func277,Tryz.ntmps277;go_wp2_with (go_at_call 278;refine(mj _ _ _).mono ?_;rintro e w' ⟨rfl,rfl⟩);go_ret;exact⟨cu H0.out.symm,rfl⟩
 .have he':([c]==s.toList)=false:=by simpa using he
  clear he;go_enter Tryz.func277,Tryz.ntmps277;go_wp2_with (go_at_call 278;refine(mj _ _ _).mono ?_;rintro e w' ⟨rfl,rfl⟩);go_ret;exact⟨cu (congrArg (Lib.indexByte s.data.toList) (by rfl)),rfl⟩
def om(s:ByteArray)(c:UInt8):ByteArray:=if Lib.indexByte s.data.toList c = -1 then s else s.extract 0 (Lib.indexByte s.data.toList c).toNat
def oq(s:ByteArray)(c:UInt8):ByteArray:=if Lib.indexByte s.data.toList c = -1 then⟨#[]⟩else s.extract ((Lib.indexByte s.data.toList c).toNat+1) s.size
def px(s:ByteArray)(c:UInt8):Bool:=decide (0≤Lib.indexByte s.data.toList c)
theorem uc{s:ByteArray}{c:UInt8}{o:Nat}(h:Lib.indexByte s.data.toList c=o):o<s.size:=by
 have:=(Lib.indexByte_some h).1;rw[Lib.size_eq];exact(List.getElem?_eq_some_iff.1 this).1
theorem Fc(s:ByteArray)(c:UInt8)(w:World)(hs:s.size≤9223372036854775807):
 Calls Tryz.prog 275 #[.string s,.string ⟨#[c]⟩] w fun e w'=>e=.returned (.tuple #[.string (om s c),.string (oq s c),.bool (px s c)])/\Ext w w':=by
 have h1:=Lib.indexByte_ge s.data.toList c;unfold om oq px;have hc:=CZ s c;by_cases hi:Lib.indexByte s.data.toList c = -1
 .rw[hi]at hc ⊢;have HC:=Lib.hid hc;clear hc;clear h1 hi;go_enter Tryz.func275,Tryz.ntmps275;go_wp2_with (go_at_call 277;refine(HC.out _).mono ?_;rintro e w' ⟨rfl,rfl⟩);go_ret3;exact⟨rfl,Ext.refl _⟩
 .obtain⟨o,ho⟩:=Int.eq_ofNat_of_zero_le (a:=Lib.indexByte s.data.toList c) (by omega);have hlt:=uc ho;rw[ho]at hc ⊢;have HC:=Lib.hid hc;clear hc;clear h1 hi;have HO:=Lib.hid ho;clear ho;have e1:IntKind.i64.wrap ((o:Int)+1)=(o:Int)+1:=IntWalk.i64_in _ (by omega);have e2:((o:Int)+1).toNat=o+1:=by omega
  go_enter Tryz.func275,Tryz.ntmps275;go_wp2_with (go_at_call 277;refine(HC.out _).mono ?_;rintro e w' ⟨rfl,rfl⟩);go_quiet (fail);go_wp2_with fail;go_ret3;exact⟨rfl,(Ext.refl w).drewN _⟩
theorem Ia(s:ByteArray)(c:UInt8)(w:World)(hs:s.size≤9223372036854775807):
 Calls Tryz.prog 241 #[.string s,.string ⟨#[c]⟩] w fun e w'=>e=.returned (.tuple #[.string (om s c),.string (oq s c),.bool (px s c)])/\Ext w w':=by
 go_enter Tryz.func241,Tryz.ntmps241;go_wp2_with (go_at_call 275;refine(Fc _ _ _ hs).mono ?_;rintro e w' ⟨rfl,hx⟩);go_ret3;exact⟨rfl,by assumption⟩
theorem Il(s:ByteArray)(c:UInt8):(om s c).size≤s.size:=by
 unfold om;split
 .exact TZ _
 .simp;omega
theorem I3(s:ByteArray)(c:UInt8):(oq s c).size≤s.size:=by
 unfold oq;split
 .exact TY _
 .simp
def o2(t:ByteArray):Bool:=if h:t.size=2 then decide ((t[1]'(by omega)).toNat=93)&&decide (48≤(t[0]'(by omega)).toNat)&&decide ((t[0]'(by omega)).toNat<56)else false
def my(s:ByteArray):Bool:=px s 91&&bC (om s 91)&&o2 (oq s 91)
def uA(eb:Bool)(w:World)(e:Ending)(w':World):Prop:=∃a i,e=.returned (.tuple #[.string a,.int .i64 i,.bool eb])/\Ext w w'
theorem lQ{eb b:Bool}{w w':World}{a:ByteArray}{i:Int}(h:b=eb)(hx:Ext w w'):uA eb w (.returned (.tuple #[.string a,.int .i64 i,.bool b])) w':=⟨a,i,by rw[h],hx⟩
theorem sW{t:ByteArray}(h:¬t.size=2):o2 t=false:=by unfold o2;rw[dif_neg h]
theorem lE{t:ByteArray}(h:t.size=2):o2 t=(decide ((t[1]'(by omega)).toNat=93)&&decide (48≤(t[0]'(by omega)).toNat)&&decide ((t[0]'(by omega)).toNat<56)):=by unfold o2;rw[dif_pos h]
theorem vY(s:ByteArray)(w:World)(hs:s.size≤9223372036854775807)(hk:ol w):
 Calls Tryz.prog 257 #[.string s] w (uA (my s) w):=by
 have hA:=Il s 91;have hB:=I3 s 91;have hcut:=fun w=>Ia s 91 w hs;have hq:my s=(px s 91&&bC (om s 91)&&o2 (oq s 91)):=rfl;generalize my s=eb at hq ⊢;generalize om s 91=a at *;generalize oq s 91=b at *;generalize px s 91=ok at *;have HQ:=Lib.hid hq;clear hq;have HK:=Lib.hid hk;clear hk;have HC:=Lib.hid hcut;clear hcut;by_cases hz:b.size=2
 .have k1:1<b.size:=by omega
  have k0:0<b.size:=by omega
  have HZ:=Lib.hid hz;clear hz;have hz2:((b.size:Int) != 2)=false:=by rw[HZ.out];rfl
  go_enter Tryz.func257,Tryz.ntmps257;go_wp2_with (first|(go_at_call 241;refine(HC.out _).mono ?_;rintro e w' ⟨rfl,hx⟩)|(go_at_call 96;refine(gh _ _ (by omega) (HK.out.ext (by assumption))).mono ?_;rintro e w' ⟨rfl,hy⟩));all_goals (try (go_quiet (fail);go_wp2_with fail))
  all_goals go_ret3
  all_goals (go_light;refine lQ ?_ (by first|exact(hx.trans hy).drewN _|exact hx.trans hy|exact hx);rw[HQ.out];first|(simp[*];done)|(rw[lE HZ.out];simp[*];done)|(rw[lE HZ.out,TK];simp[*];omega))
 .have hc:=sW hz;have HH:=Lib.hid hc;clear hc;have hz2:((b.size:Int) != 2)=true:=by rw[bne_iff_ne];omega
  clear hz;go_enter Tryz.func257,Tryz.ntmps257;go_wp2_with (first|(go_at_call 241;refine(HC.out _).mono ?_;rintro e w' ⟨rfl,hx⟩)|(go_at_call 96;refine(gh _ _ (by omega) (HK.out.ext (by assumption))).mono ?_;rintro e w' ⟨rfl,hy⟩));all_goals go_ret3
  all_goals (go_light;refine lQ ?_ (by first|exact hx.trans hy|exact hx);rw[HQ.out];first|(simp[*];done)|(rw[HH.out];simp;done))
abbrev Bs:=List UInt8
def inn(c:UInt8):Bool:=dV c.toNat
def xO(c:UInt8):Bool:=c==32||c==9||c==10
def qB:Nat->Bs->Bs
 | 0,l=>l
 | _+1,[]=>[]
 | k+1,c::r=>if xO c=true then qB k r else if c=47/\r.head? = some 47 then qB k ((c::r).dropWhile (· != 10))else c::r
def bE(l:Bs):Bs:=qB l.length l
theorem lJ{c:UInt8}{r:Bs}(h:c=47):((c::r).dropWhile (· != 10)).length≤r.length:=by
 subst h;rw[List.dropWhile_cons_of_pos (by decide)];exact List.IsSuffix.length_le (TU _)
theorem E4:∀(k:Nat) (l:Bs),l.length≤k->qB k l=bE l:=by
 intro k
 induction k using T3 with
 | ind k ih=>
 intro l hk
 match l with
 | []=>cases k<;>rfl
 | c::r=>
  match k with
  | 0=>simp at hk
  | k+1=>
   have hr:r.length≤k:=by simpa using hk
   unfold bE;simp only[TQ,qB];split
   .by_cases e:r.length<k
    .rw[ih k (by omega) r hr];rfl
    .have:r.length=k:=by omega
     rw[this]
   .split
    .rename_i h;have hd:=lJ (r:=r) h.1;rw[ih k (by omega) _ (by omega)];by_cases e:r.length<k+1
     .exact(ih r.length e _ hd).symm
     .omega
    .rfl
theorem gx:bE []=[]:=rfl
theorem dP(c:UInt8)(r:Bs):bE (c::r)=if xO c=true then bE r else if c=47/\r.head? = some 47 then bE ((c::r).dropWhile (· != 10))else c::r:=by
 show qB (r.length+1) (c::r)=_;rw[qB];split
 .rfl
 .split
  .rename_i h;exact E4 _ _ (lJ h.1)
  .rfl
theorem vj:∀(k:Nat) (l:Bs),l.length≤k->bE l <:+ l:=by
 intro k
 induction k with
 | zero=>intro l h;have:l=[]:=TL (by omega);subst this;exact TR _
 | succ k ih=>
  intro l h
  match l with
  | []=>exact TR _
  | c::r=>
   have hr:r.length≤k:=by simpa using h
   rw[dP];split
   .exact(ih r hr).trans (List.suffix_cons _ _)
   .split
    .rename_i hc;exact(ih _ (T0 (lJ hc.1) hr)).trans (TU _)
    .exact TR _
theorem dI(l:Bs):bE l <:+ l:=vj _ l (TZ _)
theorem jk(l:Bs):bE (bE l)=bE l:=by
 suffices H:∀(k:Nat) (l:Bs),l.length≤k->bE (bE l)=bE l from H _ l (TZ _)
 intro k
 induction k with
 | zero=>intro l h;have:l=[]:=TL (by omega);subst this;rfl
 | succ k ih=>
  intro l h
  match l with
  | []=>rfl
  | c::r=>
   have hr:r.length≤k:=by simpa using h
   rw[dP];split
   .exact ih r hr
   .split
    .rename_i hc;exact ih _ (T0 (lJ hc.1) hr)
    .rename_i h1 h2;rw[dP,if_neg h1,if_neg h2]
def aP:List Bs:=[[40],[41],[123],[125],[91],[93],[44],[59],[58],[46,46],[63],[61],[61,61],[33,61],[60],[60,61],[62],[62,61],[60,60],[62,62],[43],[45],[42],[38],[124],[94],[126],[33],[38,38],[124,124],[45,62],[61,62],[58,61],[58,47],[35,35],[64]]
def gN:List Bs->Nat->Bs->Nat
 | [],b,_=>b
 | m::r,b,l=>gN r (if b<m.length/\m.isPrefixOf l=true then m.length else b) l
def dN(l:Bs):Nat:=gN aP 0 l
def ck(l:Bs):Nat:=l.foldl (fun n c=>10*n+(c.toNat-48)) 0
inductive Rd where
 | err (e:Int)
 | tok (kind num:Int) (len:Nat)
def c7:Bs->Rd
 | []=>.err 5
 | c::r=>
  if ff c.toNat=true then
   if 16<((c::r).takeWhile inn).length then .err 2
   else .tok (if inB ⟨((c::r).takeWhile inn).toArray⟩ cj=true then 2 else 1) 0 ((c::r).takeWhile inn).length
  else if dG c.toNat=true then
   if(((c::r).takeWhile inn).all fun x=>dG x.toNat)=false\/(1<((c::r).takeWhile inn).length/\c=48)then .err 5
   else if 2147483647<ck ((c::r).takeWhile inn)then .err 3
   else .tok 3 (ck ((c::r).takeWhile inn)) ((c::r).takeWhile inn).length
  else if dN (c::r)=0 then .err 5 else .tok 4 0 (dN (c::r))
structure Tok where
 kind:Int
 num:Int
 text:ByteArray
 line:Int
inductive Lx where
 | ok (l:List Tok)
 | err (line e:Int)
def Lx.cons(t:Tok):Lx->Lx
 | .ok l=>.ok (t::l)
 | .err n e=>.err n e
def Lx.app(ts:List Tok):Lx->Lx
 | .ok l=>.ok (ts++l)
 | .err n e=>.err n e
def iH(N:Int)(r:Bs)(kind num:Int)(len:Nat):Tok:=⟨kind,num,⟨(r.take len).toArray⟩,N-(r.count 10:Nat)⟩
def CN:Nat->Int->Bs->Lx
 | 0,_,_=>.ok []
 | k+1,N,l=>match bE l with
  | []=>.ok []
  | c::r=>match c7 (c::r)with
   | .err e=>.err (N-((c::r).count 10:Nat)) e
   | .tok kind num len=>(CN k N ((c::r).drop len)).cons (iH N (c::r) kind num len)
def fV(N:Int)(l:Bs):Lx:=CN (l.length+1) N l
def cS(l:Bs):Lx:=fV (1+(l.count 10:Nat)) l
theorem nH:∀(ms:List Bs) (b:Nat) (l:Bs),gN ms b l=b\/∃m,m∈ms/\m.isPrefixOf l=true/\gN ms b l=m.length
 | [],b,l=>.inl rfl
 | m::r,b,l=>by
  simp only[gN];split
  .rename_i h;rcases nH r m.length l with h1|⟨m',h1,h2,h3⟩
   .exact .inr ⟨m,by simp,h.2,h1⟩
   .exact .inr ⟨m',by simp[h1],h2,h3⟩
  .rcases nH r b l with h1|⟨m',h1,h2,h3⟩
   .exact .inl h1
   .exact .inr ⟨m',by simp[h1],h2,h3⟩
theorem uB(l:Bs):dN l≤l.length/\dN l≤2:=by
 rcases nH aP 0 l with h|⟨m,h1,h2,h3⟩
 .unfold dN;rw[h];omega
 .have h4:=(List.isPrefixOf_iff_prefix.1 h2).length_le;have h5:m.length≤2:=(by decide:∀m,m∈aP->m.length≤2) m h1;unfold dN;omega
theorem jh{l:Bs}{kind num:Int}{len:Nat}(h:c7 l=.tok kind num len):1≤len/\len≤l.length:=by
 match l with
 | []=>cases h
 | c::r=>
  have htw:((c::r).takeWhile inn).length≤(c::r).length:=(List.takeWhile_prefix _).length_le;have h1:inn c=true->1≤((c::r).takeWhile inn).length:=fun hi=>by rw[TM hi];simp
  simp only[c7]at h;split at h
  .rename_i hl;split at h
   .cases h
   .cases h;exact⟨h1 (by unfold inn dV;simp[hl]),htw⟩
  .split at h
   .rename_i hd;split at h
    .cases h
    .split at h
     .cases h
     .cases h;exact⟨h1 (by unfold inn dV;simp[hd]),htw⟩
   .split at h
    .cases h
    .cases h;have:=uB (c::r);omega
theorem ID:∀(k:Nat) (N:Int) (l:Bs),l.length<k->CN k N l=fV N l:=by
 intro k
 induction k using T3 with
 | ind k ih=>
 intro N l hk
 match k with
 | 0=>omega
 | k+1=>
  unfold fV;simp only[CN];have hs:=(dI l).length_le;cases hsk:bE l with
  | nil=>rfl
  | cons c r=>
   rw[hsk]at hs;simp only;cases hrd:c7 (c::r)with
   | err e=>rfl
   | tok kind num len=>
    obtain⟨h1,h2⟩:=jh hrd;have h3:((c::r).drop len).length<l.length:=by rw[TW];omega
    simp only;rw[ih k (by omega) N _ (by omega)];by_cases e:l.length<k+1
    .rw[ih l.length (by omega) N _ h3]
    .omega
theorem cX(N:Int)(l:Bs):fV N l=match bE l with
 | []=>.ok []
 | c::r=>match c7 (c::r)with
  | .err e=>.err (N-((c::r).count 10:Nat)) e
  | .tok kind num len=>(fV N ((c::r).drop len)).cons (iH N (c::r) kind num len):=by
 have:fV N l=CN (l.length+1) N l:=rfl;rw[this,CN];have hs:=(dI l).length_le;cases hsk:bE l with
 | nil=>rfl
 | cons c r=>
  rw[hsk]at hs;simp only;cases hrd:c7 (c::r)with
  | err e=>rfl
  | tok kind num len=>
   obtain⟨h1,h2⟩:=jh hrd;simp only;rw[ID _ N _ (by rw[TW];omega)]
theorem wF:∀m,m∈aP->m.length≤2:=by decide
def bO(t:Tok):Bool:=
 if t.kind=3 then decide (0≤t.num)&&decide (t.num≤2147483647)&&(t.text.data.toList==Lib.decDigits t.num.toNat)
 else if t.kind=1 then decide (t.num=0)&&bC t.text
 else if t.kind=2 then decide (t.num=0)&&inB t.text cj
 else if t.kind=4 then decide (t.num=0)&&aP.contains t.text.data.toList
 else false
theorem xb(d:Nat)(h:d<10):(UInt8.ofNat (48+d)).toNat=48+d:=by
 have:∀d,d<10->(UInt8.ofNat (48+d)).toNat=48+d:=by decide
 exact this d h
def lk:List Tok->Bs
 | []=>[]
 | [t]=>t.text.data.toList
 | t::u::r=>t.text.data.toList++32::lk (u::r)
def bs(l:Bs):ByteArray:=⟨l.toArray⟩
theorem bz(l:Bs):(bs l).data.toList=l:=by simp[bs]
theorem jR(s:ByteArray):bs s.data.toList=s:=Lib.mk_data s
theorem aG(l:Bs):(bs l).size=l.length:=by rw[Lib.size_eq,bz]
theorem I2(l:Bs)(n:Nat):(bs l).extract 0 n=bs (l.take n):=by rw[Lib.extract_eq,bz];rfl
theorem Hz(l:Bs)(n:Nat):(bs l).extract n (bs l).size=bs (l.drop n):=by
 rw[Lib.extract_eq,bz,aG];unfold bs;rw[List.take_of_length_le (by simp)]
theorem uY{a b:Bs}:bs a=bs b↔a=b:=⟨fun h=>by rw[<-bz a,<-bz b,h],fun h=>by rw[h]⟩
theorem cJ:bs []=⟨#[]⟩:=rfl
theorem gp(a b:Bs):bs a++bs b=bs (a++b):=by
 apply ByteArray.ext;apply Array.ext';simp[bs]
theorem vg(a b:Bs):decide (bs a=bs b)=decide (a=b):=by rw[decide_eq_decide];exact uY
def dig(x:UInt8):Bool:=dG x.toNat
theorem Aa{x:UInt8}(h:dig x=true):inn x=true:=by unfold dig at h;simp[inn,dV,h]
theorem v8:∀l:Bs,((l.takeWhile inn).all dig=true/\l.takeWhile dig=l.takeWhile inn/\(l.drop (l.takeWhile dig).length).takeWhile inn=[])\/((l.takeWhile inn).all dig=false/\(l.drop (l.takeWhile dig).length).takeWhile inn≠[])
 | []=>.inl ⟨rfl,rfl,rfl⟩
 | a::l=>by
  by_cases h:dig a=true
  .rw[TM h,TM (Aa h)];simp only[TQ,TV,List.all_cons,h,Bool.true_and];rcases v8 l with⟨h1,h2,h3⟩|⟨h1,h2⟩
   .exact .inl ⟨h1,by rw[h2],h3⟩
   .exact .inr ⟨h1,h2⟩
  .rw[TP h];simp only[TO,List.drop_zero];by_cases hi:inn a=true
   .rw[TM hi];refine .inr ⟨by simp[h],by simp⟩
   .rw[TP hi];exact .inl ⟨rfl,rfl,rfl⟩
def rk(acc:Nat)(l:Bs):Nat:=l.foldl (fun n c=>10*n+(c.toNat-48)) acc
theorem u5:∀(l:Bs) (acc:Nat),acc≤rk acc l
 | [],acc=>TZ _
 | c::r,acc=>by have:=u5 r (10*acc+(c.toNat-48));simp only[rk,List.foldl_cons]at this ⊢;omega
theorem tB:∀(l:Bs) (acc:Nat),(∀x,x∈l->dig x=true)->acc≤18446744073709551615->Lib.parseUintM 18446744073709551615 acc l=if rk acc l≤18446744073709551615 then .ok (rk acc l)else .range
 | [],acc,_,h=>(if_pos h).symm
 | c::r,acc,hd,h=>by
  have hc:=hd c (by simp);simp only[dig,dG,TJ,decide_eq_true_eq]at hc;have hge:=u5 r (10*acc+(c.toNat-48));have hst:rk acc (c::r)=rk (10*acc+(c.toNat-48)) r:=rfl;rw[hst,Lib.parseUintM,if_pos (by omega)];split
  .rw[if_neg (by omega)]
  .split
   .rw[if_neg (by omega)]
   .rw[show acc*10+(c.toNat-48)=10*acc+(c.toNat-48)by omega];exact tB r _ (fun x hx=>hd x (by simp[hx])) (by omega)
theorem nz{l:Bs}(h0:l≠[])(hd:∀x,x∈l->dig x=true):Lib.parseIntB 64 l=if ck l≤9223372036854775807 then .ok (ck l)else .range:=by
 match l,h0 with
 | c::r,_=>
  have hc:=hd c (by simp);simp only[dig,dG,TJ,decide_eq_true_eq]at hc;rw[Lib.parseIntB_plain 64 c r (by omega) (by omega)];have hp:=tB (c::r) 0 hd (by omega)
  have hu:Lib.parseUintB 64 (c::r)=if ck (c::r)≤18446744073709551615 then .ok (ck (c::r))else .range:=by
   unfold Lib.parseUintB;rw[if_neg (by simp)];exact hp
  rw[hu];generalize ck (c::r)=v;by_cases h1:v≤18446744073709551615
  .rw[if_pos h1];simp only[Lib.signlessC];by_cases h2:v≤9223372036854775807
   .rw[if_pos h2,if_neg (by omega)]
   .rw[if_neg h2,if_pos (by omega)]
  .rw[if_neg h1,if_neg (by omega)];rfl
structure ByteP(q:UInt8->Bool)(p:Int->Bool):Prop where
 low:∀b:UInt8,b.toNat<128->p b.toNat=q b
 high:∃v,(∀c:Int,128≤c->p c=v)/\∀b:UInt8,128≤b.toNat->q b=v
theorem EI(s:ByteArray)(k:Nat)(h:k<s.size):s.get! k=s[k]'h:=by
 simp[ByteArray.get!,getElem!_pos,h];rfl
theorem lg(s:ByteArray)(k:Nat)(h:k<s.size):s.data.toList[k]? = some (s[k]'h):=by
 have h1:s.data.toList.length=s.size:=Lib.size_eq s;rw[TT (by omega)];rfl
theorem wM(s:ByteArray)(pos:Nat)(h:pos<s.size)(ha:128≤(s[pos]'h).toNat):1≤(Utf8.decode s pos).2/\∀k,k<(Utf8.decode s pos).2->∃hk:pos+k<s.size,128≤(s[pos+k]'hk).toNat:=by
 have e0:s.get! (pos+0)=s[pos]'h:=EI s pos h;have e2:¬(s[pos]'h).toNat<128:=by omega
 have one:∀k,k<1->∃hk:pos+k<s.size,128≤(s[pos+k]'hk).toNat:=fun k hk=>by
  have:k=0:=by omega
  subst this;exact⟨h,ha⟩
 have cont:∀k,(decide (pos+k<s.size)&&((s.get! (pos+k)).toNat/64==2))=true->∃hk:pos+k<s.size,128≤(s[pos+k]'hk).toNat:=fun k hk=>by
  simp only[TJ,decide_eq_true_eq,beq_iff_eq]at hk;refine⟨hk.1,?_⟩;have:=hk.2;rw[EI s _ hk.1]at this;omega
 simp only[Utf8.decode,e0,e2,if_false];split
 .rename_i h1;simp only[TJ]at h1;split
  .refine⟨by omega,fun k hk=>?_⟩;have:k=0\/k=1:=by simp only at hk;omega
   rcases this with rfl|rfl
   .exact⟨h,ha⟩
   .exact cont 1 (by simpa using h1.2)
  .exact⟨by omega,one⟩
 .split
  .rename_i h1;simp only[TJ]at h1;split
   .refine⟨by omega,fun k hk=>?_⟩;have:k=0\/k=1\/k=2:=by simp only at hk;omega
    rcases this with rfl|rfl|rfl
    .exact⟨h,ha⟩
    .exact cont 1 (by simpa using h1.1.2)
    .exact cont 2 (by simpa using h1.2)
   .exact⟨by omega,one⟩
  .split
   .rename_i h1;simp only[TJ]at h1;split
    .refine⟨by omega,fun k hk=>?_⟩;have:k=0\/k=1\/k=2\/k=3:=by simp only at hk;omega
     rcases this with rfl|rfl|rfl|rfl
     .exact⟨h,ha⟩
     .exact cont 1 (by simpa using h1.1.1.2)
     .exact cont 2 (by simpa using h1.1.2)
     .exact cont 3 (by simpa using h1.2)
    .exact⟨by omega,one⟩
   .exact⟨by omega,one⟩
theorem EA(q:UInt8->Bool):∀(n:Nat) (l:Bs),(∀k,k<n->∃b,l[k]? = some b/\q b=true)->(l.takeWhile q).length=n+((l.drop n).takeWhile q).length
 | 0,l,_=>by simp
 | n+1,[],h=>by obtain⟨b,h1,-⟩:=h 0 (by omega);simp at h1
 | n+1,a::l,h=>by
  obtain⟨b,h1,h2⟩:=h 0 (by omega);simp only[List.getElem?_cons_zero,Option.some.injEq]at h1;subst h1;have:=EA q n l (fun k hk=>by obtain⟨b,h3,h4⟩:=h (k+1) (by omega);exact⟨b,by simpa using h3,h4⟩);rw[TM h2,TV,TQ,this];omega
theorem Gr(F:FuncId)(cap:Array Value)(q:UInt8->Bool)(p:Int->Bool)(hq:ByteP q p)(hF:∀args w,(callFunc F args).run Tryz.prog w=.ok (.enter F args) w)
 (H:∀(c:Int) (w:World),Calls Tryz.prog F (#[.int .i32 c]++cap) w fun e w'=>e=.returned (.bool (p c))/\w=w')(s:ByteArray)(w:World)(hs:s.size≤9223372036854775807):
 Calls Tryz.prog 167 #[.string s,.func (.func F) #[] cap] w fun e w'=>e=.returned (.int .i64 (s.data.toList.takeWhile q).length)/\Ext w w':=by
 have HH:=Lib.hid H;clear H;obtain⟨N,hN⟩:∃N,N=(s.data.toList.takeWhile q).length:=⟨_,rfl⟩
 rw[<-hN];have HN:=Lib.hid hN;clear hN;have HQ:=Lib.hid hq;clear hq;go_enter Tryz.func167,Tryz.ntmps167;go_wp2_with fail;go_loopw [5,6] (fun _ _ wr=>∃pos:Nat,pos≤s.size/\wr=w.iter s pos/\N=pos+((s.data.toList.drop pos).takeWhile q).length) (fun _ _ wr=>match wr.heap[w.heap.size]? with|some (.stringIter _ p)=>s.size-p|_=>0);case atStart=>exact⟨0,TY _,rfl,by rw[HN.out];simp⟩
 case round=>
  obtain⟨pos,hp,rfl,hb⟩:=hrel;have HB:=Lib.hid hb;clear hb;by_cases hlt:pos<s.size
  .have hnx:=fun ty=>nv (P:=Tryz.prog) w s pos ty hlt;have hl:s.data.toList[pos]? = some (s[pos]'hlt):=lg s pos hlt
   have hpq:p (Utf8.decode s pos).1=q (s[pos]'hlt)/\(q (s[pos]'hlt)=true->1≤(Utf8.decode s pos).2/\pos+(Utf8.decode s pos).2≤s.size/\N=pos+(Utf8.decode s pos).2+((s.data.toList.drop (pos+(Utf8.decode s pos).2)).takeWhile q).length):=by
    have adv:∀n,(∀k,k<n->∃hk:pos+k<s.size,q (s[pos+k]'hk)=true)->pos+n≤s.size/\N=pos+n+((s.data.toList.drop (pos+n)).takeWhile q).length:=fun n h=>by
     have h1:pos+n≤s.size:=by
      cases n with
      | zero=>omega
      | succ n=>obtain⟨hk,-⟩:=h n (by omega);omega
     refine⟨h1,?_⟩;rw[HB.out,EA q n _ (fun k hk=>?_),List.drop_drop]
     .omega
     .obtain⟨hk2,h3⟩:=h k hk;exact⟨_,by rw[List.getElem?_drop];exact lg s _ hk2,h3⟩
    by_cases ha:(s[pos]'hlt).toNat<128
    .rw[decode_ascii s pos hlt ha];refine⟨HQ.out.low _ ha,fun h=>⟨by omega,adv 1 fun k hk=>?_⟩⟩;have:k=0:=by omega
     subst this;exact⟨hlt,h⟩
    .obtain⟨v,h1,h2⟩:=HQ.out.high;have hd:=kA s pos hlt (by omega);obtain⟨g1,g2⟩:=wM s pos hlt (by omega);rw[h1 _ (by omega),h2 _ (by omega)];refine⟨rfl,fun h=>⟨g1,adv _ fun k hk=>?_⟩⟩;obtain⟨g3,g4⟩:=g2 k hk;exact⟨g3,by rw[h2 _ g4];exact h⟩
   have HPQ:=Lib.hid hpq;clear hpq;generalize hrd:(Utf8.decode s pos).1=rn at *;generalize hwd:(Utf8.decode s pos).2=wd at *;cases hqv:q (s[pos]'hlt)with
   | true=>
    go_wp2_with fail;refine(HH.out _ _).mono ?_;rintro e2 w2 ⟨rfl,rfl⟩;have hpv:=HPQ.out.1;rw[hqv]at hpv;rw[hpv];obtain⟨g1,g2,g3⟩:=HPQ.out.2 hqv;go_wp2_with fail;go_roundw;case rel=>exact⟨pos+wd,g2,rfl,g3⟩
    case measure=>simp[World.iter_heap];omega
   | false=>
    go_wp2_with fail;refine(HH.out _ _).mono ?_;rintro e2 w2 ⟨rfl,rfl⟩;have hpv:=HPQ.out.1;rw[hqv]at hpv;rw[hpv];go_wp2_with fail;go_ret;refine⟨cu ?_,(Ext.refl w).iter _ _⟩
    have hnil:(s.data.toList.drop pos).takeWhile q=[]:=by
     rw[TN (by have:=Lib.size_eq s;omega)]
     have:s.data.toList[pos]'(by have:=Lib.size_eq s;omega)=s[pos]'hlt:=by
      have h9:=TT (l:=s.data.toList) (i:=pos) (by have:=Lib.size_eq s;omega);rw[hl]at h9;exact(Option.some.inj h9).symm
     rw[TP (by rw[this,hqv];decide)]
    have h8:=HB.out;rw[hnil]at h8;simp only[TO,T5]at h8;rw[h8]
  .have:pos=s.size:=by omega
   subst this;have hnx:=fun ty=>run_next_end (P:=Tryz.prog) w s s.size ty (by omega);go_wp2_with fail;go_ret;refine⟨cu ?_,(Ext.refl w).iter _ _⟩;have h8:=HB.out;rw[List.drop_of_length_le (by have:=Lib.size_eq s;omega)]at h8;simp only[List.takeWhile_nil,TO,T5]at h8;rw[h8]
end Go.Proofs.YtnhphlmblenapaaGreatDoor
