import Derived.WalkKit
import Derived.Lib.Hide
import Derived.Deep.Draws
import Derived.OwnWalk
import Derived.WalkSpells
import Derived.Outline
import Derived.WalkLawsBesides
import Derived.ProofKit
import Derived.Deep.Slices
import Derived.Deep.QuietTactic
import Derived.BigQuiet
import Derived.Lib.Strings
import Derived.Test.YthekkgfmagliiaaGreatDoorRows
set_option linter.unusedVariables false
set_option linter.unusedSimpArgs false
set_option linter.unusedSectionVars false
set_option maxRecDepth 100000
open Bool renaming eq_iff_iff->RS,and_eq_true->RU
open List renaming drop_eq_getElem_cons->RW,eq_nil_of_length_eq_zero->RX,getElem_mem->RY,length_nil->RZ,mem_cons->R0
open Nat renaming zero_le->R5,le_refl->R6,lt_of_lt_of_le->R7,le_trans->R8,zero_add->R9
namespace Go.Proofs.YthekkgfmagliiaaGreatDoor
open Go.RowKit
inductive Ex where
 | mk (op n:Int) (name:ByteArray) (args:List Ex)
namespace Ex
def op:Ex->Int|mk o _ _ _=>o
def num:Ex->Int|mk _ n _ _=>n
def name:Ex->ByteArray|mk _ _ s _=>s
def args:Ex->List Ex|mk _ _ _ l=>l
end Ex
mutual
theorem Ex.ind{P:Ex->Prop}(h:∀o n s l,(∀a,a∈l->P a)->P (.mk o n s l)):∀e,P e
 | .mk o n s l=>h o n s l (Ex.inds h l)
theorem Ex.inds{P:Ex->Prop}(h:∀o n s l,(∀a,a∈l->P a)->P (.mk o n s l)):∀l:List Ex,∀a,a∈l->P a
 | [],_,ha=>nomatch ha
 | b::r,a,ha=>by
  rcases List.mem_cons.1 ha with e|e
  .rw[e];exact Ex.ind h b
  .exact Ex.inds h r a e
end
theorem cv{k:IntKind}{a b:Int}(h:a=b):Ending.returned (.int k a)=.returned (.int k b):=by rw[h]
theorem aL{a b:Bool}(h:a=b):Ending.returned (.bool a)=.returned (.bool b):=by rw[h]
def Ext(w w':World):Prop:=Below w.heap.size w w'
theorem Ext.refl(w:World):Ext w w:=Below.refl _ _
theorem Ext.trans{a b c:World}(h:Ext a b)(k:Ext b c):Ext a c:=Below.trans h (Below.mono k h.size)
theorem Ext.cell{w w':World}(h:Ext w w'){p:Addr}{v:Value}(hp:w.cell? p=some v):w'.cell? p=some v:=by
 have hb:p.block<w.heap.size:=by
  unfold World.cell? at hp;split at hp
  .rename_i h1;exact(Array.getElem?_eq_some_iff.1 h1).1
  .cases hp
 rw[Below.cell h hb];exact hp
theorem Ext.alloc{a w:World}(h:Ext a w)(o:Obj):Ext a (w.alloc o):=Below.alloc h h.size o
theorem Ext.drewN{a w:World}(h:Ext a w)(n:Nat):Ext a (w.drewN n):=⟨h.os,h.tape,h.output,h.size,h.block⟩
theorem Ext.drew{a w:World}(h:Ext a w):Ext a w.drew:=Below.drew h
theorem Ext.box4{w w':World}{T:TypeId}{a b c d:Value}(h:Ext (w.alloc (.cells #[a,b,c,d] T)) w'):
 w'.cell? ⟨w.heap.size,0,none⟩=some a/\w'.cell? ⟨w.heap.size,1,none⟩=some b/\w'.cell? ⟨w.heap.size,2,none⟩=some c/\w'.cell? ⟨w.heap.size,3,none⟩=some d:=
 ⟨h.cell (by simp[World.cell?_alloc_new]),h.cell (by simp[World.cell?_alloc_new]),h.cell (by simp[World.cell?_alloc_new]),h.cell (by simp[World.cell?_alloc_new])⟩
theorem Ext.past{w w':World}{o:Obj}(h:Ext (w.alloc o) w'):Ext w w':=((Ext.refl w).alloc o).trans h
def lQ(w:World)(b off:Nat)(cs:List Value):Prop:=∀j v,cs[j]? = some v->w.cell? ⟨b,off+j,none⟩=some v
def nL(w:World)(size:Nat)(v:Value)(css:List (List Value)):Prop:=
 ∃p cap,v=.slice p css.length cap/\css.length≤cap/\cap≤maxLen/\
  ∀i cs,css[i]? = some cs->∃b off,p=some ⟨b,off,none⟩/\cs.length=size/\lQ w b (off+i*size) cs
theorem lQ.ext{w w':World}(h:Ext w w'){b off:Nat}{cs:List Value}(hc:lQ w b off cs):lQ w' b off cs:=
 fun j v hj=>h.cell (hc j v hj)
theorem nL.ext{w w':World}(h:Ext w w'){size:Nat}{v:Value}{css:List (List Value)}(hs:nL w size v css):nL w' size v css:=by
 obtain⟨p,cap,h1,h2,h3,h4⟩:=hs;refine⟨p,cap,h1,h2,h3,fun i cs hi=>?_⟩;obtain⟨b,off,g1,g2,g3⟩:=h4 i cs hi;exact⟨b,off,g1,g2,g3.ext h⟩
inductive ExRep(w:World):Ex->List Value->Prop
 | mk (o n:Int) (s:ByteArray) (l:List Ex) (v:Value) (css:List (List Value)) (hl:css.length=l.length)
  (hc:∀i (h:i<l.length) (h':i<css.length),ExRep w l[i] css[i]) (hv:nL w 4 v css)
  (ho : -9223372036854775808≤o/\o≤9223372036854775807) (hn : -9223372036854775808≤n/\n≤9223372036854775807) (hs:s.size≤maxLen):
  ExRep w (.mk o n s l) [.int .i64 o,.int .i64 n,.string s,v]
theorem ExRep.ext{w w':World}(h:Ext w w'){e:Ex}{cs:List Value}(he:ExRep w e cs):ExRep w' e cs:=by
 induction he with
 | mk o n s l v css hl hc hv ho hn hs ih=>exact .mk o n s l v css hl ih (hv.ext h) ho hn hs
def gB(w:World)(e:Ex)(v:Value):Prop:=∃cs,ExRep w e cs/\v=.agg cs.toArray
theorem gB.ext{w w':World}(h:Ext w w'){e:Ex}{v:Value}:gB w e v->gB w' e v
 | ⟨cs,h1,h2⟩=>⟨cs,h1.ext h,h2⟩
def vn(w:World)(l:List Ex)(v:Value):Prop:=∃css:List (List Value),css.length=l.length/\nL w 4 v css/\∀i (h:i<l.length) (h':i<css.length),ExRep w l[i] css[i]
theorem yG{w:World}{b o:Nat}{e:Ex}{cs:List Value}(hr:ExRep w e cs)(hc:lQ w b o cs):
 ∃v,gB w e (.agg #[.int .i64 e.op,.int .i64 e.num,.string e.name,v])/\vn w e.args v/\
  w.cell? ⟨b,o,none⟩=some (.int .i64 e.op)/\w.cell? ⟨b,o+1,none⟩=some (.int .i64 e.num)/\
  w.cell? ⟨b,o+2,none⟩=some (.string e.name)/\w.cell? ⟨b,o+3,none⟩=some v:=by
 cases hr with
 | mk o' n s l v css hl hc' hv ho hn hs=>
  refine⟨v,⟨_,.mk o' n s l v css hl hc' hv ho hn hs,rfl⟩,⟨css,hl,hv,hc'⟩,?_,?_,?_,?_⟩
  .exact hc 0 _ rfl
  .exact hc 1 _ rfl
  .exact hc 2 _ rfl
  .exact hc 3 _ rfl
theorem y9{w:World}{l:List Ex}{p:Option Addr}{n cap:Nat}(h:vn w l (.slice p n cap)){j:Nat}(hj:j<l.length):
 ∃b o cs,p=some ⟨b,o,none⟩/\ExRep w l[j] cs/\lQ w b (o+j*4) cs:=by
 obtain⟨css,hl,⟨p',cap',hv,h1,h2,h3⟩,hr⟩:=h;cases hv;have hj':j<css.length:=by omega
 obtain⟨b,o,g1,g2,g3⟩:=h3 j css[j] (by simp[hj']);exact⟨b,o,css[j],g1,hr j hj hj',g3⟩
theorem lL{w:World}{l:List Ex}{v:Value}(h:vn w l v):∃p cap,v=.slice p l.length cap/\l.length≤cap/\cap≤9223372036854775807:=by
 obtain⟨css,hl,⟨p,cap,hv,h1,h2,h3⟩,hr⟩:=h;exact⟨p,cap,by rw[hv,hl],by omega,h2⟩
theorem eN{w:World}{e:Ex}{v:Value}(h:gB w e v):
 ∃p cap,v=.agg #[.int .i64 e.op,.int .i64 e.num,.string e.name,.slice p e.args.length cap]/\vn w e.args (.slice p e.args.length cap)/\
  e.args.length≤cap/\cap≤9223372036854775807/\
  (-9223372036854775808≤e.op/\e.op≤9223372036854775807)/\(-9223372036854775808≤e.num/\e.num≤9223372036854775807)/\e.name.size≤9223372036854775807:=by
 obtain⟨cs,hr,rfl⟩:=h;cases hr with
 | mk o' n s l v css hl hc' hv ho hn hs=>
  obtain⟨p,cap,rfl,h1,h2⟩:=lL ⟨css,hl,hv,hc'⟩;exact⟨p,cap,rfl,⟨css,hl,hv,hc'⟩,h1,h2,ho,hn,hs⟩
theorem pi(a b:ByteArray):(a.toList==b.toList)=decide (a=b):=by
 rw[ByteArray.toList_eq,ByteArray.toList_eq,RS];simp only[beq_iff_eq,decide_eq_true_eq];constructor
 .intro h;cases a;cases b;simp only[ByteArray.mk.injEq];exact Array.toList_inj.1 h
 .intro h;rw[h]
def inB(s:ByteArray)(l:List ByteArray):Bool:=l.any fun x=>decide (x=s)
theorem gn{s:ByteArray}{l:List ByteArray}:inB s l=true↔s∈l:=by simp[inB]
theorem lK{s:ByteArray}{l:List ByteArray}:inB s l=false↔s∉l:=by rw[<-gn,Bool.not_eq_true]
def dR(w:World)(l:List ByteArray)(v:Value):Prop:=
 ∃p cap,v=.slice p l.length cap/\l.length≤cap/\cap≤9223372036854775807/\
  ∀i s,l[i]? = some s->∃b off,p=some ⟨b,off,none⟩/\w.cell? ⟨b,off+i,none⟩=some (.string s)
theorem dR.ext{w w':World}(h:Ext w w'){l:List ByteArray}{v:Value}:dR w l v->dR w' l v
 | ⟨p,cap,h1,h2,h3,h4⟩=>⟨p,cap,h1,h2,h3,fun i s hi=>by obtain⟨b,off,g1,g2⟩:=h4 i s hi;exact⟨b,off,g1,h.cell g2⟩⟩
theorem uR{w:World}{l:List ByteArray}{p:Option Addr}{n cap:Nat}(h:dR w l (.slice p n cap)){j:Nat}(hj:j<l.length):
 ∃b off,p=some ⟨b,off,none⟩/\w.cell? ⟨b,off+j,none⟩=some (.string l[j]):=by
 obtain⟨p',cap',hv,h1,h2,h3⟩:=h;cases hv;exact h3 j l[j] (by simp[hj])
theorem AD(w:World)(l:List ByteArray)(T:TypeId)(hl:l.length≤9223372036854775807):
 dR (w.alloc (.cells (l.map Value.string).toArray T)) l (.slice (some ⟨w.heap.size,0,none⟩) l.length l.length):=by
 refine⟨_,_,rfl,R6 _,hl,fun i s hi=>⟨_,_,rfl,?_⟩⟩;simp[World.cell?_alloc_new,hi]
def JL(l:List ByteArray)(w:World)(e:Ending)(w':World):Prop:=∃v,e=.returned v/\dR w' l v/\Ext w w'
def iH(w:World)(l:List Int)(v:Value):Prop:=
 ∃p cap,v=.slice p l.length cap/\l.length≤cap/\cap≤9223372036854775807/\
  ∀i s,l[i]? = some s->∃b off,p=some ⟨b,off,none⟩/\w.cell? ⟨b,off+i,none⟩=some (.int .i64 s)
theorem iH.ext{w w':World}(h:Ext w w'){l:List Int}{v:Value}:iH w l v->iH w' l v
 | ⟨p,cap,h1,h2,h3,h4⟩=>⟨p,cap,h1,h2,h3,fun i s hi=>by obtain⟨b,off,g1,g2⟩:=h4 i s hi;exact⟨b,off,g1,h.cell g2⟩⟩
theorem I7{w:World}{l:List Int}{p:Option Addr}{n cap:Nat}(h:iH w l (.slice p n cap)){j:Nat}(hj:j<l.length):
 ∃b off,p=some ⟨b,off,none⟩/\w.cell? ⟨b,off+j,none⟩=some (.int .i64 l[j]):=by
 obtain⟨p',cap',hv,h1,h2,h3⟩:=h;cases hv;exact h3 j l[j] (by simp[hj])
theorem Af(w:World)(l:List Int)(T:TypeId)(hl:l.length≤9223372036854775807):
 iH (w.alloc (.cells (l.map (Value.int .i64)).toArray T)) l (.slice (some ⟨w.heap.size,0,none⟩) l.length l.length):=by
 refine⟨_,_,rfl,R6 _,hl,fun i s hi=>⟨_,_,rfl,?_⟩⟩;simp[World.cell?_alloc_new,hi]
structure Keep(O:Nat->Prop)(w w':World):Prop where
 os:w'.os=w.os
 tape:w'.tape=w.tape
 output:w'.output=w.output
 size:w.heap.size≤w'.heap.size
 block:∀k,k<w.heap.size->¬O k->w'.heap[k]? = w.heap[k]?
theorem Keep.refl(O:Nat->Prop)(w:World):Keep O w w:=⟨rfl,rfl,rfl,R6 _,fun _ _ _=>rfl⟩
theorem Keep.trans{O O':Nat->Prop}{a b c:World}(h:Keep O a b)(k:Keep O' b c)(ho:∀x,O' x->O x\/a.heap.size≤x):Keep O a c:=
 ⟨k.os.trans h.os,k.tape.trans h.tape,k.output.trans h.output,R8 h.size k.size,fun i hi hn=>
   (k.block i (R7 hi h.size) (fun hx=>(ho i hx).elim hn (fun hx=>by omega))).trans (h.block i hi hn)⟩
theorem Keep.of_ext{O:Nat->Prop}{w w':World}(h:Ext w w'):Keep O w w':=⟨h.os,h.tape,h.output,h.size,fun k hk _=>h.block k hk⟩
theorem Keep.mono{O O':Nat->Prop}{w w':World}(h:Keep O w w')(ho:∀x,O x->O' x):Keep O' w w':=
 ⟨h.os,h.tape,h.output,h.size,fun k hk hn=>h.block k hk fun hx=>hn (ho k hx)⟩
theorem Keep.ext{O:Nat->Prop}{w0 w w':World}(h:Keep O w w')(h0:Ext w0 w)(ho:∀x,O x->w0.heap.size≤x):Ext w0 w':=
 ⟨h.os.trans h0.os,h.tape.trans h0.tape,h.output.trans h0.output,R8 h0.size h.size,fun k hk=>
   (h.block k (R7 hk h0.size) (fun hx=>by have:=ho k hx;omega)).trans (h0.block k hk)⟩
theorem Keep.cell{O:Nat->Prop}{w w':World}(h:Keep O w w'){p:Addr}{v:Value}(hn:¬O p.block)(hp:w.cell? p=some v):w'.cell? p=some v:=by
 have hb:p.block<w.heap.size:=by
  unfold World.cell? at hp;split at hp
  .rename_i h1;exact(Array.getElem?_eq_some_iff.1 h1).1
  .cases hp
 rw[World.cell?_of_block (w:=w) (h.block p.block hb hn)];exact hp
theorem Keep.heap{O:Nat->Prop}{w w':World}(h:Keep O w w'){k:Nat}{o:Obj}(hn:¬O k)(hp:w.heap[k]? = some o):w'.heap[k]? = some o:=by
 rw[h.block k (Array.getElem?_eq_some_iff.1 hp).1 hn];exact hp
theorem Keep.alloc{O:Nat->Prop}{a w:World}(h:Keep O a w)(o:Obj):Keep O a (w.alloc o):=
 h.trans (Keep.of_ext (O:=O) ((Ext.refl w).alloc o)) fun _ hx=>.inl hx
theorem Keep.drewN{O:Nat->Prop}{a w:World}(h:Keep O a w)(n:Nat):Keep O a (w.drewN n):=⟨h.os,h.tape,h.output,h.size,h.block⟩
theorem Keep.setCell{O:Nat->Prop}{a w:World}(h:Keep O a w){p:Addr}(hp:O p.block\/a.heap.size≤p.block)(u:Value):Keep O a (w.setCell p u):=by
 refine⟨h.os,h.tape,h.output,R8 h.size (by simp[World.setCell]),fun k hk hn=>?_⟩;rw[Below.heap_setCell _ _ _ _ (fun e=>?_)]
 .exact h.block k hk hn
 .subst e;rcases hp with hp|hp
  .exact hn hp
  .omega
theorem Keep.grown{O:Nat->Prop}{a w w':World}{row:Option Nat}(h:Keep O a w)(hg:w.grownBy w' row)(hr:∀k,row=some k->O k\/a.heap.size≤k):Keep O a w':=
 ⟨hg.os.trans h.os,hg.tape.trans h.tape,hg.output.trans h.output,R8 h.size hg.size,fun k hk hn=>by
   rw[hg.block k (R7 hk h.size) (fun e=>?_)]
   .exact h.block k hk hn
   .rcases hr k e.symm with h'|h'
    .exact hn h'
    .omega⟩
def One(b:Nat)(T:TypeId)(v:Value)(w:World):Prop:=w.heap[b]? = some (.cells #[v] T (0,0))
theorem One.cell{b:Nat}{T:TypeId}{v:Value}{w:World}(h:One b T v w):w.cell? ⟨b,0,none⟩=some v:=by
 unfold One at h;simp[World.cell?,h]
theorem One.frozen{b:Nat}{T:TypeId}{v:Value}{w:World}(h:One b T v w):w.frozen? ⟨b,0,none⟩=false:=by
 unfold One at h;simp[World.frozen?,h]
theorem One.lt{b:Nat}{T:TypeId}{v:Value}{w:World}(h:One b T v w):b<w.heap.size:=(Array.getElem?_eq_some_iff.1 h).1
theorem One.keep{O:Nat->Prop}{w w':World}(h:Keep O w w'){b:Nat}{T:TypeId}{v:Value}(hn:¬O b)(h1:One b T v w):One b T v w':=h.heap hn h1
theorem One.set{b:Nat}{T:TypeId}{v:Value}{w:World}(h:One b T v w)(u:Value):One b T u (w.setCell ⟨b,0,none⟩ u):=by
 unfold One at h ⊢;simp[World.setCell,Array.getElem?_modify,h]
theorem One.alloc{b:Nat}{T:TypeId}{v:Value}{w:World}(h:One b T v w)(o:Obj):One b T v (w.alloc o):=by
 have:=h.lt;unfold One at h ⊢;rw[Below.heap_alloc _ _ _ this];exact h
theorem One.new(w:World)(T:TypeId)(v:Value):One w.heap.size T v (w.alloc (.cells #[v] T)):=by
 unfold One;show(w.heap.push _)[w.heap.size]? = _;simp
theorem _root_.Go.World.ownsRow.drewN{w:World}{base:Nat}{e:TypeId}{size:Nat}{v:Value}{n:Nat}{xs:List Value}(h:w.ownsRow base e size v n xs)(k:Nat):(w.drewN k).ownsRow base e size v n xs:=h
theorem lq{P:Program}{f:FuncId}{args:Array Value}{w:World}{n:Nat}{v:Value}(h:Calls P f args (w.drewN n) fun e w'=>e=.returned v/\w.drewN n=w'):
 Calls P f args (w.drewN n) fun e w''=>e=.returned v/\∃m,w''=w.drewN m:=h.mono fun _ _ h=>⟨h.1,n,h.2.symm⟩
theorem D3(w:World)(o:Obj)(T:TypeId)(x:Value):∀j u,[x][j]? = some u->((w.alloc o).alloc (.cells #[x] T)).cell? ((⟨w.heap.size+1,0,none⟩:Addr).add j)=some u:=by
 intro j u hj;cases j with
 | zero=>
  simp at hj;subst hj;simp[Addr.add]
 | succ j=>simp at hj
theorem jl{w:World}{base:Nat}{T:TypeId}{v:Value}{l:List ByteArray}(h:w.ownsRow base T 1 v l.length (l.map Value.string)):dR w l v:=by
 obtain⟨h1,h2⟩:=h;rcases h2 with⟨rfl,h0⟩|⟨g,cap,cur,rfl,hb,hh,hn,hc,hs,ht⟩
 .have:l=[]:=RX h0;subst this;exact⟨none,0,rfl,R6 _,by omega,fun i s hi=>by simp at hi⟩
 .refine⟨_,cap,rfl,hn,hc,fun i s hi=>⟨g,0,rfl,?_⟩⟩;have hlt:i<l.length:=(List.getElem?_eq_some_iff.1 hi).1;have e1:(cur.toList.take (l.length*1))[i]? = some (.string s):=by rw[ht];simp[hi]
  rw[List.getElem?_take_of_lt (by omega)]at e1;simp[World.cell?,hh];simpa using e1
theorem ny{α:Type}[DecidableEq α]:∀{l N:List α},l.Nodup->(∀s,s∈l->s∈N)->l.length≤N.length
 | [],_,_,_=>R5 _
 | a::r,N,hn,hm=>by
  have ha:a∈N:=hm a (by simp)
  have hr:=ny (l:=r) (N:=N.erase a) (List.nodup_cons.1 hn).2 (fun s hs=>by
   have hne:s≠a:=fun e=>(List.nodup_cons.1 hn).1 (e▸hs);exact(List.mem_erase_of_ne hne).2 (hm s (by simp[hs])))
  rw[List.length_erase_of_mem ha]at hr;have:0<N.length:=List.length_pos_of_mem ha;simp only[List.length_cons];omega
mutual
def d7{σ:Type}(next:σ->Ex->σ×Bool):Ex->σ->σ×Bool
 | .mk o n s l,x=>if(next x (.mk o n s l)).2 then ez next l (next x (.mk o n s l)).1 else((next x (.mk o n s l)).1,false)
def ez{σ:Type}(next:σ->Ex->σ×Bool):List Ex->σ->σ×Bool
 | [],x=>(x,true)
 | a::r,x=>if(d7 next a x).2 then ez next r (d7 next a x).1 else((d7 next a x).1,false)
end
structure Visits(P:Program)(w0:World)(F:FuncId)(cap:Array Value){σ:Type}(next:σ->Ex->σ×Bool)(I:(Nat->Prop)->σ->World->Prop)(Q:Ex->Prop):Prop where
 sub:∀{o n s l},Q (.mk o n s l)->∀a,a∈l->Q a
 stays:∀{O s w w'},I O s w->(∀k,O k->w'.heap[k]? = w.heap[k]?)->I O s w'
 lt:∀{O s w},I O s w->∀k,O k->w0.heap.size≤k/\k<w.heap.size
 call:∀{O s w e v},Q e->Ext w0 w->I O s w->gB w0 e v->
  Calls P F (#[v]++cap) w fun en w'=>en=.returned (.bool (next s e).2)/\∃O',I O' (next s e).1 w'/\(∀k,O' k->O k\/w.heap.size≤k)/\Keep O w w'
section
variable {P : Program}
theorem pX(w:World)(t ty e:TypeId)(i:TypeInfo)(z:Value)(size bytes:Nat)(ht:P.underlying t=some (.slice e))(hi:P.info? e=some i)(hz:i.zero=some z)
 (hsize:i.size=size)(hby:i.bytes=bytes)(hzs:z.cells.size=size)(hsz:0<size)
 (v:Value)(n:Nat)(xs:List Value)(hown:w.ownsRow 0 e size v n xs)
 (a:Addr)(m c:Nat)(news:List Value)(hl:news.length=m*size)(hnews:∀j u,news[j]? = some u->w.cell? (a.add j)=some u)(h1:∀u∈news,u.oneCell'=true)
 (h63:n+m≤maxLen)(hbytes:(n+m)*bytes≤140737488355328)(hm:0<m):
 ∃v' w',(Builtin.append_ #[t,t] ty #[v,.slice (some a) m c]).run P w=.ok v' w'/\w'.ownsRow 0 e size v' (n+m) (xs++news)/\w.grownBy w' v.ownBlock/\
  ∃g cap,v'=.slice (some ⟨g,0,none⟩) (n+m) cap/\(v.ownBlock=some g\/w.heap.size≤g):=by
 obtain⟨v',w',hr,h2,h3,h4⟩:=run_append_own (P:=P) w 0 t ty e i z size bytes ht hi hz hsize hby hzs hsz v n xs hown a m c news hl hnews h1 h63 hbytes (R5 _);refine⟨v',w',hr,h2,h3,?_⟩;subst hsize;subst hby;rcases hown.2 with⟨rfl,rfl⟩|⟨g,cap,cur,rfl,hbg,hg,hnc,hcm,hcs,htake⟩
 .have hr2:=run_append_nil (P:=P) w t ty e i z ht hi hz a m c news hl hnews hm (by simp only[maxLen]at h63;omega) (by have hb:=hbytes;simp only[R9]at hb;omega);rw[hr]at hr2;injection hr2 with e1 e2
  exact⟨w.heap.size,_,by rw[e1,R9],.inr (R6 _)⟩
 .by_cases hroom:n+m≤cap
  .have hfit:n*i.size+news.length≤cur.size:=by rw[hl,hcs,<-Nat.add_mul];exact Nat.mul_le_mul_right _ hroom
   have hr2:=run_append_room (P:=P) w t ty e i ht hi g n cap cur hg a m c news hl hnews h1 hroom hfit;rw[hr]at hr2;injection hr2 with e1 e2
   exact⟨g,_,e1,.inl rfl⟩
  .have hr2:=run_append_grow (P:=P) w t ty e i z ht hi hz ⟨g,0,none⟩ n cap xs hown.1 (hown.cells (g:=g) rfl) a m c news hl hnews (by omega) (by simp only[maxLen]at h63;omega) (growslice_fits (by omega) hbytes);rw[hr]at hr2;injection hr2 with e1 e2
   exact⟨w.heap.size,_,e1,.inr (R6 _)⟩
structure Grew(w:World)(e:TypeId)(size:Nat)(v:Value)(n:Nat)(xs:List Value)(g cap:Nat)(w':World):Prop where
 row:w'.ownsRow 0 e size (.slice (some ⟨g,0,none⟩) n cap) n xs
 grown:w.grownBy w' v.ownBlock
 new:v.ownBlock=some g\/w.heap.size≤g
theorem sN(w:World){ops:Array Oper}{rest:List Oper}{o:Oper}{a:Act}{Q:Exit->Act->World->Prop}(hgd:o.guard=none)(s x:Operand)(t:TypeId)
 (ho:o.op=.call {callee:=.builtin .append,args := #[s,x],argTypes := #[t,t]})
 (e:TypeId)(i:TypeInfo)(z:Value)(size bytes:Nat)(ht:P.underlying t=some (.slice e))(hi:P.info? e=some i)(hz:i.zero=some z)
 (hsize:i.size=size)(hby:i.bytes=bytes)(hzs:z.cells.size=size)(hsz:0<size)
 (v:Value)(n:Nat)(xs:List Value)(hs:a.eval s=v)(hown:w.ownsRow 0 e size v n xs)
 (ad:Addr)(m c:Nat)(news:List Value)(hx:a.eval x=.slice (some ad) m c)(hl:news.length=m*size)(hnews:∀j u,news[j]? = some u->w.cell? (ad.add j)=some u)(h1:∀u∈news,u.oneCell'=true)
 (h63:n+m≤maxLen)(hbytes:(n+m)*bytes≤140737488355328)(hm:0<m)
 (h:∀g cap w',Grew w e size v (n+m) (xs++news) g cap w'->wpList P ops Q rest (a.put o.dst (.slice (some ⟨g,0,none⟩) (n+m) cap)) w'):wpList P ops Q (o::rest) a w:=by
 refine wpList_plain hgd fun K hK=>?_;obtain⟨v',w',hr,h2,h3,g,cap,rfl,h5⟩:=pX (P:=P) w t o.type e i z size bytes ht hi hz hsize hby hzs hsz v n xs hown ad m c news hl hnews h1 h63 hbytes hm;unfold Oper.wp execOp;simp only[ho,resolve,invoke,builtin,Sem.run_bind,Sem.run_pure,Result.andThen_ok,List.map_toArray,List.map_cons,List.map_nil,hs,hx,hr];exact hK _ _ (h g cap w' ⟨h2,h3,h5⟩)
end
end Go.Proofs.YthekkgfmagliiaaGreatDoor
namespace Go.Proofs.YthekkgfmagliiaaGreatDoor
open Go.RowKit
mutual
def ce:Ex->Nat
 | .mk _ _ _ l=>dg l+1
def dg:List Ex->Nat
 | []=>0
 | a::r=>max (ce a) (dg r)
end
theorem py{l:List Ex}{a:Ex}(h:a∈l):ce a≤dg l:=by
 induction l with
 | nil=>cases h
 | cons b r ih=>
  simp only[dg];rcases List.mem_cons.1 h with h|h
  .subst h;omega
  .have:=ih h;omega
theorem DO(e:Ex):∀(v:Value) (w:World),ce e≤1000000->gB w e v->
 Calls Tryz.prog 130 #[v] w fun en w'=>en=.returned (.int .i64 (ce e))/\Ext w w':=by
 induction e using Ex.ind with
 | h o m s l ih=>
  intro v w hd hv;obtain⟨p,cap,rfl,hl,h1,h2,-,-,-⟩:=eN hv;simp only[Ex.op,Ex.num,Ex.name,Ex.args]at *;have hd':dg l<1000000:=by simp only[ce]at hd;omega
  have hq:ce (.mk o m s l)=dg l+1:=by simp only[ce]
  generalize ce (.mk o m s l)=R at *;have HQ:=Lib.hid hq;clear hq;clear hd;have HL:=Lib.hid hl;clear hl;have HV:=Lib.hid hv;clear hv;have IH:=Lib.hid ih;clear ih;go_enter Tryz.func130,Tryz.ntmps130;go_wp2_with fail;go_loopw [3,9,5] (fun d i _ wr=>∃(dd j:Nat),d=.int .i64 dd/\i=.int .i64 j/\j≤l.length/\max dd (dg (l.drop j))=dg l/\Ext w wr) (fun _ i _ _=>l.length-(intOf i).toNat);case atStart=>exact⟨0,0,rfl,rfl,R5 _,by simp,(Ext.refl w).alloc _⟩
  case round=>
   obtain⟨dd,j,rfl,rfl,hj,hrec,hext⟩:=hrel;have hdd:(dd:Int)<1000000:=by omega
   have HR:=Lib.hid hrec;clear hrec;have HX:=Lib.hid hext;clear hext;by_cases hlt:j<l.length
   .obtain⟨b,off,cs,rfl,hr,hc⟩:=y9 HL.out hlt;obtain⟨sv,gv,gl,q2,q3,q4,q5⟩:=yG hr hc;obtain⟨p',cp',rfl,-,-⟩:=lL gl;have r2:=HX.out.cell q2;have r3:=HX.out.cell q3;have r4:=HX.out.cell q4;have r5:=HX.out.cell q5;clear q2 q3 q4 q5 hr hc gl;have GV:=Lib.hid gv;clear gv;have hle:=py (RY hlt);go_wp2_with fail;refine(IH.out l[j] (by simp) _ _ (by omega) (GV.out.ext (HX.out.alloc _))).mono ?_;rintro e w' ⟨rfl,hx⟩;have HY:=Lib.hid hx;clear hx;go_wp2_with fail;go_roundw
    case rel=>
     refine⟨max dd (ce l[j]),j+1,?_,by go_num,by omega,?_,(HX.out.alloc _).trans HY.out⟩
     .congr 1;omega
     .rw[<-HR.out,RW hlt];simp only[dg];omega
    case measure=>simp[intOf];omega
   .have:j=l.length:=by omega
    subst this;go_wp2_with fail;go_ret;have h9:=HR.out;simp only[List.drop_length,dg,Nat.max_zero]at h9;exact⟨cv (by rw[HQ.out,<-h9];rfl),HX.out⟩
theorem CR{w:World}{a:Addr}{v:Value}(h:w.cell? a=some v):a.spot=none:=by
 unfold World.cell? at h;split at h
 .split at h
  .cases h
  .rename_i hs;simpa using hs
 .cases h
instance:Inhabited Ex:=⟨.mk 0 0 ⟨#[]⟩ []⟩
def dn:List ByteArray:=[⟨#[99,108,97,115,115]⟩,⟨#[101,120,116,101,110,100,115]⟩,⟨#[114,97,110,100]⟩,⟨#[114,97,110,100,99]⟩,⟨#[115,116,97,116,101]⟩,⟨#[99,111,110,115,116,114,97,105,110,116]⟩,⟨#[115,111,102,116]⟩,⟨#[100,105,115,116]⟩,⟨#[105,102]⟩,⟨#[101,108,115,101]⟩,⟨#[101,97,99,104]⟩,⟨#[105,110]⟩,⟨#[115,111,108,118,101]⟩,⟨#[98,101,102,111,114,101]⟩,⟨#[105,110,115,105,100,101]⟩,⟨#[112,114,111,112,101,114,116,121]⟩,⟨#[115,101,113]⟩,⟨#[97,110,100]⟩,⟨#[111,114]⟩,⟨#[110,111,116]⟩,⟨#[115,101,116]⟩,⟨#[104,111,108,100]⟩,⟨#[112,108,97,105,110]⟩,⟨#[114,101,112,101,97,116]⟩]
def fj(c:Int):Bool:=decide (97≤c)&&decide (c≤122)
def cZ(c:Int):Bool:=decide (48≤c)&&decide (c≤57)
def xy(c:Int):Bool:=decide (65≤c)&&decide (c≤90)
def fm(c:Int):Bool:=fj c||cZ c||xy c||decide (c=95)
theorem eD(c:Int)(w:World):
 Calls Tryz.prog 115 #[.int .i32 c] w fun e w'=>e=.returned (.bool (fj c))/\w=w':=by
 by_cases h:97≤c
 .go_enter Tryz.func115,Tryz.ntmps115;go_wp2_with fail;go_ret;exact⟨aL (by simp[fj,h]),rfl⟩
 .go_enter Tryz.func115,Tryz.ntmps115;go_wp2_with fail;go_ret;exact⟨aL (by simp[fj];omega),rfl⟩
theorem gI(c:Int)(w:World):
 Calls Tryz.prog 117 #[.int .i32 c] w fun e w'=>e=.returned (.bool (cZ c))/\w=w':=by
 by_cases h:48≤c
 .go_enter Tryz.func117,Tryz.ntmps117;go_wp2_with fail;go_ret;exact⟨aL (by simp[cZ,h]),rfl⟩
 .go_enter Tryz.func117,Tryz.ntmps117;go_wp2_with fail;go_ret;exact⟨aL (by simp[cZ];omega),rfl⟩
theorem gW(c:Int)(w:World):
 Calls Tryz.prog 120 #[.int .i32 c] w fun e w'=>e=.returned (.bool (fm c))/\w=w':=by
 by_cases hl:fj c=true
 .go_enter Tryz.func120,Tryz.ntmps120;go_wp2_with (first|(go_at_call 115;refine(eD _ _).mono ?_;rintro e w' ⟨rfl,rfl⟩)|(go_at_call 117;refine(gI _ _).mono ?_;rintro e w' ⟨rfl,rfl⟩));go_ret;exact⟨aL (by simp[fm,hl]),rfl⟩
 .have hl':fj c=false:=by simpa using hl
  clear hl;by_cases hd:cZ c=true
  .go_enter Tryz.func120,Tryz.ntmps120;go_wp2_with (first|(go_at_call 115;refine(eD _ _).mono ?_;rintro e w' ⟨rfl,rfl⟩)|(go_at_call 117;refine(gI _ _).mono ?_;rintro e w' ⟨rfl,rfl⟩));go_ret;exact⟨aL (by simp[fm,hd]),rfl⟩
  .have hd':cZ c=false:=by simpa using hd
   clear hd;by_cases hu:65≤c
   .by_cases hu2:c≤90
    .go_enter Tryz.func120,Tryz.ntmps120;go_wp2_with (first|(go_at_call 115;refine(eD _ _).mono ?_;rintro e w' ⟨rfl,rfl⟩)|(go_at_call 117;refine(gI _ _).mono ?_;rintro e w' ⟨rfl,rfl⟩));go_ret;exact⟨aL (by simp[fm,xy,hu,hu2]),rfl⟩
    .go_enter Tryz.func120,Tryz.ntmps120;go_wp2_with (first|(go_at_call 115;refine(eD _ _).mono ?_;rintro e w' ⟨rfl,rfl⟩)|(go_at_call 117;refine(gI _ _).mono ?_;rintro e w' ⟨rfl,rfl⟩));go_ret;exact⟨aL (by rw[fm,hl',hd',xy,RS];simp;omega),rfl⟩
   .go_enter Tryz.func120,Tryz.ntmps120;go_wp2_with (first|(go_at_call 115;refine(eD _ _).mono ?_;rintro e w' ⟨rfl,rfl⟩)|(go_at_call 117;refine(gI _ _).mono ?_;rintro e w' ⟨rfl,rfl⟩));go_ret;exact⟨aL (by rw[fm,hl',hd',xy,RS];simp;omega),rfl⟩
theorem fu(c:Int)(w:World):
 Calls Tryz.prog 56 #[.int .u8 c] w fun e w'=>e=.returned (.bool (fj c))/\w=w':=by
 by_cases h:97≤c
 .go_enter Tryz.func56,Tryz.ntmps56;go_wp2_with fail;go_ret;exact⟨aL (by simp[fj,h]),rfl⟩
 .go_enter Tryz.func56,Tryz.ntmps56;go_wp2_with fail;go_ret;exact⟨aL (by simp[fj];omega),rfl⟩
theorem iZ(c:Int)(w:World):
 Calls Tryz.prog 59 #[.int .u8 c] w fun e w'=>e=.returned (.bool (cZ c))/\w=w':=by
 by_cases h:48≤c
 .go_enter Tryz.func59,Tryz.ntmps59;go_wp2_with fail;go_ret;exact⟨aL (by simp[cZ,h]),rfl⟩
 .go_enter Tryz.func59,Tryz.ntmps59;go_wp2_with fail;go_ret;exact⟨aL (by simp[cZ];omega),rfl⟩
theorem tu(c:Int)(w:World):
 Calls Tryz.prog 73 #[.int .u8 c] w fun e w'=>e=.returned (.bool (fm c))/\w=w':=by
 by_cases hl:fj c=true
 .go_enter Tryz.func73,Tryz.ntmps73;go_wp2_with (first|(go_at_call 56;refine(fu _ _).mono ?_;rintro e w' ⟨rfl,rfl⟩)|(go_at_call 59;refine(iZ _ _).mono ?_;rintro e w' ⟨rfl,rfl⟩));go_ret;exact⟨aL (by simp[fm,hl]),rfl⟩
 .have hl':fj c=false:=by simpa using hl
  clear hl;by_cases hd:cZ c=true
  .go_enter Tryz.func73,Tryz.ntmps73;go_wp2_with (first|(go_at_call 56;refine(fu _ _).mono ?_;rintro e w' ⟨rfl,rfl⟩)|(go_at_call 59;refine(iZ _ _).mono ?_;rintro e w' ⟨rfl,rfl⟩));go_ret;exact⟨aL (by simp[fm,hd]),rfl⟩
  .have hd':cZ c=false:=by simpa using hd
   clear hd;by_cases hu:65≤c
   .by_cases hu2:c≤90
    .go_enter Tryz.func73,Tryz.ntmps73;go_wp2_with (first|(go_at_call 56;refine(fu _ _).mono ?_;rintro e w' ⟨rfl,rfl⟩)|(go_at_call 59;refine(iZ _ _).mono ?_;rintro e w' ⟨rfl,rfl⟩));go_ret;exact⟨aL (by simp[fm,xy,hu,hu2]),rfl⟩
    .go_enter Tryz.func73,Tryz.ntmps73;go_wp2_with (first|(go_at_call 56;refine(fu _ _).mono ?_;rintro e w' ⟨rfl,rfl⟩)|(go_at_call 59;refine(iZ _ _).mono ?_;rintro e w' ⟨rfl,rfl⟩));go_ret;exact⟨aL (by rw[fm,hl',hd',xy,RS];simp;omega),rfl⟩
   .go_enter Tryz.func73,Tryz.ntmps73;go_wp2_with (first|(go_at_call 56;refine(fu _ _).mono ?_;rintro e w' ⟨rfl,rfl⟩)|(go_at_call 59;refine(iZ _ _).mono ?_;rintro e w' ⟨rfl,rfl⟩));go_ret;exact⟨aL (by rw[fm,hl',hd',xy,RS];simp;omega),rfl⟩
theorem oh{P:Program}(w:World)(s:ByteArray)(pos:Nat)(ty:TypeId)(h:pos<s.size):
 (Instr.next (.pointer (some ⟨w.heap.size,0,none⟩)) true ty).run P (w.iter s pos)=
   .ok (.tuple #[.bool true,.int .i64 pos,.int .i32 (Utf8.decode s pos).1]) (w.iter s (pos+(Utf8.decode s pos).2)):=by
 simp only[Instr.next,getObj,setObj,Sem.run_bind,Sem.run,World.iter_heap,Result.andThen,h,if_true,World.iter_set];simp[goInt]
theorem lE(s:ByteArray)(pos:Nat)(h:pos<s.size)(ha:128≤(s[pos]'h).toNat):128≤(Utf8.decode s pos).1:=by
 have e:s.get! (pos+0)=s[pos]'h:=by
  show s.get! pos=_;simp[ByteArray.get!,getElem!_pos,h];rfl
 have e2:¬(s[pos]'h).toNat<128:=by omega
 simp only[Utf8.decode,e,e2,if_false];split
 .split<;>(try simp only[Utf8.runeError])<;>omega
 .split
  .split
   .rename_i h2;simp only[RU,decide_eq_true_eq]at h2;omega
   .simp only[Utf8.runeError];omega
  .split
   .split
    .rename_i h2;simp only[RU,decide_eq_true_eq]at h2;omega
    .simp only[Utf8.runeError];omega
   .simp only[Utf8.runeError];omega
def jf:List UInt8->Bool
 | []=>false
 | c::r=>fj c.toNat&&(c::r).all fun c=>fm c.toNat
def fv(s:ByteArray):Bool:=jf s.data.toList
theorem Ext.iter{a w:World}(h:Ext a w)(s:ByteArray)(pos:Nat):Ext a (w.iter s pos):=h.alloc _
def Fq(s:ByteArray)(pos:Nat):Prop:=(∀k (h:k<s.size),k<pos->fm (s[k]'h).toNat=true)/\(∀h:0<s.size,0<pos->fj (s[0]'h).toNat=true)
theorem r9{s:ByteArray}(h:Fq s s.size)(h0:0<s.size):fv s=true:=by
 have hl:=h.2 h0 h0;have hf:=h.1;unfold fv
 match e:s.data.toList with
 | []=>
  have:s.data.toList.length=s.size:=by simp
  rw[e]at this;simp at this;omega
 | c::r=>
  have hlen:(c::r).length=s.size:=by rw[<-e];simp
  have hget:∀k (hk:k<(c::r).length),(c::r)[k]=s[k]'(by omega):=by
   intro k hk;simp only[<-e];simp;rfl
  have h00:=hget 0 (by simp);simp only[List.getElem_cons_zero]at h00;simp only[jf,RU];refine⟨by rw[h00];exact hl,List.all_eq_true.2 fun x hx=>?_⟩;obtain⟨k,hk,rfl⟩:=List.getElem_of_mem hx;rw[hget k hk];exact hf k (by omega) (by omega)
theorem mg{s:ByteArray}{k:Nat}(hk:k<s.size)(h:fm (s[k]'hk).toNat=false):fv s=false:=by
 unfold fv
 have hm:s[k]'hk∈s.data.toList:=by
  have:s[k]'hk=s.data.toList[k]'(by simpa using hk):=by simp;rfl
  rw[this];exact RY _
 match e:s.data.toList with
 | []=>rfl
 | c::r=>
  rw[e]at hm;simp only[jf,Bool.and_eq_false_iff];right;exact List.all_eq_false.2 ⟨_,hm,by simp[h]⟩
theorem oU{s:ByteArray}(hk:0<s.size)(h:fj (s[0]'hk).toNat=false):fv s=false:=by
 unfold fv
 match e:s.data.toList with
 | []=>rfl
 | c::r=>
  have:c=s[0]'hk:=by
   have h1:s[0]'hk=s.data.toList[0]'(by simpa using hk):=by simp;rfl
   rw[h1];simp[e]
  simp[jf,this,h]
theorem mh{c:Int}(h:128≤c):fm c=false:=by
 simp[fm,fj,cZ,xy];omega
theorem tW{c:Int}(h:128≤c):fj c=false:=by
 simp[fj];omega
theorem re(s:ByteArray)(w:World)(hs:s.size≤9223372036854775807):
 Calls Tryz.prog 84 #[.string s] w fun e w'=>e=.returned (.bool (fv s))/\Ext w w':=by
 go_enter Tryz.func84,Tryz.ntmps84;go_wp2_with fail;go_loopw [3,4] (fun _ _ wr=>∃pos:Nat,pos≤s.size/\wr=w.iter s pos/\Fq s pos) (fun _ _ wr=>match wr.heap[w.heap.size]? with|some (.stringIter _ p)=>s.size-p|_=>0);case atStart=>exact⟨0,R5 _,rfl,fun k _ h=>by omega,fun _ h=>by omega⟩
 case round=>
  obtain⟨pos,hp,rfl,hb⟩:=hrel;have HB:=Lib.hid hb;clear hb;by_cases hlt:pos<s.size
  .have hnx:=fun ty=>oh (P:=Tryz.prog) w s pos ty hlt;by_cases h0:pos=0
   .subst h0;by_cases hl:fj (Utf8.decode s 0).1=true
    .have ha:(s[0]'hlt).toNat<128:=by
      apply Classical.byContradiction;intro hn;rw[tW (by have:=lE s 0 hlt (by omega);omega)]at hl;cases hl
     have hd:=decode_ascii s 0 hlt ha;have HD:=Lib.hid hd;clear hd;have hd1:(Utf8.decode s 0).2=1:=by rw[HD.out]
     have hf:fm (Utf8.decode s 0).1=true:=by simp[fm,hl]
     go_wp2_with (first|(go_at_call 115;refine(eD _ _).mono ?_;rintro e w' ⟨rfl,rfl⟩)|(go_at_call 120;refine(gW _ _).mono ?_;rintro e w' ⟨rfl,rfl⟩));go_roundw
     case rel=>
      refine⟨1,hlt,by simp,?_,?_⟩
      .intro k hk hk1;have:k=0:=by omega
       subst this;rw[HD.out]at hf;exact hf
      .intro h _;rw[HD.out]at hl;exact hl
     case measure=>simp[World.iter_heap];omega
    .have hl':fj (Utf8.decode s 0).1=false:=by simpa using hl
     clear hl;go_wp2_with (first|(go_at_call 115;refine(eD _ _).mono ?_;rintro e w' ⟨rfl,rfl⟩)|(go_at_call 120;refine(gW _ _).mono ?_;rintro e w' ⟨rfl,rfl⟩));go_ret;refine⟨aL ?_,(Ext.refl w).iter _ _⟩;by_cases ha:(s[0]'hlt).toNat<128
     .exact(oU hlt (by rw[decode_ascii s 0 hlt ha]at hl';exact hl')).symm
     .exact(oU hlt (tW (by omega))).symm
   .have h0':((pos:Int)==0)=false:=by rw[beq_eq_false_iff_ne];omega
    by_cases hf:fm (Utf8.decode s pos).1=true
    .have ha:(s[pos]'hlt).toNat<128:=by
      apply Classical.byContradiction;intro hn;rw[mh (by have:=lE s pos hlt (by omega);omega)]at hf;cases hf
     have hd:=decode_ascii s pos hlt ha;have HD:=Lib.hid hd;clear hd;have hd1:(Utf8.decode s pos).2=1:=by rw[HD.out]
     go_wp2_with (first|(go_at_call 115;refine(eD _ _).mono ?_;rintro e w' ⟨rfl,rfl⟩)|(go_at_call 120;refine(gW _ _).mono ?_;rintro e w' ⟨rfl,rfl⟩));go_roundw
     case rel=>
      refine⟨pos+1,hlt,by simp,?_,?_⟩
      .intro k hk hk1;by_cases hkp:k=pos
       .subst hkp;rw[HD.out]at hf;exact hf
       .exact HB.out.1 k hk (by omega)
      .intro h _;exact HB.out.2 h (by omega)
     case measure=>simp[World.iter_heap];omega
    .have hf':fm (Utf8.decode s pos).1=false:=by simpa using hf
     clear hf;go_wp2_with (first|(go_at_call 115;refine(eD _ _).mono ?_;rintro e w' ⟨rfl,rfl⟩)|(go_at_call 120;refine(gW _ _).mono ?_;rintro e w' ⟨rfl,rfl⟩));go_ret;refine⟨aL ?_,(Ext.refl w).iter _ _⟩;by_cases ha:(s[pos]'hlt).toNat<128
     .exact(mg hlt (by rw[decode_ascii s pos hlt ha]at hf';exact hf')).symm
     .exact(mg hlt (mh (by omega))).symm
  .have:pos=s.size:=by omega
   subst this;have hnx:=fun ty=>run_next_end (P:=Tryz.prog) w s s.size ty (by omega);go_wp2_with fail;go_ret;refine⟨aL ?_,(Ext.refl w).iter _ _⟩;by_cases h0:0<s.size
   .rw[r9 HB.out h0]
    match e:s.toList with
    | []=>rw[ByteArray.toList_eq]at e;have h9:=Lib.size_eq s;rw[e]at h9;simp only[RZ]at h9;omega
    | _::_=>rfl
   .have:s.data.toList=[]:=RX (by have:=Lib.size_eq s;omega);simp[fv,this,ByteArray.toList_eq,jf]
def sY:List ByteArray->ByteArray->Nat->Int
 | [],_,_=>-1
 | a::r,s,i=>if s=a then i else sY r s (i+1)
theorem JM(l:List ByteArray)(s:ByteArray):∀i:Nat,(0≤sY l s i↔s∈l):=by
 induction l with
 | nil=>intro i;simp[sY]
 | cons a r ih=>
  intro i;simp only[sY,R0];split
  .rename_i h;simp[h]
  .rename_i h;rw[ih];simp[h]
theorem EJ(l:List ByteArray)(s:ByteArray)(v:Value)(w:World)(hv:dR w l v):
 Calls Tryz.prog 157 #[v,.string s] w fun e w'=>e=.returned (.int .i64 (sY l s 0))/\w=w':=by
 have hv':=hv;obtain⟨p,cap,rfl,h1,h2,h3⟩:=hv';have H3:=Lib.hid h3;clear h3;have HV:=Lib.hid hv;clear hv;go_enter Tryz.func157,Tryz.ntmps157;go_wp2_with fail;go_loop [8,5] (fun i _=>∃j:Nat,i=.int .i64 j/\j≤l.length/\sY (l.drop j) s j=sY l s 0) (fun i _=>l.length-(intOf i).toNat);case atStart=>exact⟨0,rfl,R5 _,rfl⟩
 case round=>
  obtain⟨j,rfl,hj,hrec⟩:=hrel;have HR:=Lib.hid hrec;clear hrec;by_cases hlt:j<l.length
  .obtain⟨b,off,rfl,hc⟩:=uR HV.out hlt;by_cases he:s=l[j]
   .have he':(s.toList==(l[j]).toList)=true:=by rw[pi];simpa using he
    have HE:=Lib.hid he;clear he;go_wp2_with fail;go_ret;exact⟨cv (by rw[<-HR.out,RW hlt,sY,if_pos HE.out]),rfl⟩
   .have he':(s.toList==(l[j]).toList)=false:=by rw[pi];simpa using he
    go_wp2_with fail;go_round;case rel=>exact⟨j+1,by go_num,by omega,by rw[<-HR.out,RW hlt,sY,if_neg he]⟩
    case measure=>simp[intOf];omega
  .have:j=l.length:=by omega
   subst this;go_wp2_with fail;go_ret;exact⟨cv (by rw[<-HR.out];simp[sY]),rfl⟩
theorem iM(l:List ByteArray)(s:ByteArray)(v:Value)(w:World)(hv:dR w l v):
 Calls Tryz.prog 121 #[v,.string s] w fun e w'=>e=.returned (.bool (inB s l))/\w=w':=by
 have hi:=JM l s 0;have HI:=Lib.hid hi;clear hi;go_enter Tryz.func121,Tryz.ntmps121;go_wp2_with (go_at_call 157;refine(EJ _ _ _ _ hv).mono ?_;rintro e w' ⟨rfl,rfl⟩);go_ret;exact⟨aL (by rw[RS,gn];simpa using HI.out),rfl⟩
def o8(w:World):Prop:=∃v,w.cell? ⟨0,0,none⟩=some v/\dR w dn v
theorem o8.ext{w w':World}(h:Ext w w'):o8 w->o8 w'
 | ⟨v,h1,h2⟩=>⟨v,h.cell h1,h2.ext h⟩
theorem gQ(s:ByteArray)(w:World)(hk:o8 w):
 Calls Tryz.prog 85 #[.string s] w fun e w'=>e=.returned (.bool (inB s dn))/\w=w':=by
 obtain⟨v,h1,h2⟩:=hk;go_enter Tryz.func85,Tryz.ntmps85;go_wp2_with (go_at_call 121;refine(iM _ _ _ _ h2).mono ?_;rintro e w' ⟨rfl,rfl⟩);go_ret;exact⟨rfl,rfl⟩
def bt(s:ByteArray):Bool:=fv s&&decide (s.size≤16) && !inB s dn
theorem gO(s:ByteArray)(w:World)(hs:s.size≤9223372036854775807)(hk:o8 w):
 Calls Tryz.prog 49 #[.string s] w fun e w'=>e=.returned (.bool (bt s))/\Ext w w':=by
 have HK:=Lib.hid hk;clear hk;by_cases hw:fv s=true
 .by_cases hz:s.size≤16
  .go_enter Tryz.func49,Tryz.ntmps49;go_wp2_with (first|(go_at_call 84;refine(re _ _ hs).mono ?_;rintro e w' ⟨rfl,hx⟩)|(go_at_call 85;refine(gQ _ _ (HK.out.ext (by assumption))).mono ?_;rintro e w' ⟨rfl,rfl⟩));go_ret;exact⟨aL (by simp[bt,hw,hz]),by assumption⟩
  .go_enter Tryz.func49,Tryz.ntmps49;go_wp2_with (first|(go_at_call 84;refine(re _ _ hs).mono ?_;rintro e w' ⟨rfl,hx⟩)|(go_at_call 85;refine(gQ _ _ (HK.out.ext (by assumption))).mono ?_;rintro e w' ⟨rfl,rfl⟩));go_ret;exact⟨aL (by rw[bt,hw,decide_eq_false (by omega)];rfl),by assumption⟩
 .have hw':fv s=false:=by simpa using hw
  clear hw;go_enter Tryz.func49,Tryz.ntmps49;go_wp2_with (first|(go_at_call 84;refine(re _ _ hs).mono ?_;rintro e w' ⟨rfl,hx⟩)|(go_at_call 85;refine(gQ _ _ (HK.out.ext (by assumption))).mono ?_;rintro e w' ⟨rfl,rfl⟩));go_ret;exact⟨aL (by simp[bt,hw']),by assumption⟩
theorem Jk(l:List ByteArray)(s:ByteArray)(v:Value)(w:World)(hv:dR w l v):
 Calls Tryz.prog 93 #[v,.string s] w fun e w'=>e=.returned (.bool (inB s l))/\w=w':=by
 have hv':=hv;obtain⟨p,cap,rfl,h1,h2,h3⟩:=hv';have H3:=Lib.hid h3;clear h3;have HV:=Lib.hid hv;clear hv;go_enter Tryz.func93,Tryz.ntmps93;go_wp2_with fail;go_loop [5] (fun i=>∃j:Nat,i=.int .i64 j/\j≤l.length/\(s∈l.drop j↔s∈l)) (fun i=>l.length-(intOf i).toNat);case atStart=>exact⟨0,rfl,R5 _,by simp⟩
 case round=>
  obtain⟨j,rfl,hj,hrec⟩:=hrel;have HR:=Lib.hid hrec;clear hrec;by_cases hlt:j<l.length
  .obtain⟨b,off,rfl,hc⟩:=uR HV.out hlt;by_cases he:l[j]=s
   .have he':((l[j]).toList==s.toList)=true:=by rw[pi];simpa using he
    have HE:=Lib.hid he;clear he;go_wp2_with fail;go_ret;exact⟨aL (by rw[<-HE.out];exact(gn.2 (RY _)).symm),rfl⟩
   .have he':((l[j]).toList==s.toList)=false:=by rw[pi];simpa using he
    have HE:=Lib.hid he;clear he;go_wp2_with fail;go_round;case rel=>exact⟨j+1,by go_num,by omega,by rw[<-HR.out,RW hlt,R0];exact⟨.inr,fun h=>h.resolve_left fun e=>HE.out e.symm⟩⟩
    case measure=>simp[intOf];omega
  .have:j=l.length:=by omega
   subst this;have hn:s∉l:=fun h=>by have:=HR.out.2 h;simp at this
   have HN:=Lib.hid hn;clear hn;go_wp2_with fail;go_ret;exact⟨aL (lK.2 HN.out).symm,rfl⟩
theorem vB(w:World):Calls Tryz.prog 94 #[] w (JL dn w):=by
 go_enter Tryz.func94,Tryz.ntmps94;go_wp2_with fail;go_ret;exact⟨_,rfl,AD w dn _ (by decide),(Ext.refl w).alloc _⟩
theorem gk(s:ByteArray)(w:World):
 Calls Tryz.prog 58 #[.string s] w fun e w'=>e=.returned (.bool (inB s dn))/\Ext w w':=by
 go_enter Tryz.func58,Tryz.ntmps58;go_wp2_with (first|(go_at_call 94;refine(vB _).mono ?_;rintro e w' ⟨v,rfl,hv,hx⟩)|(go_at_call 93;refine(Jk _ _ _ _ (by assumption)).mono ?_;rintro e w' ⟨rfl,rfl⟩));go_ret;exact⟨rfl,by assumption⟩
theorem jH(s:ByteArray)(w:World)(hs:s.size≤9223372036854775807):
 Calls Tryz.prog 37 #[.string s] w fun e w'=>e=.returned (.bool (bt s))/\Ext w w':=by
 by_cases hz:s.size=0
 .have e1:s.toList=[]:=by rw[ByteArray.toList_eq];exact RX (by have:=Lib.size_eq s;omega)
  have e2:fv s=false:=by rw[ByteArray.toList_eq]at e1;simp[fv,e1,jf]
  have E2:=Lib.hid e2;clear e2;clear hz;go_enter Tryz.func37,Tryz.ntmps37;go_wp2_with fail;go_ret;exact⟨aL (by simp[bt,E2.out]),Ext.refl _⟩
 .have e1:s.toList.isEmpty=false:=by
   match e:s.toList with
   | []=>rw[ByteArray.toList_eq]at e;have h9:=Lib.size_eq s;rw[e]at h9;simp only[RZ]at h9;omega
   | _::_=>rfl
  have hp:0<s.size:=by omega
  clear hz;by_cases hz2:s.size≤16
  .by_cases hl:fj (s[0]'hp).toNat=true
   .by_cases hk:inB s dn=true
    .go_enter Tryz.func37,Tryz.ntmps37;go_wp2_with (first|(go_at_call 56;refine(fu _ _).mono ?_;rintro e w' ⟨rfl,rfl⟩)|(go_at_call 58;refine(gk _ _).mono ?_;rintro e w' ⟨rfl,hx⟩));go_ret;exact⟨aL (by simp[bt,hk]),by assumption⟩
    .have hk':inB s dn=false:=by simpa using hk
     clear hk;go_enter Tryz.func37,Tryz.ntmps37;go_wp2_with (first|(go_at_call 56;refine(fu _ _).mono ?_;rintro e w' ⟨rfl,rfl⟩)|(go_at_call 58;refine(gk _ _).mono ?_;rintro e w' ⟨rfl,hx⟩));have HX:=Lib.hid hx;clear hx;go_loop [3] (fun i=>∃j:Nat,i=.int .i64 j/\j≤s.size/\Fq s j) (fun i=>s.size-(intOf i).toNat);case atStart=>exact⟨0,rfl,R5 _,fun k _ h=>by omega,fun _ h=>by omega⟩
     case round=>
      obtain⟨j,rfl,hj,hb⟩:=hrel;have HB:=Lib.hid hb;clear hb;by_cases hlt:j<s.size
      .by_cases hf:fm (s[j]'hlt).toNat=true
       .go_wp2_with (go_at_call 73;refine(tu _ _).mono ?_;rintro e w' ⟨rfl,rfl⟩);go_round
        case rel=>
         refine⟨j+1,by go_num,hlt,fun k hk hk1=>?_,fun h _=>hl⟩;by_cases hkj:k=j
         .subst hkj;exact hf
         .exact HB.out.1 k hk (by omega)
        case measure=>simp[intOf];omega
       .have hf':fm (s[j]'hlt).toNat=false:=by simpa using hf
        clear hf;go_wp2_with (go_at_call 73;refine(tu _ _).mono ?_;rintro e w' ⟨rfl,rfl⟩);go_ret;exact⟨aL (by simp[bt,mg hlt hf']),HX.out⟩
      .have:j=s.size:=by omega
       subst this;go_wp2_with fail;go_ret;exact⟨aL (by simp[bt,r9 HB.out hp,hz2,hk']),HX.out⟩
   .have hl':fj (s[0]'hp).toNat=false:=by simpa using hl
    clear hl;go_enter Tryz.func37,Tryz.ntmps37;go_wp2_with (first|(go_at_call 56;refine(fu _ _).mono ?_;rintro e w' ⟨rfl,rfl⟩)|(go_at_call 58;refine(gk _ _).mono ?_;rintro e w' ⟨rfl,hx⟩));go_ret;exact⟨aL (by simp[bt,oU hp hl']),Ext.refl _⟩
  .go_enter Tryz.func37,Tryz.ntmps37;go_wp2_with (first|(go_at_call 56;refine(fu _ _).mono ?_;rintro e w' ⟨rfl,rfl⟩)|(go_at_call 58;refine(gk _ _).mono ?_;rintro e w' ⟨rfl,hx⟩));go_ret;exact⟨aL (by rw[bt,decide_eq_false (p:=s.size≤16) (by omega)];simp),Ext.refl _⟩
end Go.Proofs.YthekkgfmagliiaaGreatDoor
