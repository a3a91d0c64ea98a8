import Derived.WalkKit
import Derived.Lib.Hide
import Derived.Deep.Draws
import Derived.OwnWalk
import Derived.WalkSpells
import Derived.Outline
import Derived.WalkLawsBesides
import Derived.ProofKit
import Derived.Deep.Slices
import Derived.Test.YthekkgfmagliiaaGreatDoorRows
set_option maxRecDepth 100000
set_option linter.unusedVariables false
set_option linter.unusedSimpArgs false
set_option linter.unusedSectionVars false
open Nat renaming le_refl->Rs,lt_of_lt_of_le->Ru,le_trans->Rv,zero_le->Rw,zero_add->Rx
namespace Go.Proofs.YthekkgfmagliiaaGreatDoor
open Go.RowKit
inductive Ex where
 | mk (op n:Int) (name:ByteArray) (args:List Ex)
namespace Ex
def op:Ex->Int|mk o _ _ _=>o
def num:Ex->Int|mk _ n _ _=>n
def name:Ex->ByteArray|mk _ _ s _=>s
def args:Ex->List Ex|mk _ _ _ l=>l
end Ex
mutual
theorem Ex.ind{P:Ex->Prop}(h:∀o n s l,(∀a,a∈l->P a)->P (.mk o n s l)):∀e,P e
 | .mk o n s l=>h o n s l (Ex.inds h l)
theorem Ex.inds{P:Ex->Prop}(h:∀o n s l,(∀a,a∈l->P a)->P (.mk o n s l)):∀l:List Ex,∀a,a∈l->P a
 | [],_,ha=>nomatch ha
 | b::r,a,ha=>by
  rcases List.mem_cons.1 ha with e|e
  .rw[e];exact Ex.ind h b
  .exact Ex.inds h r a e
end
theorem dX{k:IntKind}{a b:Int}(h:a=b):Ending.returned (.int k a)=.returned (.int k b):=by rw[h]
theorem cq{a b:Bool}(h:a=b):Ending.returned (.bool a)=.returned (.bool b):=by rw[h]
def Ext(w w':World):Prop:=Below w.heap.size w w'
theorem Ext.refl(w:World):Ext w w:=Below.refl _ _
theorem Ext.trans{a b c:World}(h:Ext a b)(k:Ext b c):Ext a c:=Below.trans h (Below.mono k h.size)
theorem Ext.cell{w w':World}(h:Ext w w'){p:Addr}{v:Value}(hp:w.cell? p=some v):w'.cell? p=some v:=by
 have hb:p.block<w.heap.size:=by
  unfold World.cell? at hp;split at hp
  .rename_i h1;exact(Array.getElem?_eq_some_iff.1 h1).1
  .cases hp
 rw[Below.cell h hb];exact hp
theorem Ext.alloc{a w:World}(h:Ext a w)(o:Obj):Ext a (w.alloc o):=Below.alloc h h.size o
theorem Ext.drewN{a w:World}(h:Ext a w)(n:Nat):Ext a (w.drewN n):=⟨h.os,h.tape,h.output,h.size,h.block⟩
theorem Ext.drew{a w:World}(h:Ext a w):Ext a w.drew:=Below.drew h
theorem Ext.box4{w w':World}{T:TypeId}{a b c d:Value}(h:Ext (w.alloc (.cells #[a,b,c,d] T)) w'):
 w'.cell? ⟨w.heap.size,0,none⟩=some a/\w'.cell? ⟨w.heap.size,1,none⟩=some b/\w'.cell? ⟨w.heap.size,2,none⟩=some c/\w'.cell? ⟨w.heap.size,3,none⟩=some d:=
 ⟨h.cell (by simp[World.cell?_alloc_new]),h.cell (by simp[World.cell?_alloc_new]),h.cell (by simp[World.cell?_alloc_new]),h.cell (by simp[World.cell?_alloc_new])⟩
theorem Ext.past{w w':World}{o:Obj}(h:Ext (w.alloc o) w'):Ext w w':=((Ext.refl w).alloc o).trans h
def lH(w:World)(b off:Nat)(cs:List Value):Prop:=∀j v,cs[j]? = some v->w.cell? ⟨b,off+j,none⟩=some v
def nB(w:World)(size:Nat)(v:Value)(css:List (List Value)):Prop:=
 ∃p cap,v=.slice p css.length cap/\css.length≤cap/\cap≤maxLen/\
  ∀i cs,css[i]? = some cs->∃b off,p=some ⟨b,off,none⟩/\cs.length=size/\lH w b (off+i*size) cs
theorem lH.ext{w w':World}(h:Ext w w'){b off:Nat}{cs:List Value}(hc:lH w b off cs):lH w' b off cs:=
 fun j v hj=>h.cell (hc j v hj)
theorem nB.ext{w w':World}(h:Ext w w'){size:Nat}{v:Value}{css:List (List Value)}(hs:nB w size v css):nB w' size v css:=by
 obtain⟨p,cap,h1,h2,h3,h4⟩:=hs;refine⟨p,cap,h1,h2,h3,fun i cs hi=>?_⟩;obtain⟨b,off,g1,g2,g3⟩:=h4 i cs hi;exact⟨b,off,g1,g2,g3.ext h⟩
inductive ExRep(w:World):Ex->List Value->Prop
 | mk (o n:Int) (s:ByteArray) (l:List Ex) (v:Value) (css:List (List Value)) (hl:css.length=l.length)
  (hc:∀i (h:i<l.length) (h':i<css.length),ExRep w l[i] css[i]) (hv:nB w 4 v css)
  (ho : -9223372036854775808≤o/\o≤9223372036854775807) (hn : -9223372036854775808≤n/\n≤9223372036854775807) (hs:s.size≤maxLen):
  ExRep w (.mk o n s l) [.int .i64 o,.int .i64 n,.string s,v]
theorem ExRep.ext{w w':World}(h:Ext w w'){e:Ex}{cs:List Value}(he:ExRep w e cs):ExRep w' e cs:=by
 induction he with
 | mk o n s l v css hl hc hv ho hn hs ih=>exact .mk o n s l v css hl ih (hv.ext h) ho hn hs
def jg(w:World)(e:Ex)(v:Value):Prop:=∃cs,ExRep w e cs/\v=.agg cs.toArray
theorem jg.ext{w w':World}(h:Ext w w'){e:Ex}{v:Value}:jg w e v->jg w' e v
 | ⟨cs,h1,h2⟩=>⟨cs,h1.ext h,h2⟩
def tV(w:World)(l:List Ex)(v:Value):Prop:=∃css:List (List Value),css.length=l.length/\nB w 4 v css/\∀i (h:i<l.length) (h':i<css.length),ExRep w l[i] css[i]
theorem Gb{w:World}{b o:Nat}{e:Ex}{cs:List Value}(hr:ExRep w e cs)(hc:lH w b o cs):
 ∃v,jg w e (.agg #[.int .i64 e.op,.int .i64 e.num,.string e.name,v])/\tV w e.args v/\
  w.cell? ⟨b,o,none⟩=some (.int .i64 e.op)/\w.cell? ⟨b,o+1,none⟩=some (.int .i64 e.num)/\
  w.cell? ⟨b,o+2,none⟩=some (.string e.name)/\w.cell? ⟨b,o+3,none⟩=some v:=by
 cases hr with
 | mk o' n s l v css hl hc' hv ho hn hs=>
  refine⟨v,⟨_,.mk o' n s l v css hl hc' hv ho hn hs,rfl⟩,⟨css,hl,hv,hc'⟩,?_,?_,?_,?_⟩
  .exact hc 0 _ rfl
  .exact hc 1 _ rfl
  .exact hc 2 _ rfl
  .exact hc 3 _ rfl
theorem EU{w:World}{l:List Ex}{p:Option Addr}{n cap:Nat}(h:tV w l (.slice p n cap)){j:Nat}(hj:j<l.length):
 ∃b o cs,p=some ⟨b,o,none⟩/\ExRep w l[j] cs/\lH w b (o+j*4) cs:=by
 obtain⟨css,hl,⟨p',cap',hv,h1,h2,h3⟩,hr⟩:=h;cases hv;have hj':j<css.length:=by omega
 obtain⟨b,o,g1,g2,g3⟩:=h3 j css[j] (by simp[hj']);exact⟨b,o,css[j],g1,hr j hj hj',g3⟩
theorem nW{w:World}{l:List Ex}{v:Value}(h:tV w l v):∃p cap,v=.slice p l.length cap/\l.length≤cap/\cap≤9223372036854775807:=by
 obtain⟨css,hl,⟨p,cap,hv,h1,h2,h3⟩,hr⟩:=h;exact⟨p,cap,by rw[hv,hl],by omega,h2⟩
theorem gK{w:World}{e:Ex}{v:Value}(h:jg w e v):
 ∃p cap,v=.agg #[.int .i64 e.op,.int .i64 e.num,.string e.name,.slice p e.args.length cap]/\tV w e.args (.slice p e.args.length cap)/\
  e.args.length≤cap/\cap≤9223372036854775807/\
  (-9223372036854775808≤e.op/\e.op≤9223372036854775807)/\(-9223372036854775808≤e.num/\e.num≤9223372036854775807)/\e.name.size≤9223372036854775807:=by
 obtain⟨cs,hr,rfl⟩:=h;cases hr with
 | mk o' n s l v css hl hc' hv ho hn hs=>
  obtain⟨p,cap,rfl,h1,h2⟩:=nW ⟨css,hl,hv,hc'⟩;exact⟨p,cap,rfl,⟨css,hl,hv,hc'⟩,h1,h2,ho,hn,hs⟩
theorem Fp(a b:ByteArray):(a.toList==b.toList)=decide (a=b):=by
 rw[ByteArray.toList_eq,ByteArray.toList_eq,Bool.eq_iff_iff];simp only[beq_iff_eq,decide_eq_true_eq];constructor
 .intro h;cases a;cases b;simp only[ByteArray.mk.injEq];exact Array.toList_inj.1 h
 .intro h;rw[h]
def inB(s:ByteArray)(l:List ByteArray):Bool:=l.any fun x=>decide (x=s)
theorem A6{s:ByteArray}{l:List ByteArray}:inB s l=true↔s∈l:=by simp[inB]
theorem AN{s:ByteArray}{l:List ByteArray}:inB s l=false↔s∉l:=by rw[<-A6,Bool.not_eq_true]
def fC(w:World)(l:List ByteArray)(v:Value):Prop:=
 ∃p cap,v=.slice p l.length cap/\l.length≤cap/\cap≤9223372036854775807/\
  ∀i s,l[i]? = some s->∃b off,p=some ⟨b,off,none⟩/\w.cell? ⟨b,off+i,none⟩=some (.string s)
theorem fC.ext{w w':World}(h:Ext w w'){l:List ByteArray}{v:Value}:fC w l v->fC w' l v
 | ⟨p,cap,h1,h2,h3,h4⟩=>⟨p,cap,h1,h2,h3,fun i s hi=>by obtain⟨b,off,g1,g2⟩:=h4 i s hi;exact⟨b,off,g1,h.cell g2⟩⟩
theorem IP{w:World}{l:List ByteArray}{p:Option Addr}{n cap:Nat}(h:fC w l (.slice p n cap)){j:Nat}(hj:j<l.length):
 ∃b off,p=some ⟨b,off,none⟩/\w.cell? ⟨b,off+j,none⟩=some (.string l[j]):=by
 obtain⟨p',cap',hv,h1,h2,h3⟩:=h;cases hv;exact h3 j l[j] (by simp[hj])
def iu(w:World)(l:List Int)(v:Value):Prop:=
 ∃p cap,v=.slice p l.length cap/\l.length≤cap/\cap≤9223372036854775807/\
  ∀i s,l[i]? = some s->∃b off,p=some ⟨b,off,none⟩/\w.cell? ⟨b,off+i,none⟩=some (.int .i64 s)
theorem iu.ext{w w':World}(h:Ext w w'){l:List Int}{v:Value}:iu w l v->iu w' l v
 | ⟨p,cap,h1,h2,h3,h4⟩=>⟨p,cap,h1,h2,h3,fun i s hi=>by obtain⟨b,off,g1,g2⟩:=h4 i s hi;exact⟨b,off,g1,h.cell g2⟩⟩
theorem Hp{w:World}{l:List Int}{p:Option Addr}{n cap:Nat}(h:iu w l (.slice p n cap)){j:Nat}(hj:j<l.length):
 ∃b off,p=some ⟨b,off,none⟩/\w.cell? ⟨b,off+j,none⟩=some (.int .i64 l[j]):=by
 obtain⟨p',cap',hv,h1,h2,h3⟩:=h;cases hv;exact h3 j l[j] (by simp[hj])
theorem yF(w:World)(l:List Int)(T:TypeId)(hl:l.length≤9223372036854775807):
 iu (w.alloc (.cells (l.map (Value.int .i64)).toArray T)) l (.slice (some ⟨w.heap.size,0,none⟩) l.length l.length):=by
 refine⟨_,_,rfl,Rs _,hl,fun i s hi=>⟨_,_,rfl,?_⟩⟩;simp[World.cell?_alloc_new,hi]
structure Keep(O:Nat->Prop)(w w':World):Prop where
 os:w'.os=w.os
 tape:w'.tape=w.tape
 output:w'.output=w.output
 size:w.heap.size≤w'.heap.size
 block:∀k,k<w.heap.size->¬O k->w'.heap[k]? = w.heap[k]?
theorem Keep.refl(O:Nat->Prop)(w:World):Keep O w w:=⟨rfl,rfl,rfl,Rs _,fun _ _ _=>rfl⟩
theorem Keep.trans{O O':Nat->Prop}{a b c:World}(h:Keep O a b)(k:Keep O' b c)(ho:∀x,O' x->O x\/a.heap.size≤x):Keep O a c:=
 ⟨k.os.trans h.os,k.tape.trans h.tape,k.output.trans h.output,Rv h.size k.size,fun i hi hn=>
   (k.block i (Ru hi h.size) (fun hx=>(ho i hx).elim hn (fun hx=>by omega))).trans (h.block i hi hn)⟩
theorem Keep.of_ext{O:Nat->Prop}{w w':World}(h:Ext w w'):Keep O w w':=⟨h.os,h.tape,h.output,h.size,fun k hk _=>h.block k hk⟩
theorem Keep.mono{O O':Nat->Prop}{w w':World}(h:Keep O w w')(ho:∀x,O x->O' x):Keep O' w w':=
 ⟨h.os,h.tape,h.output,h.size,fun k hk hn=>h.block k hk fun hx=>hn (ho k hx)⟩
theorem Keep.ext{O:Nat->Prop}{w0 w w':World}(h:Keep O w w')(h0:Ext w0 w)(ho:∀x,O x->w0.heap.size≤x):Ext w0 w':=
 ⟨h.os.trans h0.os,h.tape.trans h0.tape,h.output.trans h0.output,Rv h0.size h.size,fun k hk=>
   (h.block k (Ru hk h0.size) (fun hx=>by have:=ho k hx;omega)).trans (h0.block k hk)⟩
theorem Keep.cell{O:Nat->Prop}{w w':World}(h:Keep O w w'){p:Addr}{v:Value}(hn:¬O p.block)(hp:w.cell? p=some v):w'.cell? p=some v:=by
 have hb:p.block<w.heap.size:=by
  unfold World.cell? at hp;split at hp
  .rename_i h1;exact(Array.getElem?_eq_some_iff.1 h1).1
  .cases hp
 rw[World.cell?_of_block (w:=w) (h.block p.block hb hn)];exact hp
theorem Keep.heap{O:Nat->Prop}{w w':World}(h:Keep O w w'){k:Nat}{o:Obj}(hn:¬O k)(hp:w.heap[k]? = some o):w'.heap[k]? = some o:=by
 rw[h.block k (Array.getElem?_eq_some_iff.1 hp).1 hn];exact hp
theorem Keep.alloc{O:Nat->Prop}{a w:World}(h:Keep O a w)(o:Obj):Keep O a (w.alloc o):=
 h.trans (Keep.of_ext (O:=O) ((Ext.refl w).alloc o)) fun _ hx=>.inl hx
theorem Keep.setCell{O:Nat->Prop}{a w:World}(h:Keep O a w){p:Addr}(hp:O p.block\/a.heap.size≤p.block)(u:Value):Keep O a (w.setCell p u):=by
 refine⟨h.os,h.tape,h.output,Rv h.size (by simp[World.setCell]),fun k hk hn=>?_⟩;rw[Below.heap_setCell _ _ _ _ (fun e=>?_)]
 .exact h.block k hk hn
 .subst e;rcases hp with hp|hp
  .exact hn hp
  .omega
theorem Keep.grown{O:Nat->Prop}{a w w':World}{row:Option Nat}(h:Keep O a w)(hg:w.grownBy w' row)(hr:∀k,row=some k->O k\/a.heap.size≤k):Keep O a w':=
 ⟨hg.os.trans h.os,hg.tape.trans h.tape,hg.output.trans h.output,Rv h.size hg.size,fun k hk hn=>by
   rw[hg.block k (Ru hk h.size) (fun e=>?_)]
   .exact h.block k hk hn
   .rcases hr k e.symm with h'|h'
    .exact hn h'
    .omega⟩
def One(b:Nat)(T:TypeId)(v:Value)(w:World):Prop:=w.heap[b]? = some (.cells #[v] T (0,0))
theorem One.cell{b:Nat}{T:TypeId}{v:Value}{w:World}(h:One b T v w):w.cell? ⟨b,0,none⟩=some v:=by
 unfold One at h;simp[World.cell?,h]
theorem One.frozen{b:Nat}{T:TypeId}{v:Value}{w:World}(h:One b T v w):w.frozen? ⟨b,0,none⟩=false:=by
 unfold One at h;simp[World.frozen?,h]
theorem One.lt{b:Nat}{T:TypeId}{v:Value}{w:World}(h:One b T v w):b<w.heap.size:=(Array.getElem?_eq_some_iff.1 h).1
theorem One.keep{O:Nat->Prop}{w w':World}(h:Keep O w w'){b:Nat}{T:TypeId}{v:Value}(hn:¬O b)(h1:One b T v w):One b T v w':=h.heap hn h1
theorem One.set{b:Nat}{T:TypeId}{v:Value}{w:World}(h:One b T v w)(u:Value):One b T u (w.setCell ⟨b,0,none⟩ u):=by
 unfold One at h ⊢;simp[World.setCell,Array.getElem?_modify,h]
theorem One.alloc{b:Nat}{T:TypeId}{v:Value}{w:World}(h:One b T v w)(o:Obj):One b T v (w.alloc o):=by
 have:=h.lt;unfold One at h ⊢;rw[Below.heap_alloc _ _ _ this];exact h
theorem One.new(w:World)(T:TypeId)(v:Value):One w.heap.size T v (w.alloc (.cells #[v] T)):=by
 unfold One;show(w.heap.push _)[w.heap.size]? = _;simp
theorem CN(w:World)(o:Obj)(T:TypeId)(x:Value):∀j u,[x][j]? = some u->((w.alloc o).alloc (.cells #[x] T)).cell? ((⟨w.heap.size+1,0,none⟩:Addr).add j)=some u:=by
 intro j u hj;cases j with
 | zero=>
  simp at hj;subst hj;simp[Addr.add]
 | succ j=>simp at hj
theorem nJ{w:World}{base:Nat}{T:TypeId}{v:Value}{l:List ByteArray}(h:w.ownsRow base T 1 v l.length (l.map Value.string)):fC w l v:=by
 obtain⟨h1,h2⟩:=h;rcases h2 with⟨rfl,h0⟩|⟨g,cap,cur,rfl,hb,hh,hn,hc,hs,ht⟩
 .have:l=[]:=List.eq_nil_of_length_eq_zero h0;subst this;exact⟨none,0,rfl,Rs _,by omega,fun i s hi=>by simp at hi⟩
 .refine⟨_,cap,rfl,hn,hc,fun i s hi=>⟨g,0,rfl,?_⟩⟩;have hlt:i<l.length:=(List.getElem?_eq_some_iff.1 hi).1;have e1:(cur.toList.take (l.length*1))[i]? = some (.string s):=by rw[ht];simp[hi]
  rw[List.getElem?_take_of_lt (by omega)]at e1;simp[World.cell?,hh];simpa using e1
theorem wb{α:Type}[DecidableEq α]:∀{l N:List α},l.Nodup->(∀s,s∈l->s∈N)->l.length≤N.length
 | [],_,_,_=>Rw _
 | a::r,N,hn,hm=>by
  have ha:a∈N:=hm a (by simp)
  have hr:=wb (l:=r) (N:=N.erase a) (List.nodup_cons.1 hn).2 (fun s hs=>by
   have hne:s≠a:=fun e=>(List.nodup_cons.1 hn).1 (e▸hs);exact(List.mem_erase_of_ne hne).2 (hm s (by simp[hs])))
  rw[List.length_erase_of_mem ha]at hr;have:0<N.length:=List.length_pos_of_mem ha;simp only[List.length_cons];omega
mutual
def ew{σ:Type}(next:σ->Ex->σ×Bool):Ex->σ->σ×Bool
 | .mk o n s l,x=>if(next x (.mk o n s l)).2 then fo next l (next x (.mk o n s l)).1 else((next x (.mk o n s l)).1,false)
def fo{σ:Type}(next:σ->Ex->σ×Bool):List Ex->σ->σ×Bool
 | [],x=>(x,true)
 | a::r,x=>if(ew next a x).2 then fo next r (ew next a x).1 else((ew next a x).1,false)
end
structure Visits(P:Program)(w0:World)(F:FuncId)(cap:Array Value){σ:Type}(next:σ->Ex->σ×Bool)(I:(Nat->Prop)->σ->World->Prop)(Q:Ex->Prop):Prop where
 sub:∀{o n s l},Q (.mk o n s l)->∀a,a∈l->Q a
 stays:∀{O s w w'},I O s w->(∀k,O k->w'.heap[k]? = w.heap[k]?)->I O s w'
 lt:∀{O s w},I O s w->∀k,O k->w0.heap.size≤k/\k<w.heap.size
 call:∀{O s w e v},Q e->Ext w0 w->I O s w->jg w0 e v->
  Calls P F (#[v]++cap) w fun en w'=>en=.returned (.bool (next s e).2)/\∃O',I O' (next s e).1 w'/\(∀k,O' k->O k\/w.heap.size≤k)/\Keep O w w'
section
variable {P : Program}
theorem wZ(w:World)(t ty e:TypeId)(i:TypeInfo)(z:Value)(size bytes:Nat)(ht:P.underlying t=some (.slice e))(hi:P.info? e=some i)(hz:i.zero=some z)
 (hsize:i.size=size)(hby:i.bytes=bytes)(hzs:z.cells.size=size)(hsz:0<size)
 (v:Value)(n:Nat)(xs:List Value)(hown:w.ownsRow 0 e size v n xs)
 (a:Addr)(m c:Nat)(news:List Value)(hl:news.length=m*size)(hnews:∀j u,news[j]? = some u->w.cell? (a.add j)=some u)(h1:∀u∈news,u.oneCell'=true)
 (h63:n+m≤maxLen)(hbytes:(n+m)*bytes≤140737488355328)(hm:0<m):
 ∃v' w',(Builtin.append_ #[t,t] ty #[v,.slice (some a) m c]).run P w=.ok v' w'/\w'.ownsRow 0 e size v' (n+m) (xs++news)/\w.grownBy w' v.ownBlock/\
  ∃g cap,v'=.slice (some ⟨g,0,none⟩) (n+m) cap/\(v.ownBlock=some g\/w.heap.size≤g):=by
 obtain⟨v',w',hr,h2,h3,h4⟩:=run_append_own (P:=P) w 0 t ty e i z size bytes ht hi hz hsize hby hzs hsz v n xs hown a m c news hl hnews h1 h63 hbytes (Rw _);refine⟨v',w',hr,h2,h3,?_⟩;subst hsize;subst hby;rcases hown.2 with⟨rfl,rfl⟩|⟨g,cap,cur,rfl,hbg,hg,hnc,hcm,hcs,htake⟩
 .have hr2:=run_append_nil (P:=P) w t ty e i z ht hi hz a m c news hl hnews hm (by simp only[maxLen]at h63;omega) (by have hb:=hbytes;simp only[Rx]at hb;omega);rw[hr]at hr2;injection hr2 with e1 e2
  exact⟨w.heap.size,_,by rw[e1,Rx],.inr (Rs _)⟩
 .by_cases hroom:n+m≤cap
  .have hfit:n*i.size+news.length≤cur.size:=by rw[hl,hcs,<-Nat.add_mul];exact Nat.mul_le_mul_right _ hroom
   have hr2:=run_append_room (P:=P) w t ty e i ht hi g n cap cur hg a m c news hl hnews h1 hroom hfit;rw[hr]at hr2;injection hr2 with e1 e2
   exact⟨g,_,e1,.inl rfl⟩
  .have hr2:=run_append_grow (P:=P) w t ty e i z ht hi hz ⟨g,0,none⟩ n cap xs hown.1 (hown.cells (g:=g) rfl) a m c news hl hnews (by omega) (by simp only[maxLen]at h63;omega) (growslice_fits (by omega) hbytes);rw[hr]at hr2;injection hr2 with e1 e2
   exact⟨w.heap.size,_,e1,.inr (Rs _)⟩
structure Grew(w:World)(e:TypeId)(size:Nat)(v:Value)(n:Nat)(xs:List Value)(g cap:Nat)(w':World):Prop where
 row:w'.ownsRow 0 e size (.slice (some ⟨g,0,none⟩) n cap) n xs
 grown:w.grownBy w' v.ownBlock
 new:v.ownBlock=some g\/w.heap.size≤g
theorem rm(w:World){ops:Array Oper}{rest:List Oper}{o:Oper}{a:Act}{Q:Exit->Act->World->Prop}(hgd:o.guard=none)(s x:Operand)(t:TypeId)
 (ho:o.op=.call {callee:=.builtin .append,args := #[s,x],argTypes := #[t,t]})
 (e:TypeId)(i:TypeInfo)(z:Value)(size bytes:Nat)(ht:P.underlying t=some (.slice e))(hi:P.info? e=some i)(hz:i.zero=some z)
 (hsize:i.size=size)(hby:i.bytes=bytes)(hzs:z.cells.size=size)(hsz:0<size)
 (v:Value)(n:Nat)(xs:List Value)(hs:a.eval s=v)(hown:w.ownsRow 0 e size v n xs)
 (ad:Addr)(m c:Nat)(news:List Value)(hx:a.eval x=.slice (some ad) m c)(hl:news.length=m*size)(hnews:∀j u,news[j]? = some u->w.cell? (ad.add j)=some u)(h1:∀u∈news,u.oneCell'=true)
 (h63:n+m≤maxLen)(hbytes:(n+m)*bytes≤140737488355328)(hm:0<m)
 (h:∀g cap w',Grew w e size v (n+m) (xs++news) g cap w'->wpList P ops Q rest (a.put o.dst (.slice (some ⟨g,0,none⟩) (n+m) cap)) w'):wpList P ops Q (o::rest) a w:=by
 refine wpList_plain hgd fun K hK=>?_;obtain⟨v',w',hr,h2,h3,g,cap,rfl,h5⟩:=wZ (P:=P) w t o.type e i z size bytes ht hi hz hsize hby hzs hsz v n xs hown ad m c news hl hnews h1 h63 hbytes hm;unfold Oper.wp execOp;simp only[ho,resolve,invoke,builtin,Sem.run_bind,Sem.run_pure,Result.andThen_ok,List.map_toArray,List.map_cons,List.map_nil,hs,hx,hr];exact hK _ _ (h g cap w' ⟨h2,h3,h5⟩)
end
end Go.Proofs.YthekkgfmagliiaaGreatDoor
namespace Go.Proofs.YthekkgfmagliiaaGreatDoor
open Go.RowKit
mutual
def eu:Ex->Nat
 | .mk _ _ _ l=>dU l+1
def dU:List Ex->Nat
 | []=>0
 | a::r=>max (eu a) (dU r)
end
theorem xb{l:List Ex}{a:Ex}(h:a∈l):eu a≤dU l:=by
 induction l with
 | nil=>cases h
 | cons b r ih=>
  simp only[dU];rcases List.mem_cons.1 h with h|h
  .subst h;omega
  .have:=ih h;omega
theorem BE(e:Ex):∀(v:Value) (w:World),eu e≤1000000->jg w e v->
 Calls Tryz.prog 130 #[v] w fun en w'=>en=.returned (.int .i64 (eu e))/\Ext w w':=by
 induction e using Ex.ind with
 | h o m s l ih=>
  intro v w hd hv;obtain⟨p,cap,rfl,hl,h1,h2,-,-,-⟩:=gK hv;simp only[Ex.op,Ex.num,Ex.name,Ex.args]at *;have hd':dU l<1000000:=by simp only[eu]at hd;omega
  have hq:eu (.mk o m s l)=dU l+1:=by simp only[eu]
  generalize eu (.mk o m s l)=R at *;have HQ:=Lib.hid hq;clear hq;clear hd;have HL:=Lib.hid hl;clear hl;have HV:=Lib.hid hv;clear hv;have IH:=Lib.hid ih;clear ih;go_enter Tryz.func130,Tryz.ntmps130;go_wp2_with fail;go_loopw [3,9,5] (fun d i _ wr=>∃(dd j:Nat),d=.int .i64 dd/\i=.int .i64 j/\j≤l.length/\max dd (dU (l.drop j))=dU l/\Ext w wr) (fun _ i _ _=>l.length-(intOf i).toNat);case atStart=>exact⟨0,0,rfl,rfl,Rw _,by simp,(Ext.refl w).alloc _⟩
  case round=>
   obtain⟨dd,j,rfl,rfl,hj,hrec,hext⟩:=hrel;have hdd:(dd:Int)<1000000:=by omega
   have HR:=Lib.hid hrec;clear hrec;have HX:=Lib.hid hext;clear hext;by_cases hlt:j<l.length
   .obtain⟨b,off,cs,rfl,hr,hc⟩:=EU HL.out hlt;obtain⟨sv,gv,gl,q2,q3,q4,q5⟩:=Gb hr hc;obtain⟨p',cp',rfl,-,-⟩:=nW gl;have r2:=HX.out.cell q2;have r3:=HX.out.cell q3;have r4:=HX.out.cell q4;have r5:=HX.out.cell q5;clear q2 q3 q4 q5 hr hc gl;have GV:=Lib.hid gv;clear gv;have hle:=xb (List.getElem_mem hlt);go_wp2_with fail;refine(IH.out l[j] (by simp) _ _ (by omega) (GV.out.ext (HX.out.alloc _))).mono ?_;rintro e w' ⟨rfl,hx⟩;have HY:=Lib.hid hx;clear hx;go_wp2_with fail;go_roundw
    case rel=>
     refine⟨max dd (eu l[j]),j+1,?_,by go_num,by omega,?_,(HX.out.alloc _).trans HY.out⟩
     .congr 1;omega
     .rw[<-HR.out,List.drop_eq_getElem_cons hlt];simp only[dU];omega
    case measure=>simp[intOf];omega
   .have:j=l.length:=by omega
    subst this;go_wp2_with fail;go_ret;have h9:=HR.out;simp only[List.drop_length,dU,Nat.max_zero]at h9;exact⟨dX (by rw[HQ.out,<-h9];rfl),HX.out⟩
theorem BI{w:World}{a:Addr}{v:Value}(h:w.cell? a=some v):a.spot=none:=by
 unfold World.cell? at h;split at h
 .split at h
  .cases h
  .rename_i hs;simpa using hs
 .cases h
instance:Inhabited Ex:=⟨.mk 0 0 ⟨#[]⟩ []⟩
end Go.Proofs.YthekkgfmagliiaaGreatDoor
