import Derived.WalkKit
import Derived.Lib.Hide
import Derived.Deep.Draws
import Derived.OwnWalk
import Derived.WalkSpells
import Derived.Outline
import Derived.WalkLawsBesides
import Derived.ProofKit
import Derived.Deep.Slices
import Derived.Deep.QuietTactic
import Derived.BigQuiet
import Derived.Lib.Strings
import Derived.Test.YtnhphlmblenapaaGreatDoorRows
set_option linter.unusedVariables false
set_option linter.unusedSimpArgs false
set_option linter.unusedSectionVars false
set_option maxRecDepth 100000
open Bool renaming eq_iff_iff->Sq,and_eq_true->Ss
open List renaming drop_eq_getElem_cons->Su,eq_nil_of_length_eq_zero->Sv,getElem_mem->Sw,length_nil->Sx,mem_cons->Sy
open Nat renaming zero_le->SA,le_refl->SB,lt_of_lt_of_le->SC,le_trans->SD,zero_add->SE
namespace Go.Proofs.YtnhphlmblenapaaGreatDoor
open Go.RowKit
inductive Ex where
 | mk (op n:Int) (name:ByteArray) (args:List Ex)
namespace Ex
def op:Ex->Int|mk o _ _ _=>o
def num:Ex->Int|mk _ n _ _=>n
def name:Ex->ByteArray|mk _ _ s _=>s
def args:Ex->List Ex|mk _ _ _ l=>l
end Ex
mutual
theorem Ex.ind{P:Ex->Prop}(h:∀o n s l,(∀a,a∈l->P a)->P (.mk o n s l)):∀e,P e
 | .mk o n s l=>h o n s l (Ex.inds h l)
theorem Ex.inds{P:Ex->Prop}(h:∀o n s l,(∀a,a∈l->P a)->P (.mk o n s l)):∀l:List Ex,∀a,a∈l->P a
 | [],_,ha=>nomatch ha
 | b::r,a,ha=>by
  rcases List.mem_cons.1 ha with e|e
  .rw[e];exact Ex.ind h b
  .exact Ex.inds h r a e
end
theorem cq{k:IntKind}{a b:Int}(h:a=b):Ending.returned (.int k a)=.returned (.int k b):=by rw[h]
theorem aV{a b:Bool}(h:a=b):Ending.returned (.bool a)=.returned (.bool b):=by rw[h]
def Ext(w w':World):Prop:=Below w.heap.size w w'
theorem Ext.refl(w:World):Ext w w:=Below.refl _ _
theorem Ext.trans{a b c:World}(h:Ext a b)(k:Ext b c):Ext a c:=Below.trans h (Below.mono k h.size)
theorem Ext.cell{w w':World}(h:Ext w w'){p:Addr}{v:Value}(hp:w.cell? p=some v):w'.cell? p=some v:=by
 have hb:p.block<w.heap.size:=by
  unfold World.cell? at hp;split at hp
  .rename_i h1;exact(Array.getElem?_eq_some_iff.1 h1).1
  .cases hp
 rw[Below.cell h hb];exact hp
theorem Ext.alloc{a w:World}(h:Ext a w)(o:Obj):Ext a (w.alloc o):=Below.alloc h h.size o
theorem Ext.drewN{a w:World}(h:Ext a w)(n:Nat):Ext a (w.drewN n):=⟨h.os,h.tape,h.output,h.size,h.block⟩
theorem Ext.drew{a w:World}(h:Ext a w):Ext a w.drew:=Below.drew h
theorem Ext.box4{w w':World}{T:TypeId}{a b c d:Value}(h:Ext (w.alloc (.cells #[a,b,c,d] T)) w'):
 w'.cell? ⟨w.heap.size,0,none⟩=some a/\w'.cell? ⟨w.heap.size,1,none⟩=some b/\w'.cell? ⟨w.heap.size,2,none⟩=some c/\w'.cell? ⟨w.heap.size,3,none⟩=some d:=
 ⟨h.cell (by simp[World.cell?_alloc_new]),h.cell (by simp[World.cell?_alloc_new]),h.cell (by simp[World.cell?_alloc_new]),h.cell (by simp[World.cell?_alloc_new])⟩
theorem Ext.past{w w':World}{o:Obj}(h:Ext (w.alloc o) w'):Ext w w':=((Ext.refl w).alloc o).trans h
def ll(w:World)(b off:Nat)(cs:List Value):Prop:=∀j v,cs[j]? = some v->w.cell? ⟨b,off+j,none⟩=some v
def nt(w:World)(size:Nat)(v:Value)(css:List (List Value)):Prop:=
 ∃p cap,v=.slice p css.length cap/\css.length≤cap/\cap≤maxLen/\
  ∀i cs,css[i]? = some cs->∃b off,p=some ⟨b,off,none⟩/\cs.length=size/\ll w b (off+i*size) cs
theorem ll.ext{w w':World}(h:Ext w w'){b off:Nat}{cs:List Value}(hc:ll w b off cs):ll w' b off cs:=
 fun j v hj=>h.cell (hc j v hj)
theorem nt.ext{w w':World}(h:Ext w w'){size:Nat}{v:Value}{css:List (List Value)}(hs:nt w size v css):nt w' size v css:=by
 obtain⟨p,cap,h1,h2,h3,h4⟩:=hs;refine⟨p,cap,h1,h2,h3,fun i cs hi=>?_⟩;obtain⟨b,off,g1,g2,g3⟩:=h4 i cs hi;exact⟨b,off,g1,g2,g3.ext h⟩
inductive ExRep(w:World):Ex->List Value->Prop
 | mk (o n:Int) (s:ByteArray) (l:List Ex) (v:Value) (css:List (List Value)) (hl:css.length=l.length)
  (hc:∀i (h:i<l.length) (h':i<css.length),ExRep w l[i] css[i]) (hv:nt w 4 v css)
  (ho : -9223372036854775808≤o/\o≤9223372036854775807) (hn : -9223372036854775808≤n/\n≤9223372036854775807) (hs:s.size≤maxLen):
  ExRep w (.mk o n s l) [.int .i64 o,.int .i64 n,.string s,v]
theorem ExRep.ext{w w':World}(h:Ext w w'){e:Ex}{cs:List Value}(he:ExRep w e cs):ExRep w' e cs:=by
 induction he with
 | mk o n s l v css hl hc hv ho hn hs ih=>exact .mk o n s l v css hl ih (hv.ext h) ho hn hs
def il(w:World)(e:Ex)(v:Value):Prop:=∃cs,ExRep w e cs/\v=.agg cs.toArray
theorem il.ext{w w':World}(h:Ext w w'){e:Ex}{v:Value}:il w e v->il w' e v
 | ⟨cs,h1,h2⟩=>⟨cs,h1.ext h,h2⟩
def tJ(w:World)(l:List Ex)(v:Value):Prop:=∃css:List (List Value),css.length=l.length/\nt w 4 v css/\∀i (h:i<l.length) (h':i<css.length),ExRep w l[i] css[i]
theorem xh{w:World}{b o:Nat}{e:Ex}{cs:List Value}(hr:ExRep w e cs)(hc:ll w b o cs):
 ∃v,il w e (.agg #[.int .i64 e.op,.int .i64 e.num,.string e.name,v])/\tJ w e.args v/\
  w.cell? ⟨b,o,none⟩=some (.int .i64 e.op)/\w.cell? ⟨b,o+1,none⟩=some (.int .i64 e.num)/\
  w.cell? ⟨b,o+2,none⟩=some (.string e.name)/\w.cell? ⟨b,o+3,none⟩=some v:=by
 cases hr with
 | mk o' n s l v css hl hc' hv ho hn hs=>
  refine⟨v,⟨_,.mk o' n s l v css hl hc' hv ho hn hs,rfl⟩,⟨css,hl,hv,hc'⟩,?_,?_,?_,?_⟩
  .exact hc 0 _ rfl
  .exact hc 1 _ rfl
  .exact hc 2 _ rfl
  .exact hc 3 _ rfl
theorem yA{w:World}{l:List Ex}{p:Option Addr}{n cap:Nat}(h:tJ w l (.slice p n cap)){j:Nat}(hj:j<l.length):
 ∃b o cs,p=some ⟨b,o,none⟩/\ExRep w l[j] cs/\ll w b (o+j*4) cs:=by
 obtain⟨css,hl,⟨p',cap',hv,h1,h2,h3⟩,hr⟩:=h;cases hv;have hj':j<css.length:=by omega
 obtain⟨b,o,g1,g2,g3⟩:=h3 j css[j] (by simp[hj']);exact⟨b,o,css[j],g1,hr j hj hj',g3⟩
theorem lr{w:World}{l:List Ex}{v:Value}(h:tJ w l v):∃p cap,v=.slice p l.length cap/\l.length≤cap/\cap≤9223372036854775807:=by
 obtain⟨css,hl,⟨p,cap,hv,h1,h2,h3⟩,hr⟩:=h;exact⟨p,cap,by rw[hv,hl],by omega,h2⟩
theorem gn{w:World}{e:Ex}{v:Value}(h:il w e v):
 ∃p cap,v=.agg #[.int .i64 e.op,.int .i64 e.num,.string e.name,.slice p e.args.length cap]/\tJ w e.args (.slice p e.args.length cap)/\
  e.args.length≤cap/\cap≤9223372036854775807/\
  (-9223372036854775808≤e.op/\e.op≤9223372036854775807)/\(-9223372036854775808≤e.num/\e.num≤9223372036854775807)/\e.name.size≤9223372036854775807:=by
 obtain⟨cs,hr,rfl⟩:=h;cases hr with
 | mk o' n s l v css hl hc' hv ho hn hs=>
  obtain⟨p,cap,rfl,h1,h2⟩:=lr ⟨css,hl,hv,hc'⟩;exact⟨p,cap,rfl,⟨css,hl,hv,hc'⟩,h1,h2,ho,hn,hs⟩
theorem oa(a b:ByteArray):(a.toList==b.toList)=decide (a=b):=by
 rw[ByteArray.toList_eq,ByteArray.toList_eq,Sq];simp only[beq_iff_eq,decide_eq_true_eq];constructor
 .intro h;cases a;cases b;simp only[ByteArray.mk.injEq];exact Array.toList_inj.1 h
 .intro h;rw[h]
def inB(s:ByteArray)(l:List ByteArray):Bool:=l.any fun x=>decide (x=s)
theorem px{s:ByteArray}{l:List ByteArray}:inB s l=true↔s∈l:=by simp[inB]
theorem ph{s:ByteArray}{l:List ByteArray}:inB s l=false↔s∉l:=by rw[<-px,Bool.not_eq_true]
def dm(w:World)(l:List ByteArray)(v:Value):Prop:=
 ∃p cap,v=.slice p l.length cap/\l.length≤cap/\cap≤9223372036854775807/\
  ∀i s,l[i]? = some s->∃b off,p=some ⟨b,off,none⟩/\w.cell? ⟨b,off+i,none⟩=some (.string s)
theorem dm.ext{w w':World}(h:Ext w w'){l:List ByteArray}{v:Value}:dm w l v->dm w' l v
 | ⟨p,cap,h1,h2,h3,h4⟩=>⟨p,cap,h1,h2,h3,fun i s hi=>by obtain⟨b,off,g1,g2⟩:=h4 i s hi;exact⟨b,off,g1,h.cell g2⟩⟩
theorem ul{w:World}{l:List ByteArray}{p:Option Addr}{n cap:Nat}(h:dm w l (.slice p n cap)){j:Nat}(hj:j<l.length):
 ∃b off,p=some ⟨b,off,none⟩/\w.cell? ⟨b,off+j,none⟩=some (.string l[j]):=by
 obtain⟨p',cap',hv,h1,h2,h3⟩:=h;cases hv;exact h3 j l[j] (by simp[hj])
theorem xW(w:World)(l:List ByteArray)(T:TypeId)(hl:l.length≤9223372036854775807):
 dm (w.alloc (.cells (l.map Value.string).toArray T)) l (.slice (some ⟨w.heap.size,0,none⟩) l.length l.length):=by
 refine⟨_,_,rfl,SB _,hl,fun i s hi=>⟨_,_,rfl,?_⟩⟩;simp[World.cell?_alloc_new,hi]
def H8(l:List ByteArray)(w:World)(e:Ending)(w':World):Prop:=∃v,e=.returned v/\dm w' l v/\Ext w w'
structure Keep(O:Nat->Prop)(w w':World):Prop where
 os:w'.os=w.os
 tape:w'.tape=w.tape
 output:w'.output=w.output
 size:w.heap.size≤w'.heap.size
 block:∀k,k<w.heap.size->¬O k->w'.heap[k]? = w.heap[k]?
theorem Keep.refl(O:Nat->Prop)(w:World):Keep O w w:=⟨rfl,rfl,rfl,SB _,fun _ _ _=>rfl⟩
theorem Keep.trans{O O':Nat->Prop}{a b c:World}(h:Keep O a b)(k:Keep O' b c)(ho:∀x,O' x->O x\/a.heap.size≤x):Keep O a c:=
 ⟨k.os.trans h.os,k.tape.trans h.tape,k.output.trans h.output,SD h.size k.size,fun i hi hn=>
   (k.block i (SC hi h.size) (fun hx=>(ho i hx).elim hn (fun hx=>by omega))).trans (h.block i hi hn)⟩
theorem Keep.of_ext{O:Nat->Prop}{w w':World}(h:Ext w w'):Keep O w w':=⟨h.os,h.tape,h.output,h.size,fun k hk _=>h.block k hk⟩
theorem Keep.mono{O O':Nat->Prop}{w w':World}(h:Keep O w w')(ho:∀x,O x->O' x):Keep O' w w':=
 ⟨h.os,h.tape,h.output,h.size,fun k hk hn=>h.block k hk fun hx=>hn (ho k hx)⟩
theorem Keep.ext{O:Nat->Prop}{w0 w w':World}(h:Keep O w w')(h0:Ext w0 w)(ho:∀x,O x->w0.heap.size≤x):Ext w0 w':=
 ⟨h.os.trans h0.os,h.tape.trans h0.tape,h.output.trans h0.output,SD h0.size h.size,fun k hk=>
   (h.block k (SC hk h0.size) (fun hx=>by have:=ho k hx;omega)).trans (h0.block k hk)⟩
theorem Keep.cell{O:Nat->Prop}{w w':World}(h:Keep O w w'){p:Addr}{v:Value}(hn:¬O p.block)(hp:w.cell? p=some v):w'.cell? p=some v:=by
 have hb:p.block<w.heap.size:=by
  unfold World.cell? at hp;split at hp
  .rename_i h1;exact(Array.getElem?_eq_some_iff.1 h1).1
  .cases hp
 rw[World.cell?_of_block (w:=w) (h.block p.block hb hn)];exact hp
theorem Keep.heap{O:Nat->Prop}{w w':World}(h:Keep O w w'){k:Nat}{o:Obj}(hn:¬O k)(hp:w.heap[k]? = some o):w'.heap[k]? = some o:=by
 rw[h.block k (Array.getElem?_eq_some_iff.1 hp).1 hn];exact hp
theorem Keep.alloc{O:Nat->Prop}{a w:World}(h:Keep O a w)(o:Obj):Keep O a (w.alloc o):=
 h.trans (Keep.of_ext (O:=O) ((Ext.refl w).alloc o)) fun _ hx=>.inl hx
theorem Keep.drewN{O:Nat->Prop}{a w:World}(h:Keep O a w)(n:Nat):Keep O a (w.drewN n):=⟨h.os,h.tape,h.output,h.size,h.block⟩
theorem Keep.setCell{O:Nat->Prop}{a w:World}(h:Keep O a w){p:Addr}(hp:O p.block\/a.heap.size≤p.block)(u:Value):Keep O a (w.setCell p u):=by
 refine⟨h.os,h.tape,h.output,SD h.size (by simp[World.setCell]),fun k hk hn=>?_⟩;rw[Below.heap_setCell _ _ _ _ (fun e=>?_)]
 .exact h.block k hk hn
 .subst e;rcases hp with hp|hp
  .exact hn hp
  .omega
theorem Keep.grown{O:Nat->Prop}{a w w':World}{row:Option Nat}(h:Keep O a w)(hg:w.grownBy w' row)(hr:∀k,row=some k->O k\/a.heap.size≤k):Keep O a w':=
 ⟨hg.os.trans h.os,hg.tape.trans h.tape,hg.output.trans h.output,SD h.size hg.size,fun k hk hn=>by
   rw[hg.block k (SC hk h.size) (fun e=>?_)]
   .exact h.block k hk hn
   .rcases hr k e.symm with h'|h'
    .exact hn h'
    .omega⟩
def One(b:Nat)(T:TypeId)(v:Value)(w:World):Prop:=w.heap[b]? = some (.cells #[v] T (0,0))
theorem One.cell{b:Nat}{T:TypeId}{v:Value}{w:World}(h:One b T v w):w.cell? ⟨b,0,none⟩=some v:=by
 unfold One at h;simp[World.cell?,h]
theorem One.frozen{b:Nat}{T:TypeId}{v:Value}{w:World}(h:One b T v w):w.frozen? ⟨b,0,none⟩=false:=by
 unfold One at h;simp[World.frozen?,h]
theorem One.lt{b:Nat}{T:TypeId}{v:Value}{w:World}(h:One b T v w):b<w.heap.size:=(Array.getElem?_eq_some_iff.1 h).1
theorem One.keep{O:Nat->Prop}{w w':World}(h:Keep O w w'){b:Nat}{T:TypeId}{v:Value}(hn:¬O b)(h1:One b T v w):One b T v w':=h.heap hn h1
theorem One.set{b:Nat}{T:TypeId}{v:Value}{w:World}(h:One b T v w)(u:Value):One b T u (w.setCell ⟨b,0,none⟩ u):=by
 unfold One at h ⊢;simp[World.setCell,Array.getElem?_modify,h]
theorem One.alloc{b:Nat}{T:TypeId}{v:Value}{w:World}(h:One b T v w)(o:Obj):One b T v (w.alloc o):=by
 have:=h.lt;unfold One at h ⊢;rw[Below.heap_alloc _ _ _ this];exact h
theorem One.new(w:World)(T:TypeId)(v:Value):One w.heap.size T v (w.alloc (.cells #[v] T)):=by
 unfold One;show(w.heap.push _)[w.heap.size]? = _;simp
theorem _root_.Go.World.ownsRow.drewN{w:World}{base:Nat}{e:TypeId}{size:Nat}{v:Value}{n:Nat}{xs:List Value}(h:w.ownsRow base e size v n xs)(k:Nat):(w.drewN k).ownsRow base e size v n xs:=h
theorem j7{P:Program}{f:FuncId}{args:Array Value}{w:World}{n:Nat}{v:Value}(h:Calls P f args (w.drewN n) fun e w'=>e=.returned v/\w.drewN n=w'):
 Calls P f args (w.drewN n) fun e w''=>e=.returned v/\∃m,w''=w.drewN m:=h.mono fun _ _ h=>⟨h.1,n,h.2.symm⟩
theorem m7{w:World}{base:Nat}{T:TypeId}{v:Value}{l:List ByteArray}(h:w.ownsRow base T 1 v l.length (l.map Value.string)):dm w l v:=by
 obtain⟨h1,h2⟩:=h;rcases h2 with⟨rfl,h0⟩|⟨g,cap,cur,rfl,hb,hh,hn,hc,hs,ht⟩
 .have:l=[]:=Sv h0;subst this;exact⟨none,0,rfl,SB _,by omega,fun i s hi=>by simp at hi⟩
 .refine⟨_,cap,rfl,hn,hc,fun i s hi=>⟨g,0,rfl,?_⟩⟩;have hlt:i<l.length:=(List.getElem?_eq_some_iff.1 hi).1;have e1:(cur.toList.take (l.length*1))[i]? = some (.string s):=by rw[ht];simp[hi]
  rw[List.getElem?_take_of_lt (by omega)]at e1;simp[World.cell?,hh];simpa using e1
theorem pX{α:Type}[DecidableEq α]:∀{l N:List α},l.Nodup->(∀s,s∈l->s∈N)->l.length≤N.length
 | [],_,_,_=>SA _
 | a::r,N,hn,hm=>by
  have ha:a∈N:=hm a (by simp)
  have hr:=pX (l:=r) (N:=N.erase a) (List.nodup_cons.1 hn).2 (fun s hs=>by
   have hne:s≠a:=fun e=>(List.nodup_cons.1 hn).1 (e▸hs);exact(List.mem_erase_of_ne hne).2 (hm s (by simp[hs])))
  rw[List.length_erase_of_mem ha]at hr;have:0<N.length:=List.length_pos_of_mem ha;simp only[List.length_cons];omega
mutual
def fh{σ:Type}(next:σ->Ex->σ×Bool):Ex->σ->σ×Bool
 | .mk o n s l,x=>if(next x (.mk o n s l)).2 then fI next l (next x (.mk o n s l)).1 else((next x (.mk o n s l)).1,false)
def fI{σ:Type}(next:σ->Ex->σ×Bool):List Ex->σ->σ×Bool
 | [],x=>(x,true)
 | a::r,x=>if(fh next a x).2 then fI next r (fh next a x).1 else((fh next a x).1,false)
end
structure Visits(P:Program)(w0:World)(F:FuncId)(cap:Array Value){σ:Type}(next:σ->Ex->σ×Bool)(I:(Nat->Prop)->σ->World->Prop)(Q:Ex->Prop):Prop where
 sub:∀{o n s l},Q (.mk o n s l)->∀a,a∈l->Q a
 stays:∀{O s w w'},I O s w->(∀k,O k->w'.heap[k]? = w.heap[k]?)->I O s w'
 lt:∀{O s w},I O s w->∀k,O k->w0.heap.size≤k/\k<w.heap.size
 call:∀{O s w e v},Q e->Ext w0 w->I O s w->il w0 e v->
  Calls P F (#[v]++cap) w fun en w'=>en=.returned (.bool (next s e).2)/\∃O',I O' (next s e).1 w'/\(∀k,O' k->O k\/w.heap.size≤k)/\Keep O w w'
section
variable {P : Program}
theorem vj(w:World)(t ty e:TypeId)(i:TypeInfo)(z:Value)(size bytes:Nat)(ht:P.underlying t=some (.slice e))(hi:P.info? e=some i)(hz:i.zero=some z)
 (hsize:i.size=size)(hby:i.bytes=bytes)(hzs:z.cells.size=size)(hsz:0<size)
 (v:Value)(n:Nat)(xs:List Value)(hown:w.ownsRow 0 e size v n xs)
 (a:Addr)(m c:Nat)(news:List Value)(hl:news.length=m*size)(hnews:∀j u,news[j]? = some u->w.cell? (a.add j)=some u)(h1:∀u∈news,u.oneCell'=true)
 (h63:n+m≤maxLen)(hbytes:(n+m)*bytes≤140737488355328)(hm:0<m):
 ∃v' w',(Builtin.append_ #[t,t] ty #[v,.slice (some a) m c]).run P w=.ok v' w'/\w'.ownsRow 0 e size v' (n+m) (xs++news)/\w.grownBy w' v.ownBlock/\
  ∃g cap,v'=.slice (some ⟨g,0,none⟩) (n+m) cap/\(v.ownBlock=some g\/w.heap.size≤g):=by
 obtain⟨v',w',hr,h2,h3,h4⟩:=run_append_own (P:=P) w 0 t ty e i z size bytes ht hi hz hsize hby hzs hsz v n xs hown a m c news hl hnews h1 h63 hbytes (SA _);refine⟨v',w',hr,h2,h3,?_⟩;subst hsize;subst hby;rcases hown.2 with⟨rfl,rfl⟩|⟨g,cap,cur,rfl,hbg,hg,hnc,hcm,hcs,htake⟩
 .have hr2:=run_append_nil (P:=P) w t ty e i z ht hi hz a m c news hl hnews hm (by simp only[maxLen]at h63;omega) (by have hb:=hbytes;simp only[SE]at hb;omega);rw[hr]at hr2;injection hr2 with e1 e2
  exact⟨w.heap.size,_,by rw[e1,SE],.inr (SB _)⟩
 .by_cases hroom:n+m≤cap
  .have hfit:n*i.size+news.length≤cur.size:=by rw[hl,hcs,<-Nat.add_mul];exact Nat.mul_le_mul_right _ hroom
   have hr2:=run_append_room (P:=P) w t ty e i ht hi g n cap cur hg a m c news hl hnews h1 hroom hfit;rw[hr]at hr2;injection hr2 with e1 e2
   exact⟨g,_,e1,.inl rfl⟩
  .have hr2:=run_append_grow (P:=P) w t ty e i z ht hi hz ⟨g,0,none⟩ n cap xs hown.1 (hown.cells (g:=g) rfl) a m c news hl hnews (by omega) (by simp only[maxLen]at h63;omega) (growslice_fits (by omega) hbytes);rw[hr]at hr2;injection hr2 with e1 e2
   exact⟨w.heap.size,_,e1,.inr (SB _)⟩
structure Grew(w:World)(e:TypeId)(size:Nat)(v:Value)(n:Nat)(xs:List Value)(g cap:Nat)(w':World):Prop where
 row:w'.ownsRow 0 e size (.slice (some ⟨g,0,none⟩) n cap) n xs
 grown:w.grownBy w' v.ownBlock
 new:v.ownBlock=some g\/w.heap.size≤g
end
end Go.Proofs.YtnhphlmblenapaaGreatDoor
namespace Go.Proofs.YtnhphlmblenapaaGreatDoor
open Go.RowKit
mutual
def bZ:Ex->Nat
 | .mk _ _ _ l=>cX l+1
def cX:List Ex->Nat
 | []=>0
 | a::r=>max (bZ a) (cX r)
end
theorem oD{l:List Ex}{a:Ex}(h:a∈l):bZ a≤cX l:=by
 induction l with
 | nil=>cases h
 | cons b r ih=>
  simp only[cX];rcases List.mem_cons.1 h with h|h
  .subst h;omega
  .have:=ih h;omega
theorem B1(e:Ex):∀(v:Value) (w:World),bZ e≤1200000->il w e v->
 Calls Tryz.prog 183 #[v] w fun en w'=>en=.returned (.int .i64 (bZ e))/\Ext w w':=by
 induction e using Ex.ind with
 | h o m s l ih=>
  intro v w hd hv;obtain⟨p,cap,rfl,hl,h1,h2,-,-,-⟩:=gn hv;simp only[Ex.op,Ex.num,Ex.name,Ex.args]at *;have hd':cX l<1200000:=by simp only[bZ]at hd;omega
  have hq:bZ (.mk o m s l)=cX l+1:=by simp only[bZ]
  generalize bZ (.mk o m s l)=R at *;have HQ:=Lib.hid hq;clear hq;clear hd;have HL:=Lib.hid hl;clear hl;have HV:=Lib.hid hv;clear hv;have IH:=Lib.hid ih;clear ih;go_enter Tryz.func183,Tryz.ntmps183;go_wp2_with fail;go_loopw [3,9,5] (fun d i _ wr=>∃(dd j:Nat),d=.int .i64 dd/\i=.int .i64 j/\j≤l.length/\max dd (cX (l.drop j))=cX l/\Ext w wr) (fun _ i _ _=>l.length-(intOf i).toNat);case atStart=>exact⟨0,0,rfl,rfl,SA _,by simp,(Ext.refl w).alloc _⟩
  case round=>
   obtain⟨dd,j,rfl,rfl,hj,hrec,hext⟩:=hrel;have hdd:(dd:Int)<1200000:=by omega
   have HR:=Lib.hid hrec;clear hrec;have HX:=Lib.hid hext;clear hext;by_cases hlt:j<l.length
   .obtain⟨b,off,cs,rfl,hr,hc⟩:=yA HL.out hlt;obtain⟨sv,gv,gl,q2,q3,q4,q5⟩:=xh hr hc;obtain⟨p',cp',rfl,-,-⟩:=lr gl;have r2:=HX.out.cell q2;have r3:=HX.out.cell q3;have r4:=HX.out.cell q4;have r5:=HX.out.cell q5;clear q2 q3 q4 q5 hr hc gl;have GV:=Lib.hid gv;clear gv;have hle:=oD (Sw hlt);go_wp2_with fail;refine(IH.out l[j] (by simp) _ _ (by omega) (GV.out.ext (HX.out.alloc _))).mono ?_;rintro e w' ⟨rfl,hx⟩;have HY:=Lib.hid hx;clear hx;go_wp2_with fail;go_roundw
    case rel=>
     refine⟨max dd (bZ l[j]),j+1,?_,by go_num,by omega,?_,(HX.out.alloc _).trans HY.out⟩
     .congr 1;omega
     .rw[<-HR.out,Su hlt];simp only[cX];omega
    case measure=>simp[intOf];omega
   .have:j=l.length:=by omega
    subst this;go_wp2_with fail;go_ret;have h9:=HR.out;simp only[List.drop_length,cX,Nat.max_zero]at h9;exact⟨cq (by rw[HQ.out,<-h9];rfl),HX.out⟩
theorem B3{w:World}{a:Addr}{v:Value}(h:w.cell? a=some v):a.spot=none:=by
 unfold World.cell? at h;split at h
 .split at h
  .cases h
  .rename_i hs;simpa using hs
 .cases h
instance:Inhabited Ex:=⟨.mk 0 0 ⟨#[]⟩ []⟩
def ch:List ByteArray:=[⟨#[99,108,97,115,115]⟩,⟨#[101,120,116,101,110,100,115]⟩,⟨#[114,97,110,100]⟩,⟨#[114,97,110,100,99]⟩,⟨#[115,116,97,116,101]⟩,⟨#[99,111,110,115,116,114,97,105,110,116]⟩,⟨#[115,111,102,116]⟩,⟨#[100,105,115,116]⟩,⟨#[105,102]⟩,⟨#[101,108,115,101]⟩,⟨#[101,97,99,104]⟩,⟨#[105,110]⟩,⟨#[115,111,108,118,101]⟩,⟨#[98,101,102,111,114,101]⟩,⟨#[105,110,115,105,100,101]⟩,⟨#[112,114,111,112,101,114,116,121]⟩,⟨#[115,101,113]⟩,⟨#[97,110,100]⟩,⟨#[111,114]⟩,⟨#[110,111,116]⟩,⟨#[115,101,116]⟩,⟨#[104,111,108,100]⟩,⟨#[112,108,97,105,110]⟩,⟨#[114,101,112,101,97,116]⟩]
def eQ(c:Int):Bool:=decide (97≤c)&&decide (c≤122)
def dD(c:Int):Bool:=decide (48≤c)&&decide (c≤57)
def uw(c:Int):Bool:=decide (65≤c)&&decide (c≤90)
def dR(c:Int):Bool:=eQ c||dD c||uw c||decide (c=95)
theorem dV(c:Int)(w:World):
 Calls Tryz.prog 170 #[.int .i32 c] w fun e w'=>e=.returned (.bool (eQ c))/\w=w':=by
 by_cases h:97≤c
 .go_enter Tryz.func170,Tryz.ntmps170;go_wp2_with fail;go_ret;exact⟨aV (by simp[eQ,h]),rfl⟩
 .go_enter Tryz.func170,Tryz.ntmps170;go_wp2_with fail;go_ret;exact⟨aV (by simp[eQ];omega),rfl⟩
theorem fU(c:Int)(w:World):
 Calls Tryz.prog 172 #[.int .i32 c] w fun e w'=>e=.returned (.bool (dD c))/\w=w':=by
 by_cases h:48≤c
 .go_enter Tryz.func172,Tryz.ntmps172;go_wp2_with fail;go_ret;exact⟨aV (by simp[dD,h]),rfl⟩
 .go_enter Tryz.func172,Tryz.ntmps172;go_wp2_with fail;go_ret;exact⟨aV (by simp[dD];omega),rfl⟩
theorem gw(c:Int)(w:World):
 Calls Tryz.prog 200 #[.int .i32 c] w fun e w'=>e=.returned (.bool (dR c))/\w=w':=by
 by_cases hl:eQ c=true
 .go_enter Tryz.func200,Tryz.ntmps200;go_wp2_with (first|(go_at_call 170;refine(dV _ _).mono ?_;rintro e w' ⟨rfl,rfl⟩)|(go_at_call 172;refine(fU _ _).mono ?_;rintro e w' ⟨rfl,rfl⟩));go_ret;exact⟨aV (by simp[dR,hl]),rfl⟩
 .have hl':eQ c=false:=by simpa using hl
  clear hl;by_cases hd:dD c=true
  .go_enter Tryz.func200,Tryz.ntmps200;go_wp2_with (first|(go_at_call 170;refine(dV _ _).mono ?_;rintro e w' ⟨rfl,rfl⟩)|(go_at_call 172;refine(fU _ _).mono ?_;rintro e w' ⟨rfl,rfl⟩));go_ret;exact⟨aV (by simp[dR,hd]),rfl⟩
  .have hd':dD c=false:=by simpa using hd
   clear hd;by_cases hu:65≤c
   .by_cases hu2:c≤90
    .go_enter Tryz.func200,Tryz.ntmps200;go_wp2_with (first|(go_at_call 170;refine(dV _ _).mono ?_;rintro e w' ⟨rfl,rfl⟩)|(go_at_call 172;refine(fU _ _).mono ?_;rintro e w' ⟨rfl,rfl⟩));go_ret;exact⟨aV (by simp[dR,uw,hu,hu2]),rfl⟩
    .go_enter Tryz.func200,Tryz.ntmps200;go_wp2_with (first|(go_at_call 170;refine(dV _ _).mono ?_;rintro e w' ⟨rfl,rfl⟩)|(go_at_call 172;refine(fU _ _).mono ?_;rintro e w' ⟨rfl,rfl⟩));go_ret;exact⟨aV (by rw[dR,hl',hd',uw,Sq];simp;omega),rfl⟩
   .go_enter Tryz.func200,Tryz.ntmps200;go_wp2_with (first|(go_at_call 170;refine(dV _ _).mono ?_;rintro e w' ⟨rfl,rfl⟩)|(go_at_call 172;refine(fU _ _).mono ?_;rintro e w' ⟨rfl,rfl⟩));go_ret;exact⟨aV (by rw[dR,hl',hd',uw,Sq];simp;omega),rfl⟩
theorem ew(c:Int)(w:World):
 Calls Tryz.prog 186 #[.int .u8 c] w fun e w'=>e=.returned (.bool (eQ c))/\w=w':=by
 by_cases h:97≤c
 .go_enter Tryz.func186,Tryz.ntmps186;go_wp2_with fail;go_ret;exact⟨aV (by simp[eQ,h]),rfl⟩
 .go_enter Tryz.func186,Tryz.ntmps186;go_wp2_with fail;go_ret;exact⟨aV (by simp[eQ];omega),rfl⟩
theorem gZ(c:Int)(w:World):
 Calls Tryz.prog 189 #[.int .u8 c] w fun e w'=>e=.returned (.bool (dD c))/\w=w':=by
 by_cases h:48≤c
 .go_enter Tryz.func189,Tryz.ntmps189;go_wp2_with fail;go_ret;exact⟨aV (by simp[dD,h]),rfl⟩
 .go_enter Tryz.func189,Tryz.ntmps189;go_wp2_with fail;go_ret;exact⟨aV (by simp[dD];omega),rfl⟩
theorem sx(c:Int)(w:World):
 Calls Tryz.prog 199 #[.int .u8 c] w fun e w'=>e=.returned (.bool (dR c))/\w=w':=by
 by_cases hl:eQ c=true
 .go_enter Tryz.func199,Tryz.ntmps199;go_wp2_with (first|(go_at_call 186;refine(ew _ _).mono ?_;rintro e w' ⟨rfl,rfl⟩)|(go_at_call 189;refine(gZ _ _).mono ?_;rintro e w' ⟨rfl,rfl⟩));go_ret;exact⟨aV (by simp[dR,hl]),rfl⟩
 .have hl':eQ c=false:=by simpa using hl
  clear hl;by_cases hd:dD c=true
  .go_enter Tryz.func199,Tryz.ntmps199;go_wp2_with (first|(go_at_call 186;refine(ew _ _).mono ?_;rintro e w' ⟨rfl,rfl⟩)|(go_at_call 189;refine(gZ _ _).mono ?_;rintro e w' ⟨rfl,rfl⟩));go_ret;exact⟨aV (by simp[dR,hd]),rfl⟩
  .have hd':dD c=false:=by simpa using hd
   clear hd;by_cases hu:65≤c
   .by_cases hu2:c≤90
    .go_enter Tryz.func199,Tryz.ntmps199;go_wp2_with (first|(go_at_call 186;refine(ew _ _).mono ?_;rintro e w' ⟨rfl,rfl⟩)|(go_at_call 189;refine(gZ _ _).mono ?_;rintro e w' ⟨rfl,rfl⟩));go_ret;exact⟨aV (by simp[dR,uw,hu,hu2]),rfl⟩
    .go_enter Tryz.func199,Tryz.ntmps199;go_wp2_with (first|(go_at_call 186;refine(ew _ _).mono ?_;rintro e w' ⟨rfl,rfl⟩)|(go_at_call 189;refine(gZ _ _).mono ?_;rintro e w' ⟨rfl,rfl⟩));go_ret;exact⟨aV (by rw[dR,hl',hd',uw,Sq];simp;omega),rfl⟩
   .go_enter Tryz.func199,Tryz.ntmps199;go_wp2_with (first|(go_at_call 186;refine(ew _ _).mono ?_;rintro e w' ⟨rfl,rfl⟩)|(go_at_call 189;refine(gZ _ _).mono ?_;rintro e w' ⟨rfl,rfl⟩));go_ret;exact⟨aV (by rw[dR,hl',hd',uw,Sq];simp;omega),rfl⟩
theorem mP{P:Program}(w:World)(s:ByteArray)(pos:Nat)(ty:TypeId)(h:pos<s.size):
 (Instr.next (.pointer (some ⟨w.heap.size,0,none⟩)) true ty).run P (w.iter s pos)=
   .ok (.tuple #[.bool true,.int .i64 pos,.int .i32 (Utf8.decode s pos).1]) (w.iter s (pos+(Utf8.decode s pos).2)):=by
 simp only[Instr.next,getObj,setObj,Sem.run_bind,Sem.run,World.iter_heap,Result.andThen,h,if_true,World.iter_set];simp[goInt]
theorem kf(s:ByteArray)(pos:Nat)(h:pos<s.size)(ha:128≤(s[pos]'h).toNat):128≤(Utf8.decode s pos).1:=by
 have e:s.get! (pos+0)=s[pos]'h:=by
  show s.get! pos=_;simp[ByteArray.get!,getElem!_pos,h];rfl
 have e2:¬(s[pos]'h).toNat<128:=by omega
 simp only[Utf8.decode,e,e2,if_false];split
 .split<;>(try simp only[Utf8.runeError])<;>omega
 .split
  .split
   .rename_i h2;simp only[Ss,decide_eq_true_eq]at h2;omega
   .simp only[Utf8.runeError];omega
  .split
   .split
    .rename_i h2;simp only[Ss,decide_eq_true_eq]at h2;omega
    .simp only[Utf8.runeError];omega
   .simp only[Utf8.runeError];omega
def kH:List UInt8->Bool
 | []=>false
 | c::r=>eQ c.toNat&&(c::r).all fun c=>dR c.toNat
def ff(s:ByteArray):Bool:=kH s.data.toList
theorem Ext.iter{a w:World}(h:Ext a w)(s:ByteArray)(pos:Nat):Ext a (w.iter s pos):=h.alloc _
def C6(s:ByteArray)(pos:Nat):Prop:=(∀k (h:k<s.size),k<pos->dR (s[k]'h).toNat=true)/\(∀h:0<s.size,0<pos->eQ (s[0]'h).toNat=true)
theorem qF{s:ByteArray}(h:C6 s s.size)(h0:0<s.size):ff s=true:=by
 have hl:=h.2 h0 h0;have hf:=h.1;unfold ff
 match e:s.data.toList with
 | []=>
  have:s.data.toList.length=s.size:=by simp
  rw[e]at this;simp at this;omega
 | c::r=>
  have hlen:(c::r).length=s.size:=by rw[<-e];simp
  have hget:∀k (hk:k<(c::r).length),(c::r)[k]=s[k]'(by omega):=by
   intro k hk;simp only[<-e];simp;rfl
  have h00:=hget 0 (by simp);simp only[List.getElem_cons_zero]at h00;simp only[kH,Ss];refine⟨by rw[h00];exact hl,List.all_eq_true.2 fun x hx=>?_⟩;obtain⟨k,hk,rfl⟩:=List.getElem_of_mem hx;rw[hget k hk];exact hf k (by omega) (by omega)
theorem ld{s:ByteArray}{k:Nat}(hk:k<s.size)(h:dR (s[k]'hk).toNat=false):ff s=false:=by
 unfold ff
 have hm:s[k]'hk∈s.data.toList:=by
  have:s[k]'hk=s.data.toList[k]'(by simpa using hk):=by simp;rfl
  rw[this];exact Sw _
 match e:s.data.toList with
 | []=>rfl
 | c::r=>
  rw[e]at hm;simp only[kH,Bool.and_eq_false_iff];right;exact List.all_eq_false.2 ⟨_,hm,by simp[h]⟩
theorem nR{s:ByteArray}(hk:0<s.size)(h:eQ (s[0]'hk).toNat=false):ff s=false:=by
 unfold ff
 match e:s.data.toList with
 | []=>rfl
 | c::r=>
  have:c=s[0]'hk:=by
   have h1:s[0]'hk=s.data.toList[0]'(by simpa using hk):=by simp;rfl
   rw[h1];simp[e]
  simp[kH,this,h]
theorem kY{c:Int}(h:128≤c):dR c=false:=by
 simp[dR,eQ,dD,uw];omega
theorem rP{c:Int}(h:128≤c):eQ c=false:=by
 simp[eQ];omega
theorem qn(s:ByteArray)(w:World)(hs:s.size≤9223372036854775807):
 Calls Tryz.prog 146 #[.string s] w fun e w'=>e=.returned (.bool (ff s))/\Ext w w':=by
 go_enter Tryz.func146,Tryz.ntmps146;go_wp2_with fail;go_loopw [3,4] (fun _ _ wr=>∃pos:Nat,pos≤s.size/\wr=w.iter s pos/\C6 s pos) (fun _ _ wr=>match wr.heap[w.heap.size]? with|some (.stringIter _ p)=>s.size-p|_=>0);case atStart=>exact⟨0,SA _,rfl,fun k _ h=>by omega,fun _ h=>by omega⟩
 case round=>
  obtain⟨pos,hp,rfl,hb⟩:=hrel;have HB:=Lib.hid hb;clear hb;by_cases hlt:pos<s.size
  .have hnx:=fun ty=>mP (P:=Tryz.prog) w s pos ty hlt;by_cases h0:pos=0
   .subst h0;by_cases hl:eQ (Utf8.decode s 0).1=true
    .have ha:(s[0]'hlt).toNat<128:=by
      apply Classical.byContradiction;intro hn;rw[rP (by have:=kf s 0 hlt (by omega);omega)]at hl;cases hl
     have hd:=decode_ascii s 0 hlt ha;have HD:=Lib.hid hd;clear hd;have hd1:(Utf8.decode s 0).2=1:=by rw[HD.out]
     have hf:dR (Utf8.decode s 0).1=true:=by simp[dR,hl]
     go_wp2_with (first|(go_at_call 170;refine(dV _ _).mono ?_;rintro e w' ⟨rfl,rfl⟩)|(go_at_call 200;refine(gw _ _).mono ?_;rintro e w' ⟨rfl,rfl⟩));go_roundw
     case rel=>
      refine⟨1,hlt,by simp,?_,?_⟩
      .intro k hk hk1;have:k=0:=by omega
       subst this;rw[HD.out]at hf;exact hf
      .intro h _;rw[HD.out]at hl;exact hl
     case measure=>simp[World.iter_heap];omega
    .have hl':eQ (Utf8.decode s 0).1=false:=by simpa using hl
     clear hl;go_wp2_with (first|(go_at_call 170;refine(dV _ _).mono ?_;rintro e w' ⟨rfl,rfl⟩)|(go_at_call 200;refine(gw _ _).mono ?_;rintro e w' ⟨rfl,rfl⟩));go_ret;refine⟨aV ?_,(Ext.refl w).iter _ _⟩;by_cases ha:(s[0]'hlt).toNat<128
     .exact(nR hlt (by rw[decode_ascii s 0 hlt ha]at hl';exact hl')).symm
     .exact(nR hlt (rP (by omega))).symm
   .have h0':((pos:Int)==0)=false:=by rw[beq_eq_false_iff_ne];omega
    by_cases hf:dR (Utf8.decode s pos).1=true
    .have ha:(s[pos]'hlt).toNat<128:=by
      apply Classical.byContradiction;intro hn;rw[kY (by have:=kf s pos hlt (by omega);omega)]at hf;cases hf
     have hd:=decode_ascii s pos hlt ha;have HD:=Lib.hid hd;clear hd;have hd1:(Utf8.decode s pos).2=1:=by rw[HD.out]
     go_wp2_with (first|(go_at_call 170;refine(dV _ _).mono ?_;rintro e w' ⟨rfl,rfl⟩)|(go_at_call 200;refine(gw _ _).mono ?_;rintro e w' ⟨rfl,rfl⟩));go_roundw
     case rel=>
      refine⟨pos+1,hlt,by simp,?_,?_⟩
      .intro k hk hk1;by_cases hkp:k=pos
       .subst hkp;rw[HD.out]at hf;exact hf
       .exact HB.out.1 k hk (by omega)
      .intro h _;exact HB.out.2 h (by omega)
     case measure=>simp[World.iter_heap];omega
    .have hf':dR (Utf8.decode s pos).1=false:=by simpa using hf
     clear hf;go_wp2_with (first|(go_at_call 170;refine(dV _ _).mono ?_;rintro e w' ⟨rfl,rfl⟩)|(go_at_call 200;refine(gw _ _).mono ?_;rintro e w' ⟨rfl,rfl⟩));go_ret;refine⟨aV ?_,(Ext.refl w).iter _ _⟩;by_cases ha:(s[pos]'hlt).toNat<128
     .exact(ld hlt (by rw[decode_ascii s pos hlt ha]at hf';exact hf')).symm
     .exact(ld hlt (kY (by omega))).symm
  .have:pos=s.size:=by omega
   subst this;have hnx:=fun ty=>run_next_end (P:=Tryz.prog) w s s.size ty (by omega);go_wp2_with fail;go_ret;refine⟨aV ?_,(Ext.refl w).iter _ _⟩;by_cases h0:0<s.size
   .rw[qF HB.out h0]
    match e:s.toList with
    | []=>rw[ByteArray.toList_eq]at e;have h9:=Lib.size_eq s;rw[e]at h9;simp only[Sx]at h9;omega
    | _::_=>rfl
   .have:s.data.toList=[]:=Sv (by have:=Lib.size_eq s;omega);simp[ff,this,ByteArray.toList_eq,kH]
def ry:List ByteArray->ByteArray->Nat->Int
 | [],_,_=>-1
 | a::r,s,i=>if s=a then i else ry r s (i+1)
theorem Hl(l:List ByteArray)(s:ByteArray):∀i:Nat,(0≤ry l s i↔s∈l):=by
 induction l with
 | nil=>intro i;simp[ry]
 | cons a r ih=>
  intro i;simp only[ry,Sy];split
  .rename_i h;simp[h]
  .rename_i h;rw[ih];simp[h]
theorem Bu(l:List ByteArray)(s:ByteArray)(v:Value)(w:World)(hv:dm w l v):
 Calls Tryz.prog 237 #[v,.string s] w fun e w'=>e=.returned (.int .i64 (ry l s 0))/\w=w':=by
 have hv':=hv;obtain⟨p,cap,rfl,h1,h2,h3⟩:=hv';have H3:=Lib.hid h3;clear h3;have HV:=Lib.hid hv;clear hv;go_enter Tryz.func237,Tryz.ntmps237;go_wp2_with fail;go_loop [8,5] (fun i _=>∃j:Nat,i=.int .i64 j/\j≤l.length/\ry (l.drop j) s j=ry l s 0) (fun i _=>l.length-(intOf i).toNat);case atStart=>exact⟨0,rfl,SA _,rfl⟩
 case round=>
  obtain⟨j,rfl,hj,hrec⟩:=hrel;have HR:=Lib.hid hrec;clear hrec;by_cases hlt:j<l.length
  .obtain⟨b,off,rfl,hc⟩:=ul HV.out hlt;by_cases he:s=l[j]
   .have he':(s.toList==(l[j]).toList)=true:=by rw[oa];simpa using he
    have HE:=Lib.hid he;clear he;go_wp2_with fail;go_ret;exact⟨cq (by rw[<-HR.out,Su hlt,ry,if_pos HE.out]),rfl⟩
   .have he':(s.toList==(l[j]).toList)=false:=by rw[oa];simpa using he
    go_wp2_with fail;go_round;case rel=>exact⟨j+1,by go_num,by omega,by rw[<-HR.out,Su hlt,ry,if_neg he]⟩
    case measure=>simp[intOf];omega
  .have:j=l.length:=by omega
   subst this;go_wp2_with fail;go_ret;exact⟨cq (by rw[<-HR.out];simp[ry]),rfl⟩
theorem uE(l:List ByteArray)(s:ByteArray)(v:Value)(w:World)(hv:dm w l v):
 Calls Tryz.prog 201 #[v,.string s] w fun e w'=>e=.returned (.bool (inB s l))/\w=w':=by
 have hi:=Hl l s 0;have HI:=Lib.hid hi;clear hi;go_enter Tryz.func201,Tryz.ntmps201;go_wp2_with (go_at_call 237;refine(Bu _ _ _ _ hv).mono ?_;rintro e w' ⟨rfl,rfl⟩);go_ret;exact⟨aV (by rw[Sq,px];simpa using HI.out),rfl⟩
def nS(w:World):Prop:=∃v,w.cell? ⟨0,0,none⟩=some v/\dm w ch v
theorem nS.ext{w w':World}(h:Ext w w'):nS w->nS w'
 | ⟨v,h1,h2⟩=>⟨v,h.cell h1,h2.ext h⟩
theorem gj(s:ByteArray)(w:World)(hk:nS w):
 Calls Tryz.prog 147 #[.string s] w fun e w'=>e=.returned (.bool (inB s ch))/\w=w':=by
 obtain⟨v,h1,h2⟩:=hk;go_enter Tryz.func147,Tryz.ntmps147;go_wp2_with (go_at_call 201;refine(uE _ _ _ _ h2).mono ?_;rintro e w' ⟨rfl,rfl⟩);go_ret;exact⟨rfl,rfl⟩
def bH(s:ByteArray):Bool:=ff s&&decide (s.size≤16) && !inB s ch
theorem f5(s:ByteArray)(w:World)(hs:s.size≤9223372036854775807)(hk:nS w):
 Calls Tryz.prog 96 #[.string s] w fun e w'=>e=.returned (.bool (bH s))/\Ext w w':=by
 have HK:=Lib.hid hk;clear hk;by_cases hw:ff s=true
 .by_cases hz:s.size≤16
  .go_enter Tryz.func96,Tryz.ntmps96;go_wp2_with (first|(go_at_call 146;refine(qn _ _ hs).mono ?_;rintro e w' ⟨rfl,hx⟩)|(go_at_call 147;refine(gj _ _ (HK.out.ext (by assumption))).mono ?_;rintro e w' ⟨rfl,rfl⟩));go_ret;exact⟨aV (by simp[bH,hw,hz]),by assumption⟩
  .go_enter Tryz.func96,Tryz.ntmps96;go_wp2_with (first|(go_at_call 146;refine(qn _ _ hs).mono ?_;rintro e w' ⟨rfl,hx⟩)|(go_at_call 147;refine(gj _ _ (HK.out.ext (by assumption))).mono ?_;rintro e w' ⟨rfl,rfl⟩));go_ret;exact⟨aV (by rw[bH,hw,decide_eq_false (by omega)];rfl),by assumption⟩
 .have hw':ff s=false:=by simpa using hw
  clear hw;go_enter Tryz.func96,Tryz.ntmps96;go_wp2_with (first|(go_at_call 146;refine(qn _ _ hs).mono ?_;rintro e w' ⟨rfl,hx⟩)|(go_at_call 147;refine(gj _ _ (HK.out.ext (by assumption))).mono ?_;rintro e w' ⟨rfl,rfl⟩));go_ret;exact⟨aV (by simp[bH,hw']),by assumption⟩
theorem Hn(l:List ByteArray)(s:ByteArray)(v:Value)(w:World)(hv:dm w l v):
 Calls Tryz.prog 226 #[v,.string s] w fun e w'=>e=.returned (.bool (inB s l))/\w=w':=by
 have hv':=hv;obtain⟨p,cap,rfl,h1,h2,h3⟩:=hv';have H3:=Lib.hid h3;clear h3;have HV:=Lib.hid hv;clear hv;go_enter Tryz.func226,Tryz.ntmps226;go_wp2_with fail;go_loop [5] (fun i=>∃j:Nat,i=.int .i64 j/\j≤l.length/\(s∈l.drop j↔s∈l)) (fun i=>l.length-(intOf i).toNat);case atStart=>exact⟨0,rfl,SA _,by simp⟩
 case round=>
  obtain⟨j,rfl,hj,hrec⟩:=hrel;have HR:=Lib.hid hrec;clear hrec;by_cases hlt:j<l.length
  .obtain⟨b,off,rfl,hc⟩:=ul HV.out hlt;by_cases he:l[j]=s
   .have he':((l[j]).toList==s.toList)=true:=by rw[oa];simpa using he
    have HE:=Lib.hid he;clear he;go_wp2_with fail;go_ret;exact⟨aV (by rw[<-HE.out];exact(px.2 (Sw _)).symm),rfl⟩
   .have he':((l[j]).toList==s.toList)=false:=by rw[oa];simpa using he
    have HE:=Lib.hid he;clear he;go_wp2_with fail;go_round;case rel=>exact⟨j+1,by go_num,by omega,by rw[<-HR.out,Su hlt,Sy];exact⟨.inr,fun h=>h.resolve_left fun e=>HE.out e.symm⟩⟩
    case measure=>simp[intOf];omega
  .have:j=l.length:=by omega
   subst this;have hn:s∉l:=fun h=>by have:=HR.out.2 h;simp at this
   have HN:=Lib.hid hn;clear hn;go_wp2_with fail;go_ret;exact⟨aV (ph.2 HN.out).symm,rfl⟩
theorem uv(w:World):Calls Tryz.prog 227 #[] w (H8 ch w):=by
 go_enter Tryz.func227,Tryz.ntmps227;go_wp2_with fail;go_ret;exact⟨_,rfl,xW w ch _ (by decide),(Ext.refl w).alloc _⟩
theorem fm(s:ByteArray)(w:World):
 Calls Tryz.prog 188 #[.string s] w fun e w'=>e=.returned (.bool (inB s ch))/\Ext w w':=by
 go_enter Tryz.func188,Tryz.ntmps188;go_wp2_with (first|(go_at_call 227;refine(uv _).mono ?_;rintro e w' ⟨v,rfl,hv,hx⟩)|(go_at_call 226;refine(Hn _ _ _ _ (by assumption)).mono ?_;rintro e w' ⟨rfl,rfl⟩));go_ret;exact⟨rfl,by assumption⟩
theorem iE(s:ByteArray)(w:World)(hs:s.size≤9223372036854775807):
 Calls Tryz.prog 142 #[.string s] w fun e w'=>e=.returned (.bool (bH s))/\Ext w w':=by
 by_cases hz:s.size=0
 .have e1:s.toList=[]:=by rw[ByteArray.toList_eq];exact Sv (by have:=Lib.size_eq s;omega)
  have e2:ff s=false:=by rw[ByteArray.toList_eq]at e1;simp[ff,e1,kH]
  have E2:=Lib.hid e2;clear e2;clear hz;go_enter Tryz.func142,Tryz.ntmps142;go_wp2_with fail;go_ret;exact⟨aV (by simp[bH,E2.out]),Ext.refl _⟩
 .have e1:s.toList.isEmpty=false:=by
   match e:s.toList with
   | []=>rw[ByteArray.toList_eq]at e;have h9:=Lib.size_eq s;rw[e]at h9;simp only[Sx]at h9;omega
   | _::_=>rfl
  have hp:0<s.size:=by omega
  clear hz;by_cases hz2:s.size≤16
  .by_cases hl:eQ (s[0]'hp).toNat=true
   .by_cases hk:inB s ch=true
    .go_enter Tryz.func142,Tryz.ntmps142;go_wp2_with (first|(go_at_call 186;refine(ew _ _).mono ?_;rintro e w' ⟨rfl,rfl⟩)|(go_at_call 188;refine(fm _ _).mono ?_;rintro e w' ⟨rfl,hx⟩));go_ret;exact⟨aV (by simp[bH,hk]),by assumption⟩
    .have hk':inB s ch=false:=by simpa using hk
     clear hk;go_enter Tryz.func142,Tryz.ntmps142;go_wp2_with (first|(go_at_call 186;refine(ew _ _).mono ?_;rintro e w' ⟨rfl,rfl⟩)|(go_at_call 188;refine(fm _ _).mono ?_;rintro e w' ⟨rfl,hx⟩));have HX:=Lib.hid hx;clear hx;go_loop [3] (fun i=>∃j:Nat,i=.int .i64 j/\j≤s.size/\C6 s j) (fun i=>s.size-(intOf i).toNat);case atStart=>exact⟨0,rfl,SA _,fun k _ h=>by omega,fun _ h=>by omega⟩
     case round=>
      obtain⟨j,rfl,hj,hb⟩:=hrel;have HB:=Lib.hid hb;clear hb;by_cases hlt:j<s.size
      .by_cases hf:dR (s[j]'hlt).toNat=true
       .go_wp2_with (go_at_call 199;refine(sx _ _).mono ?_;rintro e w' ⟨rfl,rfl⟩);go_round
        case rel=>
         refine⟨j+1,by go_num,hlt,fun k hk hk1=>?_,fun h _=>hl⟩;by_cases hkj:k=j
         .subst hkj;exact hf
         .exact HB.out.1 k hk (by omega)
        case measure=>simp[intOf];omega
       .have hf':dR (s[j]'hlt).toNat=false:=by simpa using hf
        clear hf;go_wp2_with (go_at_call 199;refine(sx _ _).mono ?_;rintro e w' ⟨rfl,rfl⟩);go_ret;exact⟨aV (by simp[bH,ld hlt hf']),HX.out⟩
      .have:j=s.size:=by omega
       subst this;go_wp2_with fail;go_ret;exact⟨aV (by simp[bH,qF HB.out hp,hz2,hk']),HX.out⟩
   .have hl':eQ (s[0]'hp).toNat=false:=by simpa using hl
    clear hl;go_enter Tryz.func142,Tryz.ntmps142;go_wp2_with (first|(go_at_call 186;refine(ew _ _).mono ?_;rintro e w' ⟨rfl,rfl⟩)|(go_at_call 188;refine(fm _ _).mono ?_;rintro e w' ⟨rfl,hx⟩));go_ret;exact⟨aV (by simp[bH,nR hp hl']),Ext.refl _⟩
  .go_enter Tryz.func142,Tryz.ntmps142;go_wp2_with (first|(go_at_call 186;refine(ew _ _).mono ?_;rintro e w' ⟨rfl,rfl⟩)|(go_at_call 188;refine(fm _ _).mono ?_;rintro e w' ⟨rfl,hx⟩));go_ret;exact⟨aV (by rw[bH,decide_eq_false (p:=s.size≤16) (by omega)];simp),Ext.refl _⟩
end Go.Proofs.YtnhphlmblenapaaGreatDoor
