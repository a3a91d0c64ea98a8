import Derived.WalkKit
import Derived.Lib.Hide
import Derived.Deep.Draws
import Derived.OwnWalk
import Derived.WalkSpells
import Derived.Outline
import Derived.WalkLawsBesides
import Derived.ProofKit
import Derived.Deep.Slices
import Derived.Deep.QuietTactic
import Derived.BigQuiet
import Derived.Lib.Strings
import Derived.Lib.Bytealg
import Derived.Deep.RegionHeld3
import Derived.BigRegion
import Derived.Laws.Externs
import Derived.Deep.Light
import Derived.Lib.IndexLaws
import Derived.Test.YtnhphlmblenapaaGreatDoorRows
set_option linter.unusedVariables false
set_option linter.unusedSimpArgs false
set_option linter.unusedSectionVars false
set_option maxRecDepth 100000
open Bool renaming eq_iff_iff->Pa,and_eq_true->Pb
open List renaming eq_nil_of_length_eq_zero->Pd,drop_eq_getElem_cons->Pe,suffix_refl->Pf,dropWhile_suffix->Pg,length_drop->Ph,getElem_mem->Pi
open Nat renaming le_trans->Pj,le_refl->Pk,zero_le->Pl,lt_of_lt_of_le->Pm,strongRecOn->Pn
namespace Go.Proofs.YtnhphlmblenapaaGreatDoor
open Go.RowKit
inductive Ex where
 | mk (op n:Int) (name:ByteArray) (args:List Ex)
namespace Ex
def op:Ex->Int|mk o _ _ _=>o
def num:Ex->Int|mk _ n _ _=>n
def name:Ex->ByteArray|mk _ _ s _=>s
def args:Ex->List Ex|mk _ _ _ l=>l
end Ex
mutual
theorem Ex.ind{P:Ex->Prop}(h:∀o n s l,(∀a,a∈l->P a)->P (.mk o n s l)):∀e,P e
 | .mk o n s l=>h o n s l (Ex.inds h l)
theorem Ex.inds{P:Ex->Prop}(h:∀o n s l,(∀a,a∈l->P a)->P (.mk o n s l)):∀l:List Ex,∀a,a∈l->P a
 | [],_,ha=>nomatch ha
 | b::r,a,ha=>by
  rcases List.mem_cons.1 ha with e|e
  .rw[e];exact Ex.ind h b
  .exact Ex.inds h r a e
end
theorem dY{k:IntKind}{a b:Int}(h:a=b):Ending.returned (.int k a)=.returned (.int k b):=by rw[h]
theorem b9{a b:Bool}(h:a=b):Ending.returned (.bool a)=.returned (.bool b):=by rw[h]
def Ext(w w':World):Prop:=Below w.heap.size w w'
theorem Ext.refl(w:World):Ext w w:=Below.refl _ _
theorem Ext.trans{a b c:World}(h:Ext a b)(k:Ext b c):Ext a c:=Below.trans h (Below.mono k h.size)
theorem Ext.cell{w w':World}(h:Ext w w'){p:Addr}{v:Value}(hp:w.cell? p=some v):w'.cell? p=some v:=by
 have hb:p.block<w.heap.size:=by
  unfold World.cell? at hp;split at hp
  .rename_i h1;exact(Array.getElem?_eq_some_iff.1 h1).1
  .cases hp
 rw[Below.cell h hb];exact hp
theorem Ext.alloc{a w:World}(h:Ext a w)(o:Obj):Ext a (w.alloc o):=Below.alloc h h.size o
theorem Ext.drewN{a w:World}(h:Ext a w)(n:Nat):Ext a (w.drewN n):=⟨h.os,h.tape,h.output,h.size,h.block⟩
theorem Ext.drew{a w:World}(h:Ext a w):Ext a w.drew:=Below.drew h
theorem Ext.box4{w w':World}{T:TypeId}{a b c d:Value}(h:Ext (w.alloc (.cells #[a,b,c,d] T)) w'):
 w'.cell? ⟨w.heap.size,0,none⟩=some a/\w'.cell? ⟨w.heap.size,1,none⟩=some b/\w'.cell? ⟨w.heap.size,2,none⟩=some c/\w'.cell? ⟨w.heap.size,3,none⟩=some d:=
 ⟨h.cell (by simp[World.cell?_alloc_new]),h.cell (by simp[World.cell?_alloc_new]),h.cell (by simp[World.cell?_alloc_new]),h.cell (by simp[World.cell?_alloc_new])⟩
theorem Ext.past{w w':World}{o:Obj}(h:Ext (w.alloc o) w'):Ext w w':=((Ext.refl w).alloc o).trans h
def kA(w:World)(b off:Nat)(cs:List Value):Prop:=∀j v,cs[j]? = some v->w.cell? ⟨b,off+j,none⟩=some v
def lN(w:World)(size:Nat)(v:Value)(css:List (List Value)):Prop:=
 ∃p cap,v=.slice p css.length cap/\css.length≤cap/\cap≤maxLen/\
  ∀i cs,css[i]? = some cs->∃b off,p=some ⟨b,off,none⟩/\cs.length=size/\kA w b (off+i*size) cs
theorem kA.ext{w w':World}(h:Ext w w'){b off:Nat}{cs:List Value}(hc:kA w b off cs):kA w' b off cs:=
 fun j v hj=>h.cell (hc j v hj)
theorem lN.ext{w w':World}(h:Ext w w'){size:Nat}{v:Value}{css:List (List Value)}(hs:lN w size v css):lN w' size v css:=by
 obtain⟨p,cap,h1,h2,h3,h4⟩:=hs;refine⟨p,cap,h1,h2,h3,fun i cs hi=>?_⟩;obtain⟨b,off,g1,g2,g3⟩:=h4 i cs hi;exact⟨b,off,g1,g2,g3.ext h⟩
inductive ExRep(w:World):Ex->List Value->Prop
 | mk (o n:Int) (s:ByteArray) (l:List Ex) (v:Value) (css:List (List Value)) (hl:css.length=l.length)
  (hc:∀i (h:i<l.length) (h':i<css.length),ExRep w l[i] css[i]) (hv:lN w 4 v css)
  (ho : -9223372036854775808≤o/\o≤9223372036854775807) (hn : -9223372036854775808≤n/\n≤9223372036854775807) (hs:s.size≤maxLen):
  ExRep w (.mk o n s l) [.int .i64 o,.int .i64 n,.string s,v]
theorem ExRep.ext{w w':World}(h:Ext w w'){e:Ex}{cs:List Value}(he:ExRep w e cs):ExRep w' e cs:=by
 induction he with
 | mk o n s l v css hl hc hv ho hn hs ih=>exact .mk o n s l v css hl ih (hv.ext h) ho hn hs
def jh(w:World)(e:Ex)(v:Value):Prop:=∃cs,ExRep w e cs/\v=.agg cs.toArray
theorem jh.ext{w w':World}(h:Ext w w'){e:Ex}{v:Value}:jh w e v->jh w' e v
 | ⟨cs,h1,h2⟩=>⟨cs,h1.ext h,h2⟩
def sJ(w:World)(l:List Ex)(v:Value):Prop:=∃css:List (List Value),css.length=l.length/\lN w 4 v css/\∀i (h:i<l.length) (h':i<css.length),ExRep w l[i] css[i]
theorem CH{w:World}{b o:Nat}{e:Ex}{cs:List Value}(hr:ExRep w e cs)(hc:kA w b o cs):
 ∃v,jh w e (.agg #[.int .i64 e.op,.int .i64 e.num,.string e.name,v])/\sJ w e.args v/\
  w.cell? ⟨b,o,none⟩=some (.int .i64 e.op)/\w.cell? ⟨b,o+1,none⟩=some (.int .i64 e.num)/\
  w.cell? ⟨b,o+2,none⟩=some (.string e.name)/\w.cell? ⟨b,o+3,none⟩=some v:=by
 cases hr with
 | mk o' n s l v css hl hc' hv ho hn hs=>
  refine⟨v,⟨_,.mk o' n s l v css hl hc' hv ho hn hs,rfl⟩,⟨css,hl,hv,hc'⟩,?_,?_,?_,?_⟩
  .exact hc 0 _ rfl
  .exact hc 1 _ rfl
  .exact hc 2 _ rfl
  .exact hc 3 _ rfl
theorem Eb{w:World}{l:List Ex}{p:Option Addr}{n cap:Nat}(h:sJ w l (.slice p n cap)){j:Nat}(hj:j<l.length):
 ∃b o cs,p=some ⟨b,o,none⟩/\ExRep w l[j] cs/\kA w b (o+j*4) cs:=by
 obtain⟨css,hl,⟨p',cap',hv,h1,h2,h3⟩,hr⟩:=h;cases hv;have hj':j<css.length:=by omega
 obtain⟨b,o,g1,g2,g3⟩:=h3 j css[j] (by simp[hj']);exact⟨b,o,css[j],g1,hr j hj hj',g3⟩
theorem mP{w:World}{l:List Ex}{v:Value}(h:sJ w l v):∃p cap,v=.slice p l.length cap/\l.length≤cap/\cap≤9223372036854775807:=by
 obtain⟨css,hl,⟨p,cap,hv,h1,h2,h3⟩,hr⟩:=h;exact⟨p,cap,by rw[hv,hl],by omega,h2⟩
theorem iK{w:World}{e:Ex}{v:Value}(h:jh w e v):
 ∃p cap,v=.agg #[.int .i64 e.op,.int .i64 e.num,.string e.name,.slice p e.args.length cap]/\sJ w e.args (.slice p e.args.length cap)/\
  e.args.length≤cap/\cap≤9223372036854775807/\
  (-9223372036854775808≤e.op/\e.op≤9223372036854775807)/\(-9223372036854775808≤e.num/\e.num≤9223372036854775807)/\e.name.size≤9223372036854775807:=by
 obtain⟨cs,hr,rfl⟩:=h;cases hr with
 | mk o' n s l v css hl hc' hv ho hn hs=>
  obtain⟨p,cap,rfl,h1,h2⟩:=mP ⟨css,hl,hv,hc'⟩;exact⟨p,cap,rfl,⟨css,hl,hv,hc'⟩,h1,h2,ho,hn,hs⟩
theorem CI(a b:ByteArray):(a.toList==b.toList)=decide (a=b):=by
 rw[ByteArray.toList_eq,ByteArray.toList_eq,Pa];simp only[beq_iff_eq,decide_eq_true_eq];constructor
 .intro h;cases a;cases b;simp only[ByteArray.mk.injEq];exact Array.toList_inj.1 h
 .intro h;rw[h]
def inB(s:ByteArray)(l:List ByteArray):Bool:=l.any fun x=>decide (x=s)
theorem FA{s:ByteArray}{l:List ByteArray}:inB s l=true↔s∈l:=by simp[inB]
def ez(w:World)(l:List ByteArray)(v:Value):Prop:=
 ∃p cap,v=.slice p l.length cap/\l.length≤cap/\cap≤9223372036854775807/\
  ∀i s,l[i]? = some s->∃b off,p=some ⟨b,off,none⟩/\w.cell? ⟨b,off+i,none⟩=some (.string s)
theorem ez.ext{w w':World}(h:Ext w w'){l:List ByteArray}{v:Value}:ez w l v->ez w' l v
 | ⟨p,cap,h1,h2,h3,h4⟩=>⟨p,cap,h1,h2,h3,fun i s hi=>by obtain⟨b,off,g1,g2⟩:=h4 i s hi;exact⟨b,off,g1,h.cell g2⟩⟩
theorem FW{w:World}{l:List ByteArray}{p:Option Addr}{n cap:Nat}(h:ez w l (.slice p n cap)){j:Nat}(hj:j<l.length):
 ∃b off,p=some ⟨b,off,none⟩/\w.cell? ⟨b,off+j,none⟩=some (.string l[j]):=by
 obtain⟨p',cap',hv,h1,h2,h3⟩:=h;cases hv;exact h3 j l[j] (by simp[hj])
structure Keep(O:Nat->Prop)(w w':World):Prop where
 os:w'.os=w.os
 tape:w'.tape=w.tape
 output:w'.output=w.output
 size:w.heap.size≤w'.heap.size
 block:∀k,k<w.heap.size->¬O k->w'.heap[k]? = w.heap[k]?
theorem Keep.refl(O:Nat->Prop)(w:World):Keep O w w:=⟨rfl,rfl,rfl,Pk _,fun _ _ _=>rfl⟩
theorem Keep.trans{O O':Nat->Prop}{a b c:World}(h:Keep O a b)(k:Keep O' b c)(ho:∀x,O' x->O x\/a.heap.size≤x):Keep O a c:=
 ⟨k.os.trans h.os,k.tape.trans h.tape,k.output.trans h.output,Pj h.size k.size,fun i hi hn=>
   (k.block i (Pm hi h.size) (fun hx=>(ho i hx).elim hn (fun hx=>by omega))).trans (h.block i hi hn)⟩
theorem Keep.of_ext{O:Nat->Prop}{w w':World}(h:Ext w w'):Keep O w w':=⟨h.os,h.tape,h.output,h.size,fun k hk _=>h.block k hk⟩
theorem Keep.ext{O:Nat->Prop}{w0 w w':World}(h:Keep O w w')(h0:Ext w0 w)(ho:∀x,O x->w0.heap.size≤x):Ext w0 w':=
 ⟨h.os.trans h0.os,h.tape.trans h0.tape,h.output.trans h0.output,Pj h0.size h.size,fun k hk=>
   (h.block k (Pm hk h0.size) (fun hx=>by have:=ho k hx;omega)).trans (h0.block k hk)⟩
theorem Keep.cell{O:Nat->Prop}{w w':World}(h:Keep O w w'){p:Addr}{v:Value}(hn:¬O p.block)(hp:w.cell? p=some v):w'.cell? p=some v:=by
 have hb:p.block<w.heap.size:=by
  unfold World.cell? at hp;split at hp
  .rename_i h1;exact(Array.getElem?_eq_some_iff.1 h1).1
  .cases hp
 rw[World.cell?_of_block (w:=w) (h.block p.block hb hn)];exact hp
theorem Keep.heap{O:Nat->Prop}{w w':World}(h:Keep O w w'){k:Nat}{o:Obj}(hn:¬O k)(hp:w.heap[k]? = some o):w'.heap[k]? = some o:=by
 rw[h.block k (Array.getElem?_eq_some_iff.1 hp).1 hn];exact hp
theorem Keep.alloc{O:Nat->Prop}{a w:World}(h:Keep O a w)(o:Obj):Keep O a (w.alloc o):=
 h.trans (Keep.of_ext (O:=O) ((Ext.refl w).alloc o)) fun _ hx=>.inl hx
theorem Keep.setCell{O:Nat->Prop}{a w:World}(h:Keep O a w){p:Addr}(hp:O p.block\/a.heap.size≤p.block)(u:Value):Keep O a (w.setCell p u):=by
 refine⟨h.os,h.tape,h.output,Pj h.size (by simp[World.setCell]),fun k hk hn=>?_⟩;rw[Below.heap_setCell _ _ _ _ (fun e=>?_)]
 .exact h.block k hk hn
 .subst e;rcases hp with hp|hp
  .exact hn hp
  .omega
def One(b:Nat)(T:TypeId)(v:Value)(w:World):Prop:=w.heap[b]? = some (.cells #[v] T (0,0))
theorem One.cell{b:Nat}{T:TypeId}{v:Value}{w:World}(h:One b T v w):w.cell? ⟨b,0,none⟩=some v:=by
 unfold One at h;simp[World.cell?,h]
theorem One.frozen{b:Nat}{T:TypeId}{v:Value}{w:World}(h:One b T v w):w.frozen? ⟨b,0,none⟩=false:=by
 unfold One at h;simp[World.frozen?,h]
theorem One.lt{b:Nat}{T:TypeId}{v:Value}{w:World}(h:One b T v w):b<w.heap.size:=(Array.getElem?_eq_some_iff.1 h).1
theorem One.keep{O:Nat->Prop}{w w':World}(h:Keep O w w'){b:Nat}{T:TypeId}{v:Value}(hn:¬O b)(h1:One b T v w):One b T v w':=h.heap hn h1
theorem One.set{b:Nat}{T:TypeId}{v:Value}{w:World}(h:One b T v w)(u:Value):One b T u (w.setCell ⟨b,0,none⟩ u):=by
 unfold One at h ⊢;simp[World.setCell,Array.getElem?_modify,h]
theorem One.alloc{b:Nat}{T:TypeId}{v:Value}{w:World}(h:One b T v w)(o:Obj):One b T v (w.alloc o):=by
 have:=h.lt;unfold One at h ⊢;rw[Below.heap_alloc _ _ _ this];exact h
theorem One.new(w:World)(T:TypeId)(v:Value):One w.heap.size T v (w.alloc (.cells #[v] T)):=by
 unfold One;show(w.heap.push _)[w.heap.size]? = _;simp
theorem BC{w:World}{base:Nat}{T:TypeId}{v:Value}{l:List ByteArray}(h:w.ownsRow base T 1 v l.length (l.map Value.string)):ez w l v:=by
 obtain⟨h1,h2⟩:=h;rcases h2 with⟨rfl,h0⟩|⟨g,cap,cur,rfl,hb,hh,hn,hc,hs,ht⟩
 .have:l=[]:=Pd h0;subst this;exact⟨none,0,rfl,Pk _,by omega,fun i s hi=>by simp at hi⟩
 .refine⟨_,cap,rfl,hn,hc,fun i s hi=>⟨g,0,rfl,?_⟩⟩;have hlt:i<l.length:=(List.getElem?_eq_some_iff.1 hi).1;have e1:(cur.toList.take (l.length*1))[i]? = some (.string s):=by rw[ht];simp[hi]
  rw[List.getElem?_take_of_lt (by omega)]at e1;simp[World.cell?,hh];simpa using e1
mutual
def fX{σ:Type}(next:σ->Ex->σ×Bool):Ex->σ->σ×Bool
 | .mk o n s l,x=>if(next x (.mk o n s l)).2 then gJ next l (next x (.mk o n s l)).1 else((next x (.mk o n s l)).1,false)
def gJ{σ:Type}(next:σ->Ex->σ×Bool):List Ex->σ->σ×Bool
 | [],x=>(x,true)
 | a::r,x=>if(fX next a x).2 then gJ next r (fX next a x).1 else((fX next a x).1,false)
end
structure Visits(P:Program)(w0:World)(F:FuncId)(cap:Array Value){σ:Type}(next:σ->Ex->σ×Bool)(I:(Nat->Prop)->σ->World->Prop)(Q:Ex->Prop):Prop where
 sub:∀{o n s l},Q (.mk o n s l)->∀a,a∈l->Q a
 stays:∀{O s w w'},I O s w->(∀k,O k->w'.heap[k]? = w.heap[k]?)->I O s w'
 lt:∀{O s w},I O s w->∀k,O k->w0.heap.size≤k/\k<w.heap.size
 call:∀{O s w e v},Q e->Ext w0 w->I O s w->jh w0 e v->
  Calls P F (#[v]++cap) w fun en w'=>en=.returned (.bool (next s e).2)/\∃O',I O' (next s e).1 w'/\(∀k,O' k->O k\/w.heap.size≤k)/\Keep O w w'
section
variable {P : Program}
end
end Go.Proofs.YtnhphlmblenapaaGreatDoor
namespace Go.Proofs.YtnhphlmblenapaaGreatDoor
open Go.RowKit
mutual
def dS:Ex->Nat
 | .mk _ _ _ l=>dE l+1
def dE:List Ex->Nat
 | []=>0
 | a::r=>max (dS a) (dE r)
end
theorem ui{l:List Ex}{a:Ex}(h:a∈l):dS a≤dE l:=by
 induction l with
 | nil=>cases h
 | cons b r ih=>
  simp only[dE];rcases List.mem_cons.1 h with h|h
  .subst h;omega
  .have:=ih h;omega
theorem Aw(e:Ex):∀(v:Value) (w:World),dS e≤1200000->jh w e v->
 Calls Tryz.prog 183 #[v] w fun en w'=>en=.returned (.int .i64 (dS e))/\Ext w w':=by
 induction e using Ex.ind with
 | h o m s l ih=>
  intro v w hd hv;obtain⟨p,cap,rfl,hl,h1,h2,-,-,-⟩:=iK hv;simp only[Ex.op,Ex.num,Ex.name,Ex.args]at *;have hd':dE l<1200000:=by simp only[dS]at hd;omega
  have hq:dS (.mk o m s l)=dE l+1:=by simp only[dS]
  generalize dS (.mk o m s l)=R at *;have HQ:=Lib.hid hq;clear hq;clear hd;have HL:=Lib.hid hl;clear hl;have HV:=Lib.hid hv;clear hv;have IH:=Lib.hid ih;clear ih;go_enter Tryz.func183,Tryz.ntmps183;go_wp2_with fail;go_loopw [3,9,5] (fun d i _ wr=>∃(dd j:Nat),d=.int .i64 dd/\i=.int .i64 j/\j≤l.length/\max dd (dE (l.drop j))=dE l/\Ext w wr) (fun _ i _ _=>l.length-(intOf i).toNat);case atStart=>exact⟨0,0,rfl,rfl,Pl _,by simp,(Ext.refl w).alloc _⟩
  case round=>
   obtain⟨dd,j,rfl,rfl,hj,hrec,hext⟩:=hrel;have hdd:(dd:Int)<1200000:=by omega
   have HR:=Lib.hid hrec;clear hrec;have HX:=Lib.hid hext;clear hext;by_cases hlt:j<l.length
   .obtain⟨b,off,cs,rfl,hr,hc⟩:=Eb HL.out hlt;obtain⟨sv,gv,gl,q2,q3,q4,q5⟩:=CH hr hc;obtain⟨p',cp',rfl,-,-⟩:=mP gl;have r2:=HX.out.cell q2;have r3:=HX.out.cell q3;have r4:=HX.out.cell q4;have r5:=HX.out.cell q5;clear q2 q3 q4 q5 hr hc gl;have GV:=Lib.hid gv;clear gv;have hle:=ui (Pi hlt);go_wp2_with fail;refine(IH.out l[j] (by simp) _ _ (by omega) (GV.out.ext (HX.out.alloc _))).mono ?_;rintro e w' ⟨rfl,hx⟩;have HY:=Lib.hid hx;clear hx;go_wp2_with fail;go_roundw
    case rel=>
     refine⟨max dd (dS l[j]),j+1,?_,by go_num,by omega,?_,(HX.out.alloc _).trans HY.out⟩
     .congr 1;omega
     .rw[<-HR.out,Pe hlt];simp only[dE];omega
    case measure=>simp[intOf];omega
   .have:j=l.length:=by omega
    subst this;go_wp2_with fail;go_ret;have h9:=HR.out;simp only[List.drop_length,dE,Nat.max_zero]at h9;exact⟨dY (by rw[HQ.out,<-h9];rfl),HX.out⟩
instance:Inhabited Ex:=⟨.mk 0 0 ⟨#[]⟩ []⟩
def dU:List ByteArray:=[⟨#[99,108,97,115,115]⟩,⟨#[101,120,116,101,110,100,115]⟩,⟨#[114,97,110,100]⟩,⟨#[114,97,110,100,99]⟩,⟨#[115,116,97,116,101]⟩,⟨#[99,111,110,115,116,114,97,105,110,116]⟩,⟨#[115,111,102,116]⟩,⟨#[100,105,115,116]⟩,⟨#[105,102]⟩,⟨#[101,108,115,101]⟩,⟨#[101,97,99,104]⟩,⟨#[105,110]⟩,⟨#[115,111,108,118,101]⟩,⟨#[98,101,102,111,114,101]⟩,⟨#[105,110,115,105,100,101]⟩,⟨#[112,114,111,112,101,114,116,121]⟩,⟨#[115,101,113]⟩,⟨#[97,110,100]⟩,⟨#[111,114]⟩,⟨#[110,111,116]⟩,⟨#[115,101,116]⟩,⟨#[104,111,108,100]⟩,⟨#[112,108,97,105,110]⟩,⟨#[114,101,112,101,97,116]⟩]
def jk(c:Int):Bool:=decide (97≤c)&&decide (c≤122)
def fC(c:Int):Bool:=decide (48≤c)&&decide (c≤57)
def Cm(c:Int):Bool:=decide (65≤c)&&decide (c≤90)
def g9(c:Int):Bool:=jk c||fC c||Cm c||decide (c=95)
theorem dQ(c:Int)(w:World):
 Calls Tryz.prog 170 #[.int .i32 c] w fun e w'=>e=.returned (.bool (jk c))/\w=w':=by
 by_cases h:97≤c
 .go_enter Tryz.func170,Tryz.ntmps170;go_wp2_with fail;go_ret;exact⟨b9 (by simp[jk,h]),rfl⟩
 .go_enter Tryz.func170,Tryz.ntmps170;go_wp2_with fail;go_ret;exact⟨b9 (by simp[jk];omega),rfl⟩
theorem fO(c:Int)(w:World):
 Calls Tryz.prog 172 #[.int .i32 c] w fun e w'=>e=.returned (.bool (fC c))/\w=w':=by
 by_cases h:48≤c
 .go_enter Tryz.func172,Tryz.ntmps172;go_wp2_with fail;go_ret;exact⟨b9 (by simp[fC,h]),rfl⟩
 .go_enter Tryz.func172,Tryz.ntmps172;go_wp2_with fail;go_ret;exact⟨b9 (by simp[fC];omega),rfl⟩
theorem fV(c:Int)(w:World):
 Calls Tryz.prog 200 #[.int .i32 c] w fun e w'=>e=.returned (.bool (g9 c))/\w=w':=by
 by_cases hl:jk c=true
 .go_enter Tryz.func200,Tryz.ntmps200;go_wp2_with (first|(go_at_call 170;refine(dQ _ _).mono ?_;rintro e w' ⟨rfl,rfl⟩)|(go_at_call 172;refine(fO _ _).mono ?_;rintro e w' ⟨rfl,rfl⟩));go_ret;exact⟨b9 (by simp[g9,hl]),rfl⟩
 .have hl':jk c=false:=by simpa using hl
  clear hl;by_cases hd:fC c=true
  .go_enter Tryz.func200,Tryz.ntmps200;go_wp2_with (first|(go_at_call 170;refine(dQ _ _).mono ?_;rintro e w' ⟨rfl,rfl⟩)|(go_at_call 172;refine(fO _ _).mono ?_;rintro e w' ⟨rfl,rfl⟩));go_ret;exact⟨b9 (by simp[g9,hd]),rfl⟩
  .have hd':fC c=false:=by simpa using hd
   clear hd;by_cases hu:65≤c
   .by_cases hu2:c≤90
    .go_enter Tryz.func200,Tryz.ntmps200;go_wp2_with (first|(go_at_call 170;refine(dQ _ _).mono ?_;rintro e w' ⟨rfl,rfl⟩)|(go_at_call 172;refine(fO _ _).mono ?_;rintro e w' ⟨rfl,rfl⟩));go_ret;exact⟨b9 (by simp[g9,Cm,hu,hu2]),rfl⟩
    .go_enter Tryz.func200,Tryz.ntmps200;go_wp2_with (first|(go_at_call 170;refine(dQ _ _).mono ?_;rintro e w' ⟨rfl,rfl⟩)|(go_at_call 172;refine(fO _ _).mono ?_;rintro e w' ⟨rfl,rfl⟩));go_ret;exact⟨b9 (by rw[g9,hl',hd',Cm,Pa];simp;omega),rfl⟩
   .go_enter Tryz.func200,Tryz.ntmps200;go_wp2_with (first|(go_at_call 170;refine(dQ _ _).mono ?_;rintro e w' ⟨rfl,rfl⟩)|(go_at_call 172;refine(fO _ _).mono ?_;rintro e w' ⟨rfl,rfl⟩));go_ret;exact⟨b9 (by rw[g9,hl',hd',Cm,Pa];simp;omega),rfl⟩
theorem mr{P:Program}(w:World)(s:ByteArray)(pos:Nat)(ty:TypeId)(h:pos<s.size):
 (Instr.next (.pointer (some ⟨w.heap.size,0,none⟩)) true ty).run P (w.iter s pos)=
   .ok (.tuple #[.bool true,.int .i64 pos,.int .i32 (Utf8.decode s pos).1]) (w.iter s (pos+(Utf8.decode s pos).2)):=by
 simp only[Instr.next,getObj,setObj,Sem.run_bind,Sem.run,World.iter_heap,Result.andThen,h,if_true,World.iter_set];simp[goInt]
theorem jP(s:ByteArray)(pos:Nat)(h:pos<s.size)(ha:128≤(s[pos]'h).toNat):128≤(Utf8.decode s pos).1:=by
 have e:s.get! (pos+0)=s[pos]'h:=by
  show s.get! pos=_;simp[ByteArray.get!,getElem!_pos,h];rfl
 have e2:¬(s[pos]'h).toNat<128:=by omega
 simp only[Utf8.decode,e,e2,if_false];split
 .split<;>(try simp only[Utf8.runeError])<;>omega
 .split
  .split
   .rename_i h2;simp only[Pb,decide_eq_true_eq]at h2;omega
   .simp only[Utf8.runeError];omega
  .split
   .split
    .rename_i h2;simp only[Pb,decide_eq_true_eq]at h2;omega
    .simp only[Utf8.runeError];omega
   .simp only[Utf8.runeError];omega
def p7:List UInt8->Bool
 | []=>false
 | c::r=>jk c.toNat&&(c::r).all fun c=>g9 c.toNat
def iu(s:ByteArray):Bool:=p7 s.data.toList
theorem Ext.iter{a w:World}(h:Ext a w)(s:ByteArray)(pos:Nat):Ext a (w.iter s pos):=h.alloc _
def G5(s:ByteArray)(pos:Nat):Prop:=(∀k (h:k<s.size),k<pos->g9 (s[k]'h).toNat=true)/\(∀h:0<s.size,0<pos->jk (s[0]'h).toNat=true)
theorem vQ{s:ByteArray}(h:G5 s s.size)(h0:0<s.size):iu s=true:=by
 have hl:=h.2 h0 h0;have hf:=h.1;unfold iu
 match e:s.data.toList with
 | []=>
  have:s.data.toList.length=s.size:=by simp
  rw[e]at this;simp at this;omega
 | c::r=>
  have hlen:(c::r).length=s.size:=by rw[<-e];simp
  have hget:∀k (hk:k<(c::r).length),(c::r)[k]=s[k]'(by omega):=by
   intro k hk;simp only[<-e];simp;rfl
  have h00:=hget 0 (by simp);simp only[List.getElem_cons_zero]at h00;simp only[p7,Pb];refine⟨by rw[h00];exact hl,List.all_eq_true.2 fun x hx=>?_⟩;obtain⟨k,hk,rfl⟩:=List.getElem_of_mem hx;rw[hget k hk];exact hf k (by omega) (by omega)
theorem qG{s:ByteArray}{k:Nat}(hk:k<s.size)(h:g9 (s[k]'hk).toNat=false):iu s=false:=by
 unfold iu
 have hm:s[k]'hk∈s.data.toList:=by
  have:s[k]'hk=s.data.toList[k]'(by simpa using hk):=by simp;rfl
  rw[this];exact Pi _
 match e:s.data.toList with
 | []=>rfl
 | c::r=>
  rw[e]at hm;simp only[p7,Bool.and_eq_false_iff];right;exact List.all_eq_false.2 ⟨_,hm,by simp[h]⟩
theorem rj{s:ByteArray}(hk:0<s.size)(h:jk (s[0]'hk).toNat=false):iu s=false:=by
 unfold iu
 match e:s.data.toList with
 | []=>rfl
 | c::r=>
  have:c=s[0]'hk:=by
   have h1:s[0]'hk=s.data.toList[0]'(by simpa using hk):=by simp;rfl
   rw[h1];simp[e]
  simp[p7,this,h]
theorem kE{c:Int}(h:128≤c):g9 c=false:=by
 simp[g9,jk,fC,Cm];omega
theorem qP{c:Int}(h:128≤c):jk c=false:=by
 simp[jk];omega
theorem oY(s:ByteArray)(w:World)(hs:s.size≤9223372036854775807):
 Calls Tryz.prog 146 #[.string s] w fun e w'=>e=.returned (.bool (iu s))/\Ext w w':=by
 go_enter Tryz.func146,Tryz.ntmps146;go_wp2_with fail;go_loopw [3,4] (fun _ _ wr=>∃pos:Nat,pos≤s.size/\wr=w.iter s pos/\G5 s pos) (fun _ _ wr=>match wr.heap[w.heap.size]? with|some (.stringIter _ p)=>s.size-p|_=>0);case atStart=>exact⟨0,Pl _,rfl,fun k _ h=>by omega,fun _ h=>by omega⟩
 case round=>
  obtain⟨pos,hp,rfl,hb⟩:=hrel;have HB:=Lib.hid hb;clear hb;by_cases hlt:pos<s.size
  .have hnx:=fun ty=>mr (P:=Tryz.prog) w s pos ty hlt;by_cases h0:pos=0
   .subst h0;by_cases hl:jk (Utf8.decode s 0).1=true
    .have ha:(s[0]'hlt).toNat<128:=by
      apply Classical.byContradiction;intro hn;rw[qP (by have:=jP s 0 hlt (by omega);omega)]at hl;cases hl
     have hd:=decode_ascii s 0 hlt ha;have HD:=Lib.hid hd;clear hd;have hd1:(Utf8.decode s 0).2=1:=by rw[HD.out]
     have hf:g9 (Utf8.decode s 0).1=true:=by simp[g9,hl]
     go_wp2_with (first|(go_at_call 170;refine(dQ _ _).mono ?_;rintro e w' ⟨rfl,rfl⟩)|(go_at_call 200;refine(fV _ _).mono ?_;rintro e w' ⟨rfl,rfl⟩));go_roundw
     case rel=>
      refine⟨1,hlt,by simp,?_,?_⟩
      .intro k hk hk1;have:k=0:=by omega
       subst this;rw[HD.out]at hf;exact hf
      .intro h _;rw[HD.out]at hl;exact hl
     case measure=>simp[World.iter_heap];omega
    .have hl':jk (Utf8.decode s 0).1=false:=by simpa using hl
     clear hl;go_wp2_with (first|(go_at_call 170;refine(dQ _ _).mono ?_;rintro e w' ⟨rfl,rfl⟩)|(go_at_call 200;refine(fV _ _).mono ?_;rintro e w' ⟨rfl,rfl⟩));go_ret;refine⟨b9 ?_,(Ext.refl w).iter _ _⟩;by_cases ha:(s[0]'hlt).toNat<128
     .exact(rj hlt (by rw[decode_ascii s 0 hlt ha]at hl';exact hl')).symm
     .exact(rj hlt (qP (by omega))).symm
   .have h0':((pos:Int)==0)=false:=by rw[beq_eq_false_iff_ne];omega
    by_cases hf:g9 (Utf8.decode s pos).1=true
    .have ha:(s[pos]'hlt).toNat<128:=by
      apply Classical.byContradiction;intro hn;rw[kE (by have:=jP s pos hlt (by omega);omega)]at hf;cases hf
     have hd:=decode_ascii s pos hlt ha;have HD:=Lib.hid hd;clear hd;have hd1:(Utf8.decode s pos).2=1:=by rw[HD.out]
     go_wp2_with (first|(go_at_call 170;refine(dQ _ _).mono ?_;rintro e w' ⟨rfl,rfl⟩)|(go_at_call 200;refine(fV _ _).mono ?_;rintro e w' ⟨rfl,rfl⟩));go_roundw
     case rel=>
      refine⟨pos+1,hlt,by simp,?_,?_⟩
      .intro k hk hk1;by_cases hkp:k=pos
       .subst hkp;rw[HD.out]at hf;exact hf
       .exact HB.out.1 k hk (by omega)
      .intro h _;exact HB.out.2 h (by omega)
     case measure=>simp[World.iter_heap];omega
    .have hf':g9 (Utf8.decode s pos).1=false:=by simpa using hf
     clear hf;go_wp2_with (first|(go_at_call 170;refine(dQ _ _).mono ?_;rintro e w' ⟨rfl,rfl⟩)|(go_at_call 200;refine(fV _ _).mono ?_;rintro e w' ⟨rfl,rfl⟩));go_ret;refine⟨b9 ?_,(Ext.refl w).iter _ _⟩;by_cases ha:(s[pos]'hlt).toNat<128
     .exact(qG hlt (by rw[decode_ascii s pos hlt ha]at hf';exact hf')).symm
     .exact(qG hlt (kE (by omega))).symm
  .have:pos=s.size:=by omega
   subst this;have hnx:=fun ty=>run_next_end (P:=Tryz.prog) w s s.size ty (by omega);go_wp2_with fail;go_ret;refine⟨b9 ?_,(Ext.refl w).iter _ _⟩;by_cases h0:0<s.size
   .rw[vQ HB.out h0]
    match e:s.toList with
    | []=>rw[ByteArray.toList_eq]at e;have h9:=Lib.size_eq s;rw[e]at h9;simp only[List.length_nil]at h9;omega
    | _::_=>rfl
   .have:s.data.toList=[]:=Pd (by have:=Lib.size_eq s;omega);simp[iu,this,ByteArray.toList_eq,p7]
def ql:List ByteArray->ByteArray->Nat->Int
 | [],_,_=>-1
 | a::r,s,i=>if s=a then i else ql r s (i+1)
theorem FY(l:List ByteArray)(s:ByteArray):∀i:Nat,(0≤ql l s i↔s∈l):=by
 induction l with
 | nil=>intro i;simp[ql]
 | cons a r ih=>
  intro i;simp only[ql,List.mem_cons];split
  .rename_i h;simp[h]
  .rename_i h;rw[ih];simp[h]
theorem zf(l:List ByteArray)(s:ByteArray)(v:Value)(w:World)(hv:ez w l v):
 Calls Tryz.prog 237 #[v,.string s] w fun e w'=>e=.returned (.int .i64 (ql l s 0))/\w=w':=by
 have hv':=hv;obtain⟨p,cap,rfl,h1,h2,h3⟩:=hv';have H3:=Lib.hid h3;clear h3;have HV:=Lib.hid hv;clear hv;go_enter Tryz.func237,Tryz.ntmps237;go_wp2_with fail;go_loop [8,5] (fun i _=>∃j:Nat,i=.int .i64 j/\j≤l.length/\ql (l.drop j) s j=ql l s 0) (fun i _=>l.length-(intOf i).toNat);case atStart=>exact⟨0,rfl,Pl _,rfl⟩
 case round=>
  obtain⟨j,rfl,hj,hrec⟩:=hrel;have HR:=Lib.hid hrec;clear hrec;by_cases hlt:j<l.length
  .obtain⟨b,off,rfl,hc⟩:=FW HV.out hlt;by_cases he:s=l[j]
   .have he':(s.toList==(l[j]).toList)=true:=by rw[CI];simpa using he
    have HE:=Lib.hid he;clear he;go_wp2_with fail;go_ret;exact⟨dY (by rw[<-HR.out,Pe hlt,ql,if_pos HE.out]),rfl⟩
   .have he':(s.toList==(l[j]).toList)=false:=by rw[CI];simpa using he
    go_wp2_with fail;go_round;case rel=>exact⟨j+1,by go_num,by omega,by rw[<-HR.out,Pe hlt,ql,if_neg he]⟩
    case measure=>simp[intOf];omega
  .have:j=l.length:=by omega
   subst this;go_wp2_with fail;go_ret;exact⟨dY (by rw[<-HR.out];simp[ql]),rfl⟩
theorem rX(l:List ByteArray)(s:ByteArray)(v:Value)(w:World)(hv:ez w l v):
 Calls Tryz.prog 201 #[v,.string s] w fun e w'=>e=.returned (.bool (inB s l))/\w=w':=by
 have hi:=FY l s 0;have HI:=Lib.hid hi;clear hi;go_enter Tryz.func201,Tryz.ntmps201;go_wp2_with (go_at_call 237;refine(zf _ _ _ _ hv).mono ?_;rintro e w' ⟨rfl,rfl⟩);go_ret;exact⟨b9 (by rw[Pa,FA];simpa using HI.out),rfl⟩
def mG(w:World):Prop:=∃v,w.cell? ⟨0,0,none⟩=some v/\ez w dU v
theorem mG.ext{w w':World}(h:Ext w w'):mG w->mG w'
 | ⟨v,h1,h2⟩=>⟨v,h.cell h1,h2.ext h⟩
theorem fS(s:ByteArray)(w:World)(hk:mG w):
 Calls Tryz.prog 147 #[.string s] w fun e w'=>e=.returned (.bool (inB s dU))/\w=w':=by
 obtain⟨v,h1,h2⟩:=hk;go_enter Tryz.func147,Tryz.ntmps147;go_wp2_with (go_at_call 201;refine(rX _ _ _ _ h2).mono ?_;rintro e w' ⟨rfl,rfl⟩);go_ret;exact⟨rfl,rfl⟩
def cX(s:ByteArray):Bool:=iu s&&decide (s.size≤16) && !inB s dU
theorem fQ(s:ByteArray)(w:World)(hs:s.size≤9223372036854775807)(hk:mG w):
 Calls Tryz.prog 96 #[.string s] w fun e w'=>e=.returned (.bool (cX s))/\Ext w w':=by
 have HK:=Lib.hid hk;clear hk;by_cases hw:iu s=true
 .by_cases hz:s.size≤16
  .go_enter Tryz.func96,Tryz.ntmps96;go_wp2_with (first|(go_at_call 146;refine(oY _ _ hs).mono ?_;rintro e w' ⟨rfl,hx⟩)|(go_at_call 147;refine(fS _ _ (HK.out.ext (by assumption))).mono ?_;rintro e w' ⟨rfl,rfl⟩));go_ret;exact⟨b9 (by simp[cX,hw,hz]),by assumption⟩
  .go_enter Tryz.func96,Tryz.ntmps96;go_wp2_with (first|(go_at_call 146;refine(oY _ _ hs).mono ?_;rintro e w' ⟨rfl,hx⟩)|(go_at_call 147;refine(fS _ _ (HK.out.ext (by assumption))).mono ?_;rintro e w' ⟨rfl,rfl⟩));go_ret;exact⟨b9 (by rw[cX,hw,decide_eq_false (by omega)];rfl),by assumption⟩
 .have hw':iu s=false:=by simpa using hw
  clear hw;go_enter Tryz.func96,Tryz.ntmps96;go_wp2_with (first|(go_at_call 146;refine(oY _ _ hs).mono ?_;rintro e w' ⟨rfl,hx⟩)|(go_at_call 147;refine(fS _ _ (HK.out.ext (by assumption))).mono ?_;rintro e w' ⟨rfl,rfl⟩));go_ret;exact⟨b9 (by simp[cX,hw']),by assumption⟩
theorem kO(s:ByteArray)(c:Int)(w:World):
 Calls Tryz.prog 278 #[.string s,.int .u8 c] w fun e w'=>e=.returned (.int .i64 (Lib.indexByte s.data.toList c.toNat.toUInt8))/\w=w':=by
 have hx:∀w,(callFunc 305 #[.string s,.int .u8 c]).run Tryz.prog w=.ok (.value (.int .i64 (Lib.indexByte s.data.toList c.toNat.toUInt8))) w:=fun w=>by
  rw[run_callFunc_extern Tryz.func305 (by kernel_rfl) (by kernel_rfl) (by kernel_rfl) (e:=Extern.BytealgIndexByte.indexByte) (by kernel_rfl),Lib.run_indexByteString];rfl
 go_enter Tryz.func278,Tryz.ntmps278;go_wp2_with fail;go_ret;exact⟨rfl,rfl⟩
theorem C5{s:ByteArray}{c:UInt8}(h:([c]==s.toList)=true):Lib.indexByte s.data.toList c=0:=by
 rw[ByteArray.toList_eq]at h;rw[<-(beq_iff_eq.1 h)];simp[Lib.indexByte]
theorem As(s:ByteArray)(c:UInt8)(w:World):
 Calls Tryz.prog 277 #[.string s,.string ⟨#[c]⟩] w fun e w'=>e=.returned (.int .i64 (Lib.indexByte s.data.toList c))/\w=w':=by
 by_cases he:([c]==s.toList)=true
 .have h0:=C5 he;have H0:=Lib.hid h0;clear h0;go_enter Tryz.func277,Tryz.ntmps277;go_wp2_with (go_at_call 278;refine(kO _ _ _).mono ?_;rintro e w' ⟨rfl,rfl⟩);go_ret;exact⟨dY H0.out.symm,rfl⟩
 .have he':([c]==s.toList)=false:=by simpa using he
  clear he;go_enter Tryz.func277,Tryz.ntmps277;go_wp2_with (go_at_call 278;refine(kO _ _ _).mono ?_;rintro e w' ⟨rfl,rfl⟩);go_ret;exact⟨dY (congrArg (Lib.indexByte s.data.toList) (by rfl)),rfl⟩
def su(s:ByteArray)(c:UInt8):ByteArray:=if Lib.indexByte s.data.toList c = -1 then s else s.extract 0 (Lib.indexByte s.data.toList c).toNat
def sb(s:ByteArray)(c:UInt8):ByteArray:=if Lib.indexByte s.data.toList c = -1 then⟨#[]⟩else s.extract ((Lib.indexByte s.data.toList c).toNat+1) s.size
def rA(s:ByteArray)(c:UInt8):Bool:=decide (0≤Lib.indexByte s.data.toList c)
theorem EX{s:ByteArray}{c:UInt8}{o:Nat}(h:Lib.indexByte s.data.toList c=o):o<s.size:=by
 have:=(Lib.indexByte_some h).1;rw[Lib.size_eq];exact(List.getElem?_eq_some_iff.1 this).1
theorem Ei(s:ByteArray)(c:UInt8)(w:World)(hs:s.size≤9223372036854775807):
 Calls Tryz.prog 275 #[.string s,.string ⟨#[c]⟩] w fun e w'=>e=.returned (.tuple #[.string (su s c),.string (sb s c),.bool (rA s c)])/\Ext w w':=by
 have h1:=Lib.indexByte_ge s.data.toList c;unfold su sb rA;have hc:=As s c;by_cases hi:Lib.indexByte s.data.toList c = -1
 .rw[hi]at hc ⊢;have HC:=Lib.hid hc;clear hc;clear h1 hi;go_enter Tryz.func275,Tryz.ntmps275;go_wp2_with (go_at_call 277;refine(HC.out _).mono ?_;rintro e w' ⟨rfl,rfl⟩);go_ret3;exact⟨rfl,Ext.refl _⟩
 .obtain⟨o,ho⟩:=Int.eq_ofNat_of_zero_le (a:=Lib.indexByte s.data.toList c) (by omega);have hlt:=EX ho;rw[ho]at hc ⊢;have HC:=Lib.hid hc;clear hc;clear h1 hi;have HO:=Lib.hid ho;clear ho;have e1:IntKind.i64.wrap ((o:Int)+1)=(o:Int)+1:=IntWalk.i64_in _ (by omega);have e2:((o:Int)+1).toNat=o+1:=by omega
  go_enter Tryz.func275,Tryz.ntmps275;go_wp2_with (go_at_call 277;refine(HC.out _).mono ?_;rintro e w' ⟨rfl,rfl⟩);go_quiet (fail);go_wp2_with fail;go_ret3;exact⟨rfl,(Ext.refl w).drewN _⟩
theorem Gx(s:ByteArray)(c:UInt8)(w:World)(hs:s.size≤9223372036854775807):
 Calls Tryz.prog 241 #[.string s,.string ⟨#[c]⟩] w fun e w'=>e=.returned (.tuple #[.string (su s c),.string (sb s c),.bool (rA s c)])/\Ext w w':=by
 go_enter Tryz.func241,Tryz.ntmps241;go_wp2_with (go_at_call 275;refine(Ei _ _ _ hs).mono ?_;rintro e w' ⟨rfl,hx⟩);go_ret3;exact⟨rfl,by assumption⟩
theorem FO(s:ByteArray)(c:UInt8):(su s c).size≤s.size:=by
 unfold su;split
 .exact Pk _
 .simp;omega
theorem Fc(s:ByteArray)(c:UInt8):(sb s c).size≤s.size:=by
 unfold sb;split
 .exact Pl _
 .simp
def mT(t:ByteArray):Bool:=if h:t.size=2 then decide ((t[1]'(by omega)).toNat=93)&&decide (48≤(t[0]'(by omega)).toNat)&&decide ((t[0]'(by omega)).toNat<56)else false
def pj(s:ByteArray):Bool:=rA s 91&&cX (su s 91)&&mT (sb s 91)
def xf(eb:Bool)(w:World)(e:Ending)(w':World):Prop:=∃a i,e=.returned (.tuple #[.string a,.int .i64 i,.bool eb])/\Ext w w'
theorem xy{eb b:Bool}{w w':World}{a:ByteArray}{i:Int}(h:b=eb)(hx:Ext w w'):xf eb w (.returned (.tuple #[.string a,.int .i64 i,.bool b])) w':=⟨a,i,by rw[h],hx⟩
theorem An{t:ByteArray}(h:¬t.size=2):mT t=false:=by unfold mT;rw[dif_neg h]
theorem rz{t:ByteArray}(h:t.size=2):mT t=(decide ((t[1]'(by omega)).toNat=93)&&decide (48≤(t[0]'(by omega)).toNat)&&decide ((t[0]'(by omega)).toNat<56)):=by unfold mT;rw[dif_pos h]
theorem uk(s:ByteArray)(w:World)(hs:s.size≤9223372036854775807)(hk:mG w):
 Calls Tryz.prog 257 #[.string s] w (xf (pj s) w):=by
 have hA:=FO s 91;have hB:=Fc s 91;have hcut:=fun w=>Gx s 91 w hs;have hq:pj s=(rA s 91&&cX (su s 91)&&mT (sb s 91)):=rfl;generalize pj s=eb at hq ⊢;generalize su s 91=a at *;generalize sb s 91=b at *;generalize rA s 91=ok at *;have HQ:=Lib.hid hq;clear hq;have HK:=Lib.hid hk;clear hk;have HC:=Lib.hid hcut;clear hcut;by_cases hz:b.size=2
 .have k1:1<b.size:=by omega
  have k0:0<b.size:=by omega
  have HZ:=Lib.hid hz;clear hz;have hz2:((b.size:Int) != 2)=false:=by rw[HZ.out];rfl
  go_enter Tryz.func257,Tryz.ntmps257;go_wp2_with (first|(go_at_call 241;refine(HC.out _).mono ?_;rintro e w' ⟨rfl,hx⟩)|(go_at_call 96;refine(fQ _ _ (by omega) (HK.out.ext (by assumption))).mono ?_;rintro e w' ⟨rfl,hy⟩));all_goals (try (go_quiet (fail);go_wp2_with fail))
  all_goals go_ret3
  all_goals (go_light;refine xy ?_ (by first|exact(hx.trans hy).drewN _|exact hx.trans hy|exact hx);rw[HQ.out];first|(simp[*];done)|(rw[rz HZ.out];simp[*];done)|(rw[rz HZ.out,Pa];simp[*];omega))
 .have hc:=An hz;have HH:=Lib.hid hc;clear hc;have hz2:((b.size:Int) != 2)=true:=by rw[bne_iff_ne];omega
  clear hz;go_enter Tryz.func257,Tryz.ntmps257;go_wp2_with (first|(go_at_call 241;refine(HC.out _).mono ?_;rintro e w' ⟨rfl,hx⟩)|(go_at_call 96;refine(fQ _ _ (by omega) (HK.out.ext (by assumption))).mono ?_;rintro e w' ⟨rfl,hy⟩));all_goals go_ret3
  all_goals (go_light;refine xy ?_ (by first|exact hx.trans hy|exact hx);rw[HQ.out];first|(simp[*];done)|(rw[HH.out];simp;done))
abbrev Bs:=List UInt8
def inn(c:UInt8):Bool:=g9 c.toNat
def A6(c:UInt8):Bool:=c==32||c==9||c==10
def qk:Nat->Bs->Bs
 | 0,l=>l
 | _+1,[]=>[]
 | k+1,c::r=>if A6 c=true then qk k r else if c=47/\r.head? = some 47 then qk k ((c::r).dropWhile (· != 10))else c::r
def bQ(l:Bs):Bs:=qk l.length l
theorem iy{c:UInt8}{r:Bs}(h:c=47):((c::r).dropWhile (· != 10)).length≤r.length:=by
 subst h;rw[List.dropWhile_cons_of_pos (by decide)];exact List.IsSuffix.length_le (Pg _)
theorem BT:∀(k:Nat) (l:Bs),l.length≤k->qk k l=bQ l:=by
 intro k
 induction k using Pn with
 | ind k ih=>
 intro l hk
 match l with
 | []=>cases k<;>rfl
 | c::r=>
  match k with
  | 0=>simp at hk
  | k+1=>
   have hr:r.length≤k:=by simpa using hk
   unfold bQ;simp only[List.length_cons,qk];split
   .by_cases e:r.length<k
    .rw[ih k (by omega) r hr];rfl
    .have:r.length=k:=by omega
     rw[this]
   .split
    .rename_i h;have hd:=iy (r:=r) h.1;rw[ih k (by omega) _ (by omega)];by_cases e:r.length<k+1
     .exact(ih r.length e _ hd).symm
     .omega
    .rfl
theorem dP:bQ []=[]:=rfl
theorem dG(c:UInt8)(r:Bs):bQ (c::r)=if A6 c=true then bQ r else if c=47/\r.head? = some 47 then bQ ((c::r).dropWhile (· != 10))else c::r:=by
 show qk (r.length+1) (c::r)=_;rw[qk];split
 .rfl
 .split
  .rename_i h;exact BT _ _ (iy h.1)
  .rfl
theorem sw:∀(k:Nat) (l:Bs),l.length≤k->bQ l <:+ l:=by
 intro k
 induction k with
 | zero=>intro l h;have:l=[]:=Pd (by omega);subst this;exact Pf _
 | succ k ih=>
  intro l h
  match l with
  | []=>exact Pf _
  | c::r=>
   have hr:r.length≤k:=by simpa using h
   rw[dG];split
   .exact(ih r hr).trans (List.suffix_cons _ _)
   .split
    .rename_i hc;exact(ih _ (Pj (iy hc.1) hr)).trans (Pg _)
    .exact Pf _
theorem dx(l:Bs):bQ l <:+ l:=sw _ l (Pk _)
theorem m4(l:Bs):bQ (bQ l)=bQ l:=by
 suffices H:∀(k:Nat) (l:Bs),l.length≤k->bQ (bQ l)=bQ l from H _ l (Pk _)
 intro k
 induction k with
 | zero=>intro l h;have:l=[]:=Pd (by omega);subst this;rfl
 | succ k ih=>
  intro l h
  match l with
  | []=>rfl
  | c::r=>
   have hr:r.length≤k:=by simpa using h
   rw[dG];split
   .exact ih r hr
   .split
    .rename_i hc;exact ih _ (Pj (iy hc.1) hr)
    .rename_i h1 h2;rw[dG,if_neg h1,if_neg h2]
def aV:List Bs:=[[40],[41],[123],[125],[91],[93],[44],[59],[58],[46,46],[63],[61],[61,61],[33,61],[60],[60,61],[62],[62,61],[60,60],[62,62],[43],[45],[42],[38],[124],[94],[126],[33],[38,38],[124,124],[45,62],[61,62],[58,61],[58,47],[35,35],[64]]
def ga:List Bs->Nat->Bs->Nat
 | [],b,_=>b
 | m::r,b,l=>ga r (if b<m.length/\m.isPrefixOf l=true then m.length else b) l
def dW(l:Bs):Nat:=ga aV 0 l
def eG(l:Bs):Nat:=l.foldl (fun n c=>10*n+(c.toNat-48)) 0
inductive Rd where
 | err (e:Int)
 | tok (kind num:Int) (len:Nat)
def cP:Bs->Rd
 | []=>.err 5
 | c::r=>
  if jk c.toNat=true then
   if 16<((c::r).takeWhile inn).length then .err 2
   else .tok (if inB ⟨((c::r).takeWhile inn).toArray⟩ dU=true then 2 else 1) 0 ((c::r).takeWhile inn).length
  else if fC c.toNat=true then
   if(((c::r).takeWhile inn).all fun x=>fC x.toNat)=false\/(1<((c::r).takeWhile inn).length/\c=48)then .err 5
   else if 2147483647<eG ((c::r).takeWhile inn)then .err 3
   else .tok 3 (eG ((c::r).takeWhile inn)) ((c::r).takeWhile inn).length
  else if dW (c::r)=0 then .err 5 else .tok 4 0 (dW (c::r))
structure Tok where
 kind:Int
 num:Int
 text:ByteArray
 line:Int
inductive Lx where
 | ok (l:List Tok)
 | err (line e:Int)
def Lx.cons(t:Tok):Lx->Lx
 | .ok l=>.ok (t::l)
 | .err n e=>.err n e
def Lx.app(ts:List Tok):Lx->Lx
 | .ok l=>.ok (ts++l)
 | .err n e=>.err n e
def fN(N:Int)(r:Bs)(kind num:Int)(len:Nat):Tok:=⟨kind,num,⟨(r.take len).toArray⟩,N-(r.count 10:Nat)⟩
def A3:Nat->Int->Bs->Lx
 | 0,_,_=>.ok []
 | k+1,N,l=>match bQ l with
  | []=>.ok []
  | c::r=>match cP (c::r)with
   | .err e=>.err (N-((c::r).count 10:Nat)) e
   | .tok kind num len=>(A3 k N ((c::r).drop len)).cons (fN N (c::r) kind num len)
def dL(N:Int)(l:Bs):Lx:=A3 (l.length+1) N l
def dj(l:Bs):Lx:=dL (1+(l.count 10:Nat)) l
theorem ot:∀(ms:List Bs) (b:Nat) (l:Bs),ga ms b l=b\/∃m,m∈ms/\m.isPrefixOf l=true/\ga ms b l=m.length
 | [],b,l=>.inl rfl
 | m::r,b,l=>by
  simp only[ga];split
  .rename_i h;rcases ot r m.length l with h1|⟨m',h1,h2,h3⟩
   .exact .inr ⟨m,by simp,h.2,h1⟩
   .exact .inr ⟨m',by simp[h1],h2,h3⟩
  .rcases ot r b l with h1|⟨m',h1,h2,h3⟩
   .exact .inl h1
   .exact .inr ⟨m',by simp[h1],h2,h3⟩
theorem xP(l:Bs):dW l≤l.length/\dW l≤2:=by
 rcases ot aV 0 l with h|⟨m,h1,h2,h3⟩
 .unfold dW;rw[h];omega
 .have h4:=(List.isPrefixOf_iff_prefix.1 h2).length_le;have h5:m.length≤2:=(by decide:∀m,m∈aV->m.length≤2) m h1;unfold dW;omega
theorem gG{l:Bs}{kind num:Int}{len:Nat}(h:cP l=.tok kind num len):1≤len/\len≤l.length:=by
 match l with
 | []=>cases h
 | c::r=>
  have htw:((c::r).takeWhile inn).length≤(c::r).length:=(List.takeWhile_prefix _).length_le;have h1:inn c=true->1≤((c::r).takeWhile inn).length:=fun hi=>by rw[List.takeWhile_cons_of_pos hi];simp
  simp only[cP]at h;split at h
  .rename_i hl;split at h
   .cases h
   .cases h;exact⟨h1 (by unfold inn g9;simp[hl]),htw⟩
  .split at h
   .rename_i hd;split at h
    .cases h
    .split at h
     .cases h
     .cases h;exact⟨h1 (by unfold inn g9;simp[hd]),htw⟩
   .split at h
    .cases h
    .cases h;have:=xP (c::r);omega
theorem E4:∀(k:Nat) (N:Int) (l:Bs),l.length<k->A3 k N l=dL N l:=by
 intro k
 induction k using Pn with
 | ind k ih=>
 intro N l hk
 match k with
 | 0=>omega
 | k+1=>
  unfold dL;simp only[A3];have hs:=(dx l).length_le;cases hsk:bQ l with
  | nil=>rfl
  | cons c r=>
   rw[hsk]at hs;simp only;cases hrd:cP (c::r)with
   | err e=>rfl
   | tok kind num len=>
    obtain⟨h1,h2⟩:=gG hrd;have h3:((c::r).drop len).length<l.length:=by rw[Ph];omega
    simp only;rw[ih k (by omega) N _ (by omega)];by_cases e:l.length<k+1
    .rw[ih l.length (by omega) N _ h3]
    .omega
theorem bC(N:Int)(l:Bs):dL N l=match bQ l with
 | []=>.ok []
 | c::r=>match cP (c::r)with
  | .err e=>.err (N-((c::r).count 10:Nat)) e
  | .tok kind num len=>(dL N ((c::r).drop len)).cons (fN N (c::r) kind num len):=by
 have:dL N l=A3 (l.length+1) N l:=rfl;rw[this,A3];have hs:=(dx l).length_le;cases hsk:bQ l with
 | nil=>rfl
 | cons c r=>
  rw[hsk]at hs;simp only;cases hrd:cP (c::r)with
  | err e=>rfl
  | tok kind num len=>
   obtain⟨h1,h2⟩:=gG hrd;simp only;rw[E4 _ N _ (by rw[Ph];omega)]
end Go.Proofs.YtnhphlmblenapaaGreatDoor
