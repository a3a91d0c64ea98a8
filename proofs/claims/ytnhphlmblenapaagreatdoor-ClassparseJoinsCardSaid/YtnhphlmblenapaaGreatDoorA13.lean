import Derived.WalkKit
import Derived.Lib.Hide
import Derived.OwnWalk
import Derived.MapKept
import Derived.Deep.Draws
import Derived.Laws.CopyRow
import Derived.Laws.OwnMore
import Derived.Laws.Small
import Derived.Laws.BytesArg
import Derived.ChangeKeysEq
import Derived.WideLaws
import Derived.Laws.MakeOwn
set_option linter.unusedVariables false
set_option linter.unusedSimpArgs false
set_option linter.unusedSectionVars false
open Array renaming toList_inj->Pa,getElem?_eq_getElem->Pb,getElem?_toList->Pd,getElem_toList->Pe,toList_map->Pf,getElem?_append_right->Pg,getElem?_append_left->Ph,toList_zipIdx->Pi,foldl_toList->Pj,append_assoc->Pk
open Bool renaming and_eq_true->Pl,false_eq_true->Pm,not_eq_true'->Pn
open List renaming getElem?_eq_getElem->Po,getElem?_append_left->Pp,getElem?_append_right->Pq,getElem_mem->Pr,mem_of_getElem?->Ps,length_append->Pt,getElem_cons_zero->Pu,getElem_append_right->Pv,getElem_append_left->Pw,getElem_map->Px,getElem_of_mem->Py,map_cons->Pz,getElem_take->PA,getElem_drop->PB,getElem?_take_of_lt->PC,getElem?_set_self->PD,getElem?_toArray->PE,getElem?_set_ne->PF,size_toArray->PG,append_assoc->PH,range->PI,getD_eq_getElem?_getD->PJ,getElem?_cons_zero->PL,take_of_length_le->PM,getElem_range->PN,getElem?_drop->PO,nodup_append->PS,getElem?_map->PT,getElem?_inj->PU,flatten_cons->PV,zipIdx_cons->PW,map_toArray->PX,length_cons->PY,filter_cons->PZ,nodup_cons->P0,length_map->P1,map_nil->P2
open Nat renaming mul_le_mul_right->P3,zero_add->P4,lt_of_lt_of_le->P5,le_refl->P6,add_mul->P7,mul_le_mul_left->P8,add_assoc->P9,zero_le->Qa,add_zero->Qb,one_mul->Qc,mul_comm->Qd,zero_mul->Qe,le_of_eq->Qf,mod_lt->Qg
namespace Go.Proofs.YtnhphlmblenapaaGreatDoor
open Go.RowKit
inductive D where
 | lit (v:Value)
 | sl (rows:List (List D))
abbrev ao:=Nat->Nat->Option Value
def ao.le(M M':ao):Prop:=∀b o x,M b o=some x->M' b o=some x
theorem ao.le.refl(M:ao):M.le M:=fun _ _ _ h=>h
theorem ao.le.trans{M M' M'':ao}(h:M.le M')(k:M'.le M''):M.le M'':=fun b o x hx=>k b o x (h b o x hx)
def ao.hold(M:ao)(w:World):Prop:=∀b o x,M b o=some x->w.cell? ⟨b,o,none⟩=some x
def c7:Value->Prop
 | .int k n=>k.min≤n/\n≤k.max
 | .string s=>s.size≤maxLen
 | .agg _=>False
 | .tuple _=>False
 | _=>True
theorem c7.one{v:Value}(h:c7 v):v.oneCell'=true:=by
 cases v<;>first|rfl|exact h.elim
inductive DRep(M:ao):D->Value->Prop
 | lit (v:Value) (h:c7 v):DRep M (.lit v) v
 | sl (rows:List (List D)) (k:Nat) (p:Option Addr) (cap:Nat) (val:Nat->Nat->Value) (hk:∀r∈rows,r.length=k)
  (hd:∀i j (hi:i<rows.length) (hj:j<rows[i].length),DRep M rows[i][j] (val i j))
  (hf:∀i,i<rows.length->∃b off,p=some ⟨b,off,none⟩/\∀j,j<k->M b (off+i*k+j)=some (val i j))
  (hc:rows.length≤cap) (hm:cap≤maxLen):DRep M (.sl rows) (.slice p rows.length cap)
theorem DRep.mono{M M':ao}(hM:M.le M'){x:D}{v:Value}(h:DRep M x v):DRep M' x v:=by
 induction h with
 | lit v h=>exact .lit v h
 | sl rows k p cap val hk hd hf hc hm ih=>
  refine .sl rows k p cap val hk ih (fun i hi=>?_) hc hm;obtain⟨b,off,h1,h2⟩:=hf i hi;exact⟨b,off,h1,fun j hj=>hM _ _ _ (h2 j hj)⟩
theorem DRep.one{M:ao}{x:D}{v:Value}(h:DRep M x v):v.oneCell'=true:=by
 cases h with
 | lit v h=>exact h.one
 | sl=>rfl
inductive Key where
 | i (n:Int)
 | s (b:ByteArray)
 deriving DecidableEq
def Key.v:Key->Value
 | .i n=>.int .i64 n
 | .s b=>.string b
def Key.isStr:Key->Bool
 | .i _=>false
 | .s _=>true
inductive V where
 | d (x:D)
 | own (T:TypeId) (k:Nat) (rows:List (List D))
 | nil
 | agg (cs:List V)
 | tup (vs:List V)
 | ptr (i off:Nat)
 | row (cs:List D) (off:Nat)
 | bsl (i off n k:Nat)
 | fn (f:FuncId) (cap:List V)
 | bnd (f:FuncId) (first:List V)
 | iface (t:TypeId) (v:V)
 | mp (i:Nat)
 | bsc (i n c:Nat)
 | mapc (st:Bool) (kv:List (Key×V))
 | junk
inductive Rep(M:ao)(bm:List Nat):V->Value->Prop
 | d {x:D} {v:Value} (h:DRep M x v):Rep M bm (.d x) v
 | own {T:TypeId} {k:Nat} {rows:List (List D)} {v:Value} (h:DRep M (.sl rows) v):Rep M bm (.own T k rows) v
 | nil:Rep M bm .nil (.slice none 0 0)
 | agg {cs:List V} {vs:List Value} (hl:vs.length=cs.length) (h:∀i (h:i<cs.length) (h':i<vs.length),Rep M bm cs[i] vs[i]) (h1:∀v∈vs,v.oneCell'=true):Rep M bm (.agg cs) (.agg vs.toArray)
 | tup {cs:List V} {vs:List Value} (hl:vs.length=cs.length) (h:∀i (h:i<cs.length) (h':i<vs.length),Rep M bm cs[i] vs[i]):Rep M bm (.tup cs) (.tuple vs.toArray)
 | ptr {i off b:Nat} (h:bm[i]? = some b):Rep M bm (.ptr i off) (.pointer (some ⟨b,off,none⟩))
 | row {cs:List D} {off b o:Nat} (val:Nat->Value) (hf:∀j,j<cs.length->M b (o+j)=some (val j)) (hd:∀j (h:j<cs.length),DRep M cs[j] (val j)):Rep M bm (.row cs off) (.pointer (some ⟨b,o+off,none⟩))
 | bsl {i off n k b cap:Nat} (h:bm[i]? = some b) (hc:n≤cap) (hm:cap≤maxLen):Rep M bm (.bsl i off n k) (.slice (some ⟨b,off,none⟩) n cap)
 | fn {f:FuncId} {cs:List V} {vs:List Value} (hl:vs.length=cs.length) (h:∀i (h:i<cs.length) (h':i<vs.length),Rep M bm cs[i] vs[i]):Rep M bm (.fn f cs) (.func (.func f) #[] vs.toArray)
 | bnd {f:FuncId} {cs:List V} {vs:List Value} (hl:vs.length=cs.length) (h:∀i (h:i<cs.length) (h':i<vs.length),Rep M bm cs[i] vs[i]):Rep M bm (.bnd f cs) (.func (.func f) vs.toArray #[])
 | iface {t:TypeId} {x:V} {v:Value} (h:Rep M bm x v):Rep M bm (.iface t x) (.iface t v)
 | mp {i b:Nat} (h:bm[i]? = some b):Rep M bm (.mp i) (.map (some b))
 | bsc {i n c b:Nat} (h:bm[i]? = some b) (hc:n≤c) (hm:c≤maxLen):Rep M bm (.bsc i n c) (.slice (some ⟨b,0,none⟩) n c)
 | junk (v:Value):Rep M bm .junk v
theorem Rep.mono{M M':ao}{bm bm':List Nat}(hM:M.le M')(hb:∀(i b:Nat),bm[i]? = some b->bm'[i]? = some b){x:V}{v:Value}(h:Rep M bm x v):Rep M' bm' x v:=by
 induction h with
 | d h=>exact .d (h.mono hM)
 | own h=>exact .own (h.mono hM)
 | nil=>exact .nil
 | agg hl h h1 ih=>exact .agg hl ih h1
 | tup hl h ih=>exact .tup hl ih
 | ptr h=>exact .ptr (hb _ _ h)
 | row val hf hd=>exact .row val (fun j hj=>hM _ _ _ (hf j hj)) (fun j hj=>(hd j hj).mono hM)
 | bsl h hc hm=>exact .bsl (hb _ _ h) hc hm
 | fn hl h ih=>exact .fn hl ih
 | bnd hl h ih=>exact .bnd hl ih
 | iface h ih=>exact .iface ih
 | mp h=>exact .mp (hb _ _ h)
 | bsc h hc hm=>exact .bsc (hb _ _ h) hc hm
 | junk v=>exact .junk v
def V.copy:V->V
 | .own _ _ rows=>.d (.sl rows)
 | x=>x
def V.lend1:V->V
 | .own _ _ rows=>.d (.sl rows)
 | .nil=>.d (.sl [])
 | x=>x
def V.lend:V->V
 | .own _ _ rows=>.d (.sl rows)
 | .nil=>.d (.sl [])
 | .agg cs=>.agg (cs.map V.lend1)
 | x=>x
def V.cells:V->List V
 | .agg cs=>cs.map V.copy
 | x=>[x.copy]
theorem DRep.nil(M:ao):DRep M (.sl []) (.slice none 0 0):=
 .sl [] 0 none 0 (fun _ _=>.nilIface) (by simp) (fun i j hi=>by simp at hi) (fun i hi=>by simp at hi) (P6 _) (by unfold maxLen;omega)
theorem Rep.copy{M:ao}{bm:List Nat}{x:V}{v:Value}(h:Rep M bm x v):Rep M bm x.copy v:=by
 cases h with
 | own h=>exact .d h
 | d h=>exact .d h
 | nil=>exact .nil
 | agg hl h h1=>exact .agg hl h h1
 | tup hl h=>exact .tup hl h
 | ptr h=>exact .ptr h
 | row val hf hd=>exact .row val hf hd
 | bsl h hc hm=>exact .bsl h hc hm
 | fn hl h=>exact .fn hl h
 | bnd hl h=>exact .bnd hl h
 | iface h=>exact .iface h
 | mp h=>exact .mp h
 | bsc h hc hm=>exact .bsc h hc hm
 | junk v=>exact .junk v
theorem Rep.lend1{M:ao}{bm:List Nat}{x:V}{v:Value}(h:Rep M bm x v):Rep M bm x.lend1 v:=by
 cases h with
 | own h=>exact .d h
 | d h=>exact .d h
 | nil=>exact .d (DRep.nil M)
 | agg hl h h1=>exact .agg hl h h1
 | tup hl h=>exact .tup hl h
 | ptr h=>exact .ptr h
 | row val hf hd=>exact .row val hf hd
 | bsl h hc hm=>exact .bsl h hc hm
 | fn hl h=>exact .fn hl h
 | bnd hl h=>exact .bnd hl h
 | iface h=>exact .iface h
 | mp h=>exact .mp h
 | bsc h hc hm=>exact .bsc h hc hm
 | junk v=>exact .junk v
theorem Rep.lend{M:ao}{bm:List Nat}{x:V}{v:Value}(h:Rep M bm x v):Rep M bm x.lend v:=by
 cases h with
 | own h=>exact .d h
 | d h=>exact .d h
 | nil=>exact .d (DRep.nil M)
 | agg hl h h1=>exact .agg (by simpa using hl) (fun i h' h''=>by simpa using(h i (by simpa using h') h'').lend1) h1
 | tup hl h=>exact .tup hl h
 | ptr h=>exact .ptr h
 | row val hf hd=>exact .row val hf hd
 | bsl h hc hm=>exact .bsl h hc hm
 | fn hl h=>exact .fn hl h
 | bnd hl h=>exact .bnd hl h
 | iface h=>exact .iface h
 | mp h=>exact .mp h
 | bsc h hc hm=>exact .bsc h hc hm
 | junk v=>exact .junk v
abbrev LLD:=List (List D)
theorem V.copy_own{x:V}{T:TypeId}{k:Nat}{rows:LLD}:x.copy≠.own T k rows:=by cases x<;>simp[V.copy]
theorem V.lend_own{x:V}{T:TypeId}{k:Nat}{rows:LLD}:x.lend≠.own T k rows:=by cases x<;>simp[V.lend]
theorem Rep.cells{M:ao}{bm:List Nat}{x:V}{v:Value}(h:Rep M bm x v)(hx:∀vs,x≠.tup vs)(hj:x≠.junk):
 v.cells.size=x.cells.length/\∀j (h:j<x.cells.length) (h':j<v.cells.size),Rep M bm x.cells[j] v.cells[j]/\v.cells[j].oneCell'=true/\∀T k rows,x.cells[j]≠.own T k rows:=by
 have one:∀{y:V} {u:Value},Rep M bm y u->u.oneCell'=true->u.cells = #[u]->y.cells=[y.copy]->
  u.cells.size=y.cells.length/\∀j (h:j<y.cells.length) (h':j<u.cells.size),Rep M bm y.cells[j] u.cells[j]/\u.cells[j].oneCell'=true/\∀T k rows,y.cells[j]≠.own T k rows:=by
  intro y u hr h1 h2 h3;rw[h2,h3];refine⟨rfl,fun j hj hj'=>?_⟩;have:j=0:=by simp at hj;omega
  subst this;exact⟨by simpa using hr.copy,h1,fun T k rows=>by simpa using V.copy_own⟩
 have cell1:∀{u:Value},u.oneCell'=true->u.cells = #[u]:=by intro u hu;cases u<;>first|rfl|cases hu
 have k:=h;cases h with
 | d h=>exact one k h.one (cell1 h.one) rfl
 | own h=>exact one k h.one (cell1 h.one) rfl
 | nil=>exact one k rfl rfl rfl
 | agg hl h h1=>
  refine⟨by simp[Value.cells,V.cells,hl],fun j h2 h3=>?_⟩;simp only[Value.cells,V.cells,P1,PG,Px,List.getElem_toArray]at h2 h3 ⊢;exact⟨(h j h2 h3).copy,h1 _ (Pr h3),fun T k rows=>V.copy_own⟩
 | tup hl h=>exact absurd rfl (hx _)
 | ptr h=>exact one k rfl rfl rfl
 | row val hf hd=>exact one k rfl rfl rfl
 | bsl h hc hm=>exact one k rfl rfl rfl
 | fn hl h=>exact one k rfl rfl rfl
 | bnd hl h=>exact one k rfl rfl rfl
 | iface h=>exact one k rfl rfl rfl
 | mp h=>exact one k rfl rfl rfl
 | bsc h hc hm=>exact one k rfl rfl rfl
 | junk v=>exact absurd rfl hj
def V.isOwn:V->Bool
 | .own .. => true
 | _=>false
theorem V.isOwn_ne{x:V}(h:x.isOwn=false):∀T k rows,x≠.own T k rows:=fun T k rows e=>by subst e;cases h
inductive MR(M:ao)(bm:List Nat)(st:Bool):List (Key×V)->List MapEntry->Prop
 | nil:MR M bm st [] []
 | cons {k:Key} {x:V} {e:MapEntry} {kv:List (Key×V)} {es:List MapEntry} (hk:e.key=k.v) (hs:k.isStr=st) (hx:Rep M bm x e.val) (ho:x.isOwn=false) (h:MR M bm st kv es):MR M bm st ((k,x)::kv) (e::es)
theorem MR.mono{M M':ao}{bm bm':List Nat}(hM:M.le M')(hb:∀(i b:Nat),bm[i]? = some b->bm'[i]? = some b){st:Bool}{kv:List (Key×V)}{es:List MapEntry}(h:MR M bm st kv es):MR M' bm' st kv es:=by
 induction h with
 | nil=>exact .nil
 | cons hk hs hx ho _ ih=>exact .cons hk hs (hx.mono hM hb) ho ih
def Fa(M:ao)(bm:List Nat)(w:World)(b:Nat)(cs:List V):Prop:=
 ∃st kv es clock,cs=[.mapc st kv]/\w.heap[b]? = some (.map es clock)/\MapKept.Stamped es clock/\MR M bm st kv es.toList
def tyc(T:TypeId)(k:Int):List V:=[.tup [.d (.lit (.int .i64 T)),.d (.lit (.int .i64 k))]]
def LE(w:World)(b:Nat)(cs:List V):Prop:=
 ∃(T:TypeId) (k:Int),cs=tyc T k/\c7 (.int .i64 k)/\w.heap[b]? = some (.cells #[.pointer none,.slice none 0 0,.int .i64 k] T (0,0))
def gF(M:ao)(bm:List Nat)(w:World)(b:Nat)(cs:List V):Prop:=Fa M bm w b cs\/LE w b cs
def bT:List V->Bool
 | [.mapc _ _]=>false
 | [.tup _]=>false
 | _=>true
theorem gF.lt{M:ao}{bm:List Nat}{w:World}{b:Nat}{cs:List V}(h:gF M bm w b cs):b<w.heap.size:=by
 rcases h with⟨st,kv,es,clock,-,h1,-⟩|⟨T,k,-,-,h1⟩
 .exact(Array.getElem?_eq_some_iff.1 h1).1
 .exact(Array.getElem?_eq_some_iff.1 h1).1
theorem gF.not{M:ao}{bm:List Nat}{w:World}{b:Nat}{cs:List V}(h:gF M bm w b cs)(hn:bT cs=true):False:=by
 rcases h with⟨st,kv,es,clock,rfl,-⟩|⟨T,k,rfl,-⟩<;>cases hn
theorem gF.mono{M M':ao}{bm bm':List Nat}{w w':World}{b:Nat}{cs:List V}(h:gF M bm w b cs)(hM:M.le M')(hb:∀(i b:Nat),bm[i]? = some b->bm'[i]? = some b)(hw:w'.heap[b]? = w.heap[b]?):gF M' bm' w' b cs:=by
 rcases h with⟨st,kv,es,clock,h0,h1,h2,h3⟩|⟨T,k,h0,h1,h2⟩
 .exact .inl ⟨st,kv,es,clock,h0,by rw[hw];exact h1,h2,h3.mono hM hb⟩
 .exact .inr ⟨T,k,h0,h1,by rw[hw];exact h2⟩
theorem gF.own{M:ao}{bm:List Nat}{w:World}{b:Nat}{cs:List V}(h:gF M bm w b cs){o T k:Nat}{rows:LLD}:cs[o]? ≠ some (.own T k rows):=by
 rcases h with⟨st,kv,es,clock,rfl,-⟩|⟨T,k,rfl,-⟩<;>cases o<;>simp[tyc]
@[simp] theorem zJ(a b:V)(r:List V):bT (a::b::r)=true:=by cases a<;>rfl
@[simp] theorem Gv(x:D)(r:List V):bT (.d x::r)=true:=rfl
@[simp] theorem CW(i:Nat)(r:List V):bT (.mp i::r)=true:=rfl
@[simp] theorem Az(T k:Nat)(rows:LLD)(r:List V):bT (.own T k rows::r)=true:=rfl
@[simp] theorem ve(r:List V):bT (.nil::r)=true:=rfl
@[simp] theorem zu(c r:List V):bT (.agg c::r)=true:=rfl
@[simp] theorem zp(i o:Nat)(r:List V):bT (.ptr i o::r)=true:=rfl
@[simp] theorem Am(i o n k:Nat)(r:List V):bT (.bsl i o n k::r)=true:=rfl
@[simp] theorem zO(i n c:Nat)(r:List V):bT (.bsc i n c::r)=true:=rfl
@[simp] theorem BX(f:FuncId)(c r:List V):bT (.fn f c::r)=true:=rfl
@[simp] theorem ua(t:TypeId)(v:V)(r:List V):bT (.iface t v::r)=true:=rfl
@[simp] theorem vm(r:List V):bT (.junk::r)=true:=rfl
theorem re{cs:List V}(h:∀c∈cs,∃x,c=.d x):bT cs=true:=by
 match cs,h with
 | [],_=>rfl
 | a::r,h=>obtain⟨x,rfl⟩:=h a (by simp);rfl
@[simp] theorem yX{α:Type}(f:α->D)(l:List α):bT (l.map fun x=>V.d (f x))=true:=re fun c hc=>by obtain⟨x,-,rfl⟩:=List.mem_map.1 hc;exact⟨_,rfl⟩
@[simp] theorem A2(n:Nat)(x:D):bT (List.replicate n (V.d x))=true:=re fun c hc=>⟨x,(List.mem_replicate.1 hc).2⟩
theorem rB{cs:List V}{j:Nat}(x:D)(h:j<cs.length):bT (cs.set j (V.d x))=true:=by
 match cs,j,h with
 | [a],0,_=>rfl
 | a::b::r,0,_=>rfl
 | a::b::r,j+1,_=>cases j<;>simp
@[simp] theorem rG(x:D)(l r:List V):bT (l++V.d x::r)=true:=by
  match l with
  | []=>rfl
  | [a]=>simp
  | a::b::t=>simp
def cO(w w':World):Prop:=Below w.heap.size w w'
theorem cO.trans{a b c:World}(h:cO a b)(k:cO b c):cO a c:=Below.trans h (Below.mono k h.size)
theorem cO.alloc(w:World)(o:Obj):cO w (w.alloc o):=(Below.refl _ _).alloc (P6 _) o
theorem cO.drew(w:World):cO w w.drew:=⟨rfl,rfl,rfl,P6 _,fun _ _=>rfl⟩
theorem fP{w:World}{p:Addr}{v:Value}(hp:w.cell? p=some v):p.block<w.heap.size:=by
 unfold World.cell? at hp;split at hp
 .rename_i h1;exact(Array.getElem?_eq_some_iff.1 h1).1
 .cases hp
theorem ao.hold.lt{M:ao}{w:World}(h:M.hold w){b o:Nat}{x:Value}(hx:M b o=some x):b<w.heap.size:=fP (h b o x hx)
theorem ao.hold.fresh{M:ao}{w:World}(h:M.hold w){b:Nat}(hb:w.heap.size≤b)(o:Nat):M b o=none:=by
 match hx:M b o with
 | none=>rfl
 | some x=>have:=h.lt hx;omega
def uB(M:ao)(w:World)(T:TypeId)(k:Nat)(rows:LLD)(v:Value)(t:Option Nat):Prop:=
 (v=.slice none 0 0/\rows=[])\/∃g xs,t=some g/\v.ownBlock=some g/\(∀r∈rows,r.length=k)/\w.ownsRow 0 T k v rows.length xs/\∀o x,M g o=some x->o<rows.length*k
theorem uB.keep{M M':ao}{w w':World}{T:TypeId}{k:Nat}{rows:LLD}{v:Value}{t:Option Nat}(h:uB M w T k rows v t)
 (hk:∀g,t=some g->w'.heap[g]? = w.heap[g]? /\ ∀o,M' g o=M g o):uB M' w' T k rows v t:=by
 rcases h with h|⟨g,xs,rfl,hg,hr,ho,hf⟩
 .exact .inl h
 .obtain⟨h1,h2⟩:=hk g rfl;refine .inr ⟨g,xs,rfl,hg,hr,⟨ho.1,ho.2.imp id ?_⟩,fun o x hx=>hf o x (by rw[<-h2];exact hx)⟩;rintro⟨g',cap,cur,rfl,hb,hh,hrest⟩;simp only[Value.ownBlock,Option.some.injEq]at hg;subst hg;exact⟨g',cap,cur,rfl,hb,by rw[h1];exact hh,hrest⟩
abbrev be:=Option Nat->Nat->Option Nat
structure CellOK(M:ao)(bm:List Nat)(w:World)(x:V)(v:Value)(t:Option Nat):Prop where
 rep:Rep M bm x v
 own:∀T k rows,x=.own T k rows->uB M w T k rows v t
structure Inv(M:ao)(bm:List Nat)(σ:List (List V))(tk:be)(pr:Nat->Prop)(w:World):Prop where
 facts:M.hold w
 len:bm.length=σ.length
 box:∀(i b:Nat) cs,bm[i]? = some b->σ[i]? = some cs->(∃vs T,w.heap[b]? = some (.cells vs T (0,0))/\vs.size=cs.length/\
  ∀j (h:j<cs.length) (h':j<vs.size),CellOK M bm w cs[j] vs[j] (tk (some i) j)/\vs[j].oneCell'=true)\/gF M bm w b cs
 free:∀b,b∈bm->(∀o,M b o=none)/\¬pr b
 bmnd:bm.Nodup
 tok:∀i j g,tk i j=some g->g<w.heap.size/\g∉bm/\¬pr g
 inj:∀i j i' j' g,tk i j=some g->tk i' j'=some g->i=i'/\j=j'
 prlt:∀b,pr b->b<w.heap.size
structure Later(M:ao)(bm:List Nat)(pr:Nat->Prop)(w:World)(M':ao)(bm':List Nat)(w':World):Prop where
 le:M.le M'
 pre:∃t,bm'=bm++t
 keep:∀b,pr b->w'.heap[b]? = w.heap[b]?
 facts:∀b,pr b->∀o,M' b o=M b o
 os:w'.os=w.os
 tape:w'.tape=w.tape
 output:w'.output=w.output
 size:w.heap.size≤w'.heap.size
theorem Later.refl(M:ao)(bm:List Nat)(pr:Nat->Prop)(w:World):Later M bm pr w M bm w:=
 ⟨ao.le.refl _,⟨[],by simp⟩,fun _ _=>rfl,fun _ _ _=>rfl,rfl,rfl,rfl,P6 _⟩
theorem Later.trans{M M' M'':ao}{bm bm' bm'':List Nat}{pr pr':Nat->Prop}{w w' w'':World}(h:Later M bm pr w M' bm' w')(k:Later M' bm' pr' w' M'' bm'' w'')(hp:∀b,pr b->pr' b):Later M bm pr w M'' bm'' w'':=by
 obtain⟨t,ht⟩:=h.pre;obtain⟨u,hu⟩:=k.pre
 exact⟨h.le.trans k.le,⟨t++u,by rw[hu,ht,PH]⟩,fun b hb=>(k.keep b (hp b hb)).trans (h.keep b hb),fun b hb o=>(k.facts b (hp b hb) o).trans (h.facts b hb o),
  k.os.trans h.os,k.tape.trans h.tape,k.output.trans h.output,Nat.le_trans h.size k.size⟩
theorem i6{bm bm':List Nat}(h:∃t,bm'=bm++t):∀i b:Nat,bm[i]? = some b->bm'[i]? = some b:=by
 intro i b hi;obtain⟨t,rfl⟩:=h;rw[Pp (List.getElem?_eq_some_iff.1 hi).1];exact hi
theorem Later.rep{M M':ao}{bm bm':List Nat}{pr:Nat->Prop}{w w':World}(h:Later M bm pr w M' bm' w'){x:V}{v:Value}(hr:Rep M bm x v):Rep M' bm' x v:=hr.mono h.le (i6 h.pre)
abbrev LLV:=List (List V)
theorem Inv.grow{M M':ao}{bm:List Nat}{σ:LLV}{tk:be}{pr:Nat->Prop}{w w':World}(h:Inv M bm σ tk pr w)(hx:cO w w')(hM:M.le M')(hh:M'.hold w')(ha:∀b,b<w.heap.size->∀o,M' b o=M b o):
 Inv M' bm σ tk pr w'/\Later M bm pr w M' bm w':=by
 have hb:∀b∈bm,b<w.heap.size:=by
  intro b hb;obtain⟨i,hi,rfl⟩:=Py hb;rcases h.box i bm[i] (σ[i]'(by rw[<-h.len];exact hi)) (by simp[hi]) (by rw[Po])with⟨vs,T,h1,-⟩|h1
  .exact(Array.getElem?_eq_some_iff.1 h1).1
  .exact h1.lt
 refine⟨⟨hh,h.len,fun i b cs hi hc=>?_,fun b hbm=>⟨fun o=>by rw[ha b (hb b hbm)];exact(h.free b hbm).1 o,(h.free b hbm).2⟩,h.bmnd,fun i j g hg=>⟨P5 (h.tok i j g hg).1 hx.size,(h.tok i j g hg).2⟩,h.inj,fun b hp=>P5 (h.prlt b hp) hx.size⟩,
  ⟨hM,⟨[],by simp⟩,fun b hp=>hx.block b (h.prlt b hp),fun b hp o=>ha b (h.prlt b hp) o,hx.os,hx.tape,hx.output,hx.size⟩⟩
 rcases h.box i b cs hi hc with⟨vs,T,h1,h2,h3⟩|h1;case inr=>exact .inr (h1.mono hM (fun _ _ h=>h) (hx.block b (hb b (Ps hi))))
 refine .inl ⟨vs,T,by rw[hx.block b (hb b (Ps hi))];exact h1,h2,fun j hj hj'=>⟨⟨(h3 j hj hj').1.rep.mono hM (fun _ _ h=>h),fun T k rows hT=>((h3 j hj hj').1.own T k rows hT).keep (fun g hg=>?_)⟩,(h3 j hj hj').2⟩⟩;have:=(h.tok _ _ _ hg).1;exact⟨hx.block g this,ha g this⟩
theorem Inv.ext{M:ao}{bm:List Nat}{σ:LLV}{tk:be}{pr:Nat->Prop}{w w':World}(h:Inv M bm σ tk pr w)(hx:cO w w'):Inv M bm σ tk pr w'/\Later M bm pr w M bm w':=
 h.grow hx (ao.le.refl _) (fun b o x hm=>by
  have h1:=h.facts b o x hm;rw[World.cell?_of_block (w:=w) (hx.block b (fP h1))];exact h1) (fun _ _ _=>rfl)
theorem Inv.bm_lt{M:ao}{bm:List Nat}{σ:LLV}{tk:be}{pr:Nat->Prop}{w:World}(h:Inv M bm σ tk pr w):∀b∈bm,b<w.heap.size:=by
 intro b hb;obtain⟨i,hi,rfl⟩:=Py hb;rcases h.box i bm[i] (σ[i]'(by rw[<-h.len];exact hi)) (by simp[hi]) (by rw[Po])with⟨vs,T,h1,-⟩|h1
 .exact(Array.getElem?_eq_some_iff.1 h1).1
 .exact h1.lt
theorem Inv.cells{M:ao}{bm:List Nat}{σ:LLV}{tk:be}{pr:Nat->Prop}{w:World}(h:Inv M bm σ tk pr w){i b:Nat}{cs:List V}(hi:bm[i]? = some b)(hc:σ[i]? = some cs)(hn:bT cs=true):
 ∃vs T,w.heap[b]? = some (.cells vs T (0,0))/\vs.size=cs.length/\∀j (h:j<cs.length) (h':j<vs.size),CellOK M bm w cs[j] vs[j] (tk (some i) j)/\vs[j].oneCell'=true:=by
 rcases h.box i b cs hi hc with h1|h1
 .exact h1
 .exact(h1.not hn).elim
theorem Inv.push{M:ao}{bm:List Nat}{σ:LLV}{tk:be}{pr:Nat->Prop}{w:World}(h:Inv M bm σ tk pr w){cs:List V}{vs:Array Value}{T:TypeId}(hl:vs.size=cs.length)
 (hc:∀j (h:j<cs.length) (h':j<vs.size),Rep M bm cs[j] vs[j]/\vs[j].oneCell'=true/\∀T k rows,cs[j]=.own T k rows->vs[j]=.slice none 0 0/\rows=[]):
 Inv M (bm++[w.heap.size]) (σ++[cs]) tk pr (w.alloc (.cells vs T))/\Later M bm pr w M (bm++[w.heap.size]) (w.alloc (.cells vs T)):=by
 have hx:=cO.alloc w (.cells vs T);obtain⟨h1,h2⟩:=h.ext hx;have hnew:(w.alloc (.cells vs T)).heap[w.heap.size]? = some (.cells vs T (0,0)):=heap_alloc_new w _;have hnb:w.heap.size∉bm:=fun hb=>by have:=h.bm_lt _ hb;omega
 have hpre:∀i b:Nat,bm[i]? = some b->(bm++[w.heap.size])[i]? = some b:=i6 ⟨_,rfl⟩;refine⟨⟨h1.facts,by simp[h.len],fun i b cs' hi hc'=>?_,fun b hb=>?_,?_,fun i j g hg=>?_,h.inj,h1.prlt⟩,⟨ao.le.refl _,⟨_,rfl⟩,h2.keep,h2.facts,h2.os,h2.tape,h2.output,h2.size⟩⟩
 .by_cases hlt:i<bm.length
  .rw[Pp hlt]at hi;rw[Pp (by rw[<-h.len];exact hlt)]at hc';rcases h1.box i b cs' hi hc' with⟨vs',T',g1,g2,g3⟩|g1;case inr=>exact .inr (g1.mono (ao.le.refl _) hpre rfl)
   exact .inl ⟨vs',T',g1,g2,fun j hj hj'=>⟨⟨(g3 j hj hj').1.rep.mono (ao.le.refl _) hpre,(g3 j hj hj').1.own⟩,(g3 j hj hj').2⟩⟩
  .rw[Pq (by omega)]at hi;rw[Pq (by rw[<-h.len];omega)]at hc'
   have hi0:i-bm.length=0:=by
    have:=(List.getElem?_eq_some_iff.1 hi).1;simp at this;omega
   rw[<-h.len]at hc';rw[hi0]at hi hc';simp at hi hc';subst hi;subst hc';exact .inl ⟨vs,T,hnew,hl,fun j hj hj'=>⟨⟨(hc j hj hj').1.mono (ao.le.refl _) hpre,fun T k rows hT=>.inl ((hc j hj hj').2.2 T k rows hT)⟩,(hc j hj hj').2.1⟩⟩
 .rcases List.mem_append.1 hb with hb|hb
  .exact h1.free b hb
  .simp at hb;subst hb;exact⟨fun o=>h.facts.fresh (P6 _) o,fun hp=>by have:=h.prlt _ hp;omega⟩
 .rw[PS];exact⟨h.bmnd,by simp,fun a ha b hb=>by simp at hb;subst hb;exact fun e=>hnb (e▸ha)⟩
 .obtain⟨t1,t2,t3⟩:=h.tok i j g hg;refine⟨P5 t1 hx.size,fun hb=>?_,t3⟩;rcases List.mem_append.1 hb with hb|hb
  .exact t2 hb
  .simp at hb;omega
def be.move(tk:be)(i:Option Nat)(j:Nat)(i':Option Nat)(j':Nat):be:=fun x y=>
 if x=i'/\y=j' then tk i j else if x=i/\y=j then none else tk x y
theorem be.move_some{tk:be}{i i':Option Nat}{j j':Nat}{x:Option Nat}{y g:Nat}(h:tk.move i j i' j' x y=some g):
 (x=i'/\y=j'/\tk i j=some g)\/(¬(x=i'/\y=j')/\¬(x=i/\y=j)/\tk x y=some g):=by
 unfold be.move at h;split at h
 .rename_i hc;exact .inl ⟨hc.1,hc.2,h⟩
 .rename_i hc;split at h
  .cases h
  .rename_i hd;exact .inr ⟨hc,hd,h⟩
theorem be.move_inj{tk:be}(hinj:∀i j i' j' g,tk i j=some g->tk i' j'=some g->i=i'/\j=j')(a:Option Nat)(b:Nat)(a':Option Nat)(b':Nat):
 ∀i j i' j' g,tk.move a b a' b' i j=some g->tk.move a b a' b' i' j'=some g->i=i'/\j=j':=by
 intro i j i' j' g h h';rcases be.move_some h with⟨rfl,rfl,h1⟩|⟨n1,n2,h1⟩<;>rcases be.move_some h' with⟨rfl,rfl,h2⟩|⟨n3,n4,h2⟩
 .exact⟨rfl,rfl⟩
 .exact absurd (hinj _ _ _ _ _ h2 h1) n4
 .exact absurd (hinj _ _ _ _ _ h1 h2) n2
 .exact hinj _ _ _ _ _ h1 h2
theorem be.move_at{tk:be}(i:Option Nat)(j:Nat)(i':Option Nat)(j':Nat):tk.move i j i' j' i' j'=tk i j:=by simp[be.move]
theorem be.move_other{tk:be}{i i':Option Nat}{j j':Nat}{x:Option Nat}{y:Nat}(h1:¬(x=i'/\y=j'))(h2:¬(x=i/\y=j)):tk.move i j i' j' x y=tk x y:=by simp[be.move,h1,h2]
abbrev ac:=List (Nat×V)
def get:ac->Nat->V
 | [],_=>.junk
 | (s,u)::r,t=>if s=t then u else get r t
def put:ac->Nat->V->ac
 | [],t,v=>[(t,v)]
 | (s,u)::r,t,v=>if t<s then(t,v)::(s,u)::r else if t=s then(t,v)::r else(s,u)::put r t v
theorem bg(ρ:ac)(t t':Nat)(v:V):get (put ρ t v) t'=if t'=t then v else get ρ t':=by
 induction ρ with
 | nil=>simp only[put,get];split<;>split<;>first|rfl|omega
 | cons p r ih=>
  obtain⟨s,u⟩:=p;simp only[put];split
  .simp only[get];repeat' split
   all_goals first|rfl|omega
  .split
   .simp only[get];repeat' split
    all_goals first|rfl|omega
   .simp only[get,ih];repeat' split
    all_goals first|rfl|omega
def aG(l:List Nat)(ρ:ac):ac:=ρ.filter fun p=>l.contains p.1
theorem sO(l:List Nat)(ρ:ac)(t:Nat):get (aG l ρ) t=get ρ t\/get (aG l ρ) t=.junk:=by
 induction ρ with
 | nil=>exact .inl rfl
 | cons p r ih=>
  obtain⟨s,u⟩:=p;unfold aG at *;simp only[PZ];split
  .simp only[get];split
   .exact .inl rfl
   .exact ih
  .rename_i hs;simp only[get];split
   .rename_i he;subst he;refine .inr ?_;clear ih
    induction r with
    | nil=>rfl
    | cons q r ih2=>
     obtain⟨s',u'⟩:=q;simp only[PZ];split
     .rename_i hs';simp only[get];rw[if_neg (fun e:s'=s=>hs (by rw[<-e];exact hs'))];exact ih2
     .exact ih2
   .exact ih
theorem CellOK.junk(M:ao)(bm:List Nat)(w:World)(v:Value)(t:Option Nat):CellOK M bm w .junk v t:=⟨.junk v,fun _ _ _ h=>by cases h⟩
structure Prot where
 p:Nat->Prop
 ds:List Deferred
instance:Coe Prot (Nat->Prop):=⟨Prot.p⟩
instance:CoeFun Prot (fun _=>Nat->Prop):=⟨Prot.p⟩
structure SRel(M:ao)(bm:List Nat)(tk:be)(pr:Prot)(ρ:ac)(σ:LLV)(n:Nat)(a:Act)(w:World):Prop where
 inv:Inv M bm σ tk pr w
 defers:a.defers=pr.ds
 size:a.tmps.size=n
 slots:∀t,CellOK M bm w (get ρ t) (a.tmps.getD t undef) (tk none t)
section
variable {M M' : ao} {bm : List Nat} {tk : be} {pr : Prot} {ρ : ac} {σ : LLV} {n : Nat} {a : Act} {w w' : World}
theorem SRel.grow(h:SRel M bm tk pr ρ σ n a w)(hx:cO w w')(hM:M.le M')(hh:M'.hold w')(ha:∀b,b<w.heap.size->∀o,M' b o=M b o):
 SRel M' bm tk pr ρ σ n a w'/\Later M bm pr w M' bm w':=by
 obtain⟨h1,h2⟩:=h.inv.grow hx hM hh ha;refine⟨⟨h1,h.defers,h.size,fun t=>⟨h2.rep (h.slots t).rep,fun T k rows e=>((h.slots t).own T k rows e).keep fun g hg=>?_⟩⟩,h2⟩;have:=(h.inv.tok _ _ _ hg).1;exact⟨hx.block g this,ha g this⟩
theorem SRel.ext(h:SRel M bm tk pr ρ σ n a w)(hx:cO w w'):SRel M bm tk pr ρ σ n a w'/\Later M bm pr w M bm w':=
 h.grow hx (ao.le.refl _) (fun b o x hm=>by
  have h1:=h.inv.facts b o x hm;rw[World.cell?_of_block (w:=w) (hx.block b (fP h1))];exact h1) (fun _ _ _=>rfl)
theorem SRel.keep(h:SRel M bm tk pr ρ σ n a w)(l:List Nat):SRel M bm tk pr (aG l ρ) σ n a w:=
 ⟨h.inv,h.defers,h.size,fun t=>by
   rcases sO l ρ t with e|e
   .rw[e];exact h.slots t
   .rw[e];exact CellOK.junk ..⟩
theorem f5(a:Act)(d t:Nat)(v:Value)(hd:d<a.tmps.size):(a.put (some d) v).tmps.getD t undef=if t=d then v else a.tmps.getD t undef:=by
 unfold Act.put;by_cases e:t=d
 .subst e;simp[hd]
 .simp only[e,if_false];simp[Array.getElem?_setIfInBounds_ne (Ne.symm e)]
theorem SRel.puts(h:SRel M bm tk pr ρ σ n a w){d:Nat}(hd:d<n){x:V}{v:Value}(hv:Rep M bm x v)(hx:∀T k rows,x≠.own T k rows):
 SRel M bm tk pr (put ρ d x) σ n (a.put (some d) v) w:=by
 refine⟨h.inv,h.defers,by simp[Act.put,h.size],fun t=>?_⟩;rw[bg,f5 _ _ _ _ (by rw[h.size];exact hd)];split
 .exact⟨hv,fun T k rows e=>absurd e (hx T k rows)⟩
 .exact h.slots t
theorem SRel.give(h:SRel M bm tk pr ρ σ n a w){d t:Nat}(hd:d<n)(hdt:d≠t){T:TypeId}{k:Nat}{rows:LLD}(ht:get ρ t=.own T k rows):
 SRel M bm (tk.move none t none d) pr (put (put ρ t (.d (.sl rows))) d (.own T k rows)) σ n (a.put (some d) (a.tmps.getD t undef)) w:=by
 have hs:=h.slots t;rw[ht]at hs;have hrd:DRep M (.sl rows) (a.tmps.getD t undef):=by cases hs.rep with|own h=>exact h
 refine⟨⟨h.inv.facts,h.inv.len,fun i b cs hi hc=>?_,h.inv.free,h.inv.bmnd,fun i j g hg=>?_,be.move_inj h.inv.inj _ _ _ _,h.inv.prlt⟩,h.defers,by simp[Act.put,h.size],fun s=>?_⟩
 .rcases h.inv.box i b cs hi hc with⟨vs,T',g1,g2,g3⟩|g1;case inr=>exact .inr g1
  refine .inl ⟨vs,T',g1,g2,fun j hj hj'=>⟨⟨(g3 j hj hj').1.rep,fun T k rows e=>?_⟩,(g3 j hj hj').2⟩⟩;rw[be.move_other (by simp) (by simp)];exact(g3 j hj hj').1.own T k rows e
 .rcases be.move_some hg with⟨-,-,h1⟩|⟨-,-,h1⟩<;>exact h.inv.tok _ _ _ h1
 .rw[bg,f5 _ _ _ _ (by rw[h.size];exact hd)];by_cases e:s=d
  .subst e;simp only[if_true];exact⟨.own hrd,fun T' k' rows' e=>by cases e;rw[be.move_at];exact hs.own T k rows rfl⟩
  .simp only[if_neg e,bg];by_cases e2:s=t
   .subst e2;simp only[if_true];exact⟨.d hrd,fun _ _ _ e=>by cases e⟩
   .simp only[if_neg e2];rw[be.move_other (by simp[e]) (by simp[e2])];exact h.slots s
theorem SRel.push0(h:SRel M bm tk pr ρ σ n a w){cs:List V}{vs:Array Value}{T:TypeId}(hl:vs.size=cs.length)
 (hc:∀j (h:j<cs.length) (h':j<vs.size),Rep M bm cs[j] vs[j]/\vs[j].oneCell'=true/\∀T k rows,cs[j]=.own T k rows->vs[j]=.slice none 0 0/\rows=[]):
 SRel M (bm++[w.heap.size]) tk pr ρ (σ++[cs]) n a (w.alloc (.cells vs T))/\Later M bm pr w M (bm++[w.heap.size]) (w.alloc (.cells vs T)):=by
 obtain⟨h1,h2⟩:=h.inv.push (T:=T) hl hc;have hx:=cO.alloc w (.cells vs T);exact⟨⟨h1,h.defers,h.size,fun t=>⟨h2.rep (h.slots t).rep,fun T k rows e=>((h.slots t).own T k rows e).keep fun g hg=>⟨hx.block g (h.inv.tok _ _ _ hg).1,fun _=>rfl⟩⟩⟩,h2⟩
theorem SRel.push(h:SRel M bm tk pr ρ σ n a w){d:Nat}(hd:d<n){cs:List V}{vs:Array Value}{T:TypeId}(hl:vs.size=cs.length)
 (hc:∀j (h:j<cs.length) (h':j<vs.size),Rep M bm cs[j] vs[j]/\vs[j].oneCell'=true/\∀T k rows,cs[j]=.own T k rows->vs[j]=.slice none 0 0/\rows=[]):
 SRel M (bm++[w.heap.size]) tk pr (put ρ d (.ptr σ.length 0)) (σ++[cs]) n (a.put (some d) (.pointer (some ⟨w.heap.size,0,none⟩))) (w.alloc (.cells vs T))/\
  Later M bm pr w M (bm++[w.heap.size]) (w.alloc (.cells vs T)):=by
 obtain⟨h1,h2⟩:=h.inv.push (T:=T) hl hc;have hx:=cO.alloc w (.cells vs T)
 have h3:SRel M (bm++[w.heap.size]) tk pr ρ (σ++[cs]) n a (w.alloc (.cells vs T)):=
  ⟨h1,h.defers,h.size,fun t=>⟨h2.rep (h.slots t).rep,fun T k rows e=>((h.slots t).own T k rows e).keep fun g hg=>⟨hx.block g (h.inv.tok _ _ _ hg).1,fun _=>rfl⟩⟩⟩
 exact⟨h3.puts hd (.ptr (by rw[<-h.inv.len];simp)) (by simp),h2⟩
end
end Go.Proofs.YtnhphlmblenapaaGreatDoor
namespace Go.Proofs.YtnhphlmblenapaaGreatDoor
open Go.RowKit
def over(cs:List V)(off:Nat)(xs:List V):List V:=cs.take off++xs++cs.drop (off+xs.length)
theorem fY(cs:List V)(off:Nat)(xs:List V)(h:off+xs.length≤cs.length):(over cs off xs).length=cs.length:=by simp[over];omega
theorem og{α:Type}(cs:List α)(off:Nat)(xs:List α)(h:off+xs.length≤cs.length)(j:Nat):
 (cs.take off++xs++cs.drop (off+xs.length))[j]? = if off≤j/\j<off+xs.length then xs[j-off]? else cs[j]? := by
 split
 .rename_i hj;rw[Pp (by simp;omega),Pq (by simp;omega)];congr 1;simp;omega
 .rename_i hj;by_cases h1:j<off
  .rw[Pp (by simp;omega),Pp (by simp;omega),PC h1]
  .rw[Pq (by simp;omega),PO];congr 1;simp;omega
section
variable {M M' : ao} {bm : List Nat} {tk tk' : be} {pr : Prot} {ρ : ac} {σ : LLV} {n : Nat} {a : Act} {w w' : World}
theorem Inv.set(h:Inv M bm σ tk pr w){i b:Nat}{cs:List V}(hi:bm[i]? = some b)(hc:σ[i]? = some cs)(hn:bT cs=true){off:Nat}{xs:List V}{vs:List Value}(hl:vs.length=xs.length)(hoff:off+xs.length≤cs.length)
 (htok:∀i j g,tk' i j=some g->g<w.heap.size/\g∉bm/\¬pr g)(hinj:∀i j i' j' g,tk' i j=some g->tk' i' j'=some g->i=i'/\j=j')
 (hsame:∀i' j T k rows,(i'=i->¬(off≤j/\j<off+xs.length))->∀cs' ,σ[i']? = some cs'->cs'[j]? = some (.own T k rows)->tk' (some i') j=tk (some i') j)
 (hx:∀j (h:j<xs.length) (h':j<vs.length),CellOK M bm w xs[j] vs[j] (tk' (some i) (off+j))/\vs[j].oneCell'=true):
 ∃cur T,w.heap[b]? = some (.cells cur T (0,0))/\cur.size=cs.length/\(∀v∈vs,v.oneCell'=true)/\
  Inv M bm (σ.set i (over cs off xs)) tk' pr (w.setRow b (cur.toList.take off++vs++cur.toList.drop (off+vs.length)).toArray)/\
  (∀{x:V} {v:Value} {t:Option Nat},(∀g,t=some g->g≠b)->CellOK M bm w x v t->CellOK M bm (w.setRow b (cur.toList.take off++vs++cur.toList.drop (off+vs.length)).toArray) x v t)/\
  Later M bm pr w M bm (w.setRow b (cur.toList.take off++vs++cur.toList.drop (off+vs.length)).toArray):=by
 obtain⟨cur,T,g1,g2,g3⟩:=h.cells hi hc hn;have hbm:b∈bm:=Ps hi;have hother:∀k,k≠b->(w.setRow b (cur.toList.take off++vs++cur.toList.drop (off+vs.length)).toArray).heap[k]? = w.heap[k]? := fun k hk=>setRow_other w b k _ hk
 have hcell:∀{x:V} {v:Value} {t:Option Nat},(∀g,t=some g->g≠b)->CellOK M bm w x v t->CellOK M bm (w.setRow b (cur.toList.take off++vs++cur.toList.drop (off+vs.length)).toArray) x v t:=
  fun ht hok=>⟨hok.rep,fun T k rows e=>(hok.own T k rows e).keep fun g hg=>⟨hother g (ht g hg),fun _=>rfl⟩⟩
 have hsz:(w.setRow b (cur.toList.take off++vs++cur.toList.drop (off+vs.length)).toArray).heap.size=w.heap.size:=by simp[World.setRow]
 have htb:∀i j g,tk' i j=some g->g≠b:=fun i j g hg e=>(htok i j g hg).2.1 (e▸hbm)
 refine⟨cur,T,g1,g2,fun v hv=>?_,⟨fun b' o x hm=>?_,by simp[h.len],fun i' b' cs' hi' hc'=>?_,h.free,h.bmnd,fun i j g hg=>by rw[hsz];exact htok i j g hg,hinj,fun b hb=>by rw[hsz];exact h.prlt b hb⟩,hcell,
  ⟨ao.le.refl _,⟨[],by simp⟩,fun b' hb'=>hother b' (fun e=>(h.free b hbm).2 (e▸hb')),fun _ _ _=>rfl,rfl,rfl,rfl,Qf hsz.symm⟩⟩
 .obtain⟨j,hj,rfl⟩:=Py hv;exact(hx j (by omega) hj).2
 .have hne:b'≠b:=fun e=>by subst e;rw[(h.free _ hbm).1 o]at hm;cases hm
  rw[World.cell?_of_block (w:=w) (hother b' hne)];exact h.facts b' o x hm
 .by_cases e:i'=i
  .subst e;rw[hi]at hi';cases hi'
   have hsl:(σ.set i' (over cs off xs))[i']? = some (over cs off xs):=by
    rw[PD (List.getElem?_eq_some_iff.1 hc).1]
   rw[hsl]at hc';cases hc';refine .inl ⟨_,T,setRow_heap w b cur _ T _ g1,?_,fun j hj hj'=>?_⟩
   .rw[fY _ _ _ hoff];simp;omega
   .rw[fY _ _ _ hoff]at hj;have e1:=og cs off xs hoff j;have e2:=og cur.toList off vs (by simp;omega) j;have e3:(over cs off xs)[j]? = some ((over cs off xs)[j]'(by rw[fY _ _ _ hoff];exact hj)):=Po _;have e4:((cur.toList.take off++vs++cur.toList.drop (off+vs.length)).toArray)[j]? = some ((cur.toList.take off++vs++cur.toList.drop (off+vs.length)).toArray[j]):=Pb _;rw[PE]at e4;unfold over at e3;by_cases hin:off≤j/\j<off+xs.length
    .rw[if_pos hin,e3]at e1;rw[if_pos (by omega),e4]at e2;have hj1:j-off<xs.length:=by omega
     have hj2:j-off<vs.length:=by omega
     rw[Po hj1]at e1;rw[Po hj2]at e2;obtain⟨k1,k2⟩:=hx (j-off) hj1 hj2;have ej:off+(j-off)=j:=by omega
     rw[ej]at k1;have f1:(over cs off xs)[j]=xs[j-off]:=Option.some.inj e1;have f2:=Option.some.inj e2;refine⟨?_,by rw[f2];exact k2⟩;rw[f2,f1];exact hcell (fun g hg=>htb _ _ g hg) k1
    .rw[if_neg hin,e3]at e1;rw[if_neg (by omega),e4]at e2;have hj1:j<cs.length:=hj;have hj2:j<cur.size:=by omega
     rw[Po hj1]at e1;rw[Pd,Pb hj2]at e2;obtain⟨k1,k2⟩:=g3 j hj1 hj2;have f1:(over cs off xs)[j]=cs[j]:=Option.some.inj e1;have f2:=Option.some.inj e2;refine⟨?_,by rw[f2];exact k2⟩;rw[f2,f1];refine⟨k1.rep,fun T k rows ht=>?_⟩;have hs:=hsame i' j T k rows (fun _=>hin) cs hc (by rw[Po hj1,ht]);have:=hcell (x:=cs[j]) (v:=cur[j]) (t:=tk' (some i') j) (fun g hg=>htb _ _ g hg) (by rw[hs];exact k1);exact this.own T k rows ht
  .rw[PF (Ne.symm e)]at hc'
   have hne:b'≠b:=by
    intro eb;subst eb;have h1:=(List.getElem?_eq_some_iff.1 hi').1;have h2:=(List.getElem?_eq_some_iff.1 hi).1;exact e ((PU h1 h.bmnd).1 (hi'.trans hi.symm))
   rcases h.box i' b' cs' hi' hc' with⟨vs',T',k1,k2,k3⟩|k1;case inr=>exact .inr (k1.mono (ao.le.refl _) (fun _ _ h=>h) (hother b' hne))
   refine .inl ⟨vs',T',by rw[hother b' hne];exact k1,k2,fun j hj hj'=>⟨⟨(k3 j hj hj').1.rep,fun T k rows ht=>?_⟩,(k3 j hj hj').2⟩⟩;have hs:=hsame i' j T k rows (fun ee=>absurd ee e) cs' hc' (by rw[Po hj,ht]);have:=hcell (x:=cs'[j]) (v:=vs'[j]) (t:=tk' (some i') j) (fun g hg=>htb _ _ g hg) (by rw[hs];exact(k3 j hj hj').1);exact this.own T k rows ht
theorem SRel.store{P:Program}(h:SRel M bm tk pr ρ σ n a w){i b off:Nat}{cs:List V}(hi:bm[i]? = some b)(hc:σ[i]? = some cs)(hn:bT cs=true){xs:List V}{vs:List Value}(hl:vs.length=xs.length)(hoff:off+xs.length≤cs.length)
 (hx:∀j (h:j<xs.length) (h':j<vs.length),Rep M bm xs[j] vs[j]/\vs[j].oneCell'=true/\∀T k rows,xs[j]≠.own T k rows):
 ∃w',(storeCells ⟨b,off,none⟩ vs).run P w=.ok () w'/\SRel M bm tk pr ρ (σ.set i (over cs off xs)) n a w'/\Later M bm pr w M bm w':=by
 obtain⟨cur,T,h1,h2,h3,h4,h5,h6⟩:=h.inv.set hi hc hn (tk':=tk) (off:=off) hl hoff h.inv.tok h.inv.inj (fun _ _ _ _ _ _ _ _ _=>rfl) (fun j hj hj'=>⟨⟨(hx j hj hj').1,fun T k rows e=>absurd e ((hx j hj hj').2.2 T k rows)⟩,(hx j hj hj').2.1⟩);have hr:=run_storeCells_at P b off T vs 0 cur w h1 (by simp;omega) h3;simp only[Qb]at hr;exact⟨_,hr,⟨h4,h.defers,h.size,fun t=>h5 (fun g hg e=>(h.inv.tok _ _ _ hg).2.1 (e▸Ps hi)) (h.slots t)⟩,h6⟩
theorem SRel.storeOwn{P:Program}(h:SRel M bm tk pr ρ σ n a w){i b off:Nat}{cs:List V}(hi:bm[i]? = some b)(hc:σ[i]? = some cs)(hn:bT cs=true)(hoff:off<cs.length){t:Nat}{T:TypeId}{k:Nat}{rows:LLD}(ht:get ρ t=.own T k rows):
 ∃w',(storeCells ⟨b,off,none⟩ [a.tmps.getD t undef]).run P w=.ok () w'/\SRel M bm (tk.move none t (some i) off) pr (put ρ t (.d (.sl rows))) (σ.set i (over cs off [.own T k rows])) n a w'/\Later M bm pr w M bm w':=by
 have hs:=h.slots t;rw[ht]at hs;have hrd:DRep M (.sl rows) (a.tmps.getD t undef):=by cases hs.rep with|own h=>exact h
 obtain⟨cur,T',h1,h2,h3,h4,h5,h6⟩:=h.inv.set hi hc hn (tk':=tk.move none t (some i) off) (off:=off) (xs:=[.own T k rows]) (vs:=[a.tmps.getD t undef]) rfl hoff
  (fun i' j g hg=>by rcases be.move_some hg with⟨-,-,h1⟩|⟨-,-,h1⟩<;>exact h.inv.tok _ _ _ h1) (be.move_inj h.inv.inj _ _ _ _)
  (fun i' j T k rows hne cs' _ _=>be.move_other (by
    rintro⟨e1,e2⟩;cases e1;exact hne rfl (by simp;omega)) (by simp))
  (fun j hj hj'=>by
    have:j=0:=by simp at hj;omega
    subst this;refine⟨⟨.own hrd,fun T' k' rows' e=>?_⟩,hrd.one⟩;simp only[Pu,V.own.injEq]at e;obtain⟨rfl,rfl,rfl⟩:=e;simp only[Qb,Pu];rw[be.move_at];exact hs.own T k rows rfl)
 have hr:=run_storeCells_at P b off T' [a.tmps.getD t undef] 0 cur w h1 (by simp;omega) h3;simp only[Qb]at hr;refine⟨_,hr,⟨h4,h.defers,h.size,fun s=>?_⟩,h6⟩;rw[bg];by_cases e:s=t
 .subst e;simp only[if_true];exact⟨.d hrd,fun _ _ _ e=>by cases e⟩
 .simp only[if_neg e];rw[be.move_other (by simp) (by simp[e])];exact h5 (fun g hg e=>(h.inv.tok _ _ _ hg).2.1 (e▸Ps hi)) (h.slots s)
theorem SRel.loadOwn(h:SRel M bm tk pr ρ σ n a w){d:Nat}(hd:d<n){i b off:Nat}{cs:List V}(hi:bm[i]? = some b)(hc:σ[i]? = some cs){T:TypeId}{k:Nat}{rows:LLD}(hcs:cs[off]? = some (.own T k rows)):
 ∃v,w.cell? ⟨b,off,none⟩=some v/\SRel M bm (tk.move (some i) off none d) pr (put ρ d (.own T k rows)) (σ.set i (cs.set off (.d (.sl rows)))) n (a.put (some d) v) w:=by
 obtain⟨vs,T',h1,h2,h3⟩:=(h.inv.box i b cs hi hc).resolve_right fun hm=>hm.own hcs;have hj:off<cs.length:=(List.getElem?_eq_some_iff.1 hcs).1;have hj':off<vs.size:=by omega
 have hce:cs[off]=.own T k rows:=(List.getElem?_eq_some_iff.1 hcs).2;obtain⟨h4,h5⟩:=h3 off hj hj';rw[hce]at h4;have hrd:DRep M (.sl rows) vs[off]:=by cases h4.rep with|own h=>exact h
 refine⟨vs[off],by simp[World.cell?,h1,hj'],⟨⟨h.inv.facts,by simp[h.inv.len],fun i' b' cs' hi' hc'=>?_,h.inv.free,h.inv.bmnd,fun i' j g hg=>?_,be.move_inj h.inv.inj _ _ _ _,h.inv.prlt⟩,h.defers,by simp[Act.put,h.size],fun s=>?_⟩⟩
 .by_cases e:i'=i
  .subst e;rw[hi]at hi';cases hi';rw[PD (List.getElem?_eq_some_iff.1 hc).1]at hc';cases hc';refine .inl ⟨vs,T',h1,by simp[h2],fun j k1 k2=>?_⟩;have k1':j<cs.length:=by simpa using k1
   obtain⟨m1,m2⟩:=h3 j k1' k2;refine⟨?_,m2⟩;by_cases e2:j=off
   .subst e2;simp only[List.getElem_set_self];exact⟨.d hrd,fun _ _ _ e=>by cases e⟩
   .rw[List.getElem_set_ne (Ne.symm e2),be.move_other (by simp) (by simp[e2])];exact m1
  .rw[PF (Ne.symm e)]at hc';rcases h.inv.box i' b' cs' hi' hc' with⟨vs',T'',m1,m2,m3⟩|m1;case inr=>exact .inr m1
   refine .inl ⟨vs',T'',m1,m2,fun j k1 k2=>⟨?_,(m3 j k1 k2).2⟩⟩;rw[be.move_other (by simp) (by simp[e])];exact(m3 j k1 k2).1
 .rcases be.move_some hg with⟨-,-,h1⟩|⟨-,-,h1⟩<;>exact h.inv.tok _ _ _ h1
 .rw[bg,f5 _ _ _ _ (by rw[h.size];exact hd)];by_cases e:s=d
  .subst e;simp only[if_true];exact⟨.own hrd,fun T2 k2 rows2 e=>by cases e;rw[be.move_at];exact h4.own T k rows rfl⟩
  .simp only[if_neg e];rw[be.move_other (by simp[e]) (by simp)];exact h.slots s
end
end Go.Proofs.YtnhphlmblenapaaGreatDoor
namespace Go.Proofs.YtnhphlmblenapaaGreatDoor
open Go.RowKit
section
variable {P : Program}
theorem ub(w:World)(t ty e:TypeId)(i:TypeInfo)(z:Value)(size bytes:Nat)(ht:P.underlying t=some (.slice e))(hi:P.info? e=some i)(hz:i.zero=some z)
 (hsize:i.size=size)(hby:i.bytes=bytes)(hzs:z.cells.size=size)(hsz:0<size)
 (v:Value)(n:Nat)(xs:List Value)(hown:w.ownsRow 0 e size v n xs)
 (a:Addr)(m c:Nat)(news:List Value)(hl:news.length=m*size)(hnews:∀j u,news[j]? = some u->w.cell? (a.add j)=some u)(h1:∀u∈news,u.oneCell'=true)
 (h63:n+m≤maxLen)(hbytes:(n+m)*bytes≤140737488355328)(hm:0<m):
 ∃g cap w',(Builtin.append_ #[t,t] ty #[v,.slice (some a) m c]).run P w=.ok (.slice (some ⟨g,0,none⟩) (n+m) cap) w'/\w'.ownsRow 0 e size (.slice (some ⟨g,0,none⟩) (n+m) cap) (n+m) (xs++news)/\
  ((v.ownBlock=some g/\w.grownBy w' (some g))\/(w.heap.size≤g/\cO w w')):=by
 obtain⟨v',w',hr,h2,h3,-⟩:=run_append_own (P:=P) w 0 t ty e i z size bytes ht hi hz hsize hby hzs hsz v n xs hown a m c news hl hnews h1 h63 hbytes (Qa _);subst hsize;subst hby;have hgr:∀o,cO w (w.drew.alloc o):=fun o=>(cO.drew w).trans (cO.alloc _ o);rcases hown.2 with⟨rfl,rfl⟩|⟨g,cap,cur,rfl,hbg,hg,hnc,hcm,hcs,htake⟩
 .have hr2:=run_append_nil (P:=P) w t ty e i z ht hi hz a m c news hl hnews hm (by simp only[maxLen]at h63;omega) (by have hb:=hbytes;simp only[P4]at hb;omega);rw[hr]at hr2;injection hr2 with e1 e2
  subst e1;refine⟨w.heap.size,_,w',by rw[hr,P4],?_,.inr ⟨P6 _,by rw[e2];exact hgr _⟩⟩;rw[P4]at h2 ⊢;exact h2
 .by_cases hroom:n+m≤cap
  .have hfit:n*i.size+news.length≤cur.size:=by rw[hl,hcs,<-P7];exact P3 _ hroom
   have hr2:=run_append_room (P:=P) w t ty e i ht hi g n cap cur hg a m c news hl hnews h1 hroom hfit;rw[hr]at hr2;injection hr2 with e1 e2
   subst e1;exact⟨g,_,w',hr,h2,.inl ⟨rfl,h3⟩⟩
  .have hr2:=run_append_grow (P:=P) w t ty e i z ht hi hz ⟨g,0,none⟩ n cap xs hown.1 (hown.cells (g:=g) rfl) a m c news hl hnews (by omega) (by simp only[maxLen]at h63;omega) (growslice_fits (by omega) hbytes);rw[hr]at hr2;injection hr2 with e1 e2
   subst e1;exact⟨w.heap.size,_,w',hr,h2,.inr ⟨P6 _,by rw[e2];exact hgr _⟩⟩
theorem cq(b o j:Nat):(⟨b,o,none⟩:Addr).add j=⟨b,o+j,none⟩:=by unfold Addr.add;split<;>simp_all
theorem cZ{M:ao}{rows:LLD}{v:Value}(h:DRep M (.sl rows) v):∃p cap,v=.slice p rows.length cap/\rows.length≤cap/\cap≤maxLen:=by
 cases h with|sl _ _ p cap _ _ _ _ hc hm=>exact⟨p,cap,rfl,hc,hm⟩
theorem kC{M:ao}{w:World}(hM:M.hold w){rows:LLD}{p:Option Addr}{len cap k:Nat}(h:DRep M (.sl rows) (.slice p len cap))(hk:∀r∈rows,r.length=k)(h0:0<rows.length):
 ∃(b off:Nat) (vs:List Value),p=some ⟨b,off,none⟩/\len=rows.length/\vs.length=rows.length*k/\(∀j u,vs[j]? = some u->M b (off+j)=some u/\w.cell? ((⟨b,off,none⟩:Addr).add j)=some u/\u.oneCell'=true)/\
  ∀i j (hi:i<rows.length) (hj:j<rows[i].length) (hv:i*k+j<vs.length),DRep M rows[i][j] vs[i*k+j]:=by
 cases h with
 | sl _ k' _ _ val hk' hd hf hc hm=>
 have hkk:k'=k:=by rw[<-hk rows[0] (Pr h0),hk' rows[0] (Pr h0)]
 subst hkk;obtain⟨b,off,hp,-⟩:=hf 0 h0
 have hval:∀j,j<rows.length*k'->M b (off+j)=some (val (j/k') (j%k'))/\(val (j/k') (j%k')).oneCell'=true:=by
  intro j hj
  have hk0:0<k':=by
   rcases Nat.eq_zero_or_pos k' with e|e
   .rw[e]at hj;omega
   .exact e
  have hi:j/k'<rows.length:=(Nat.div_lt_iff_lt_mul hk0).2 hj;have hj2:j%k'<k':=Qg _ hk0;obtain⟨b',off',hp',h9⟩:=hf (j/k') hi;rw[hp]at hp';cases hp';have:=h9 (j%k') hj2;rw[P9,Qd,Nat.div_add_mod]at this;exact⟨this,(hd (j/k') (j%k') hi (by rw[hk' _ (Pr hi)];exact hj2)).one⟩
 refine⟨b,off,(PI (rows.length*k')).map fun j=>val (j/k') (j%k'),hp,rfl,by simp,fun j u hu=>?_,fun i j hi hj hv=>?_⟩
 .rw[PT]at hu;obtain⟨q,hq,rfl⟩:=Option.map_eq_some_iff.1 hu;have hlt:j<rows.length*k':=by have:=(List.getElem?_eq_some_iff.1 hq).1;simpa using this
  have:q=j:=by have:=(List.getElem?_eq_some_iff.1 hq).2;simpa using this.symm
  subst this;obtain⟨h1,h2⟩:=hval q hlt;exact⟨h1,by rw[cq];exact hM _ _ _ h1,h2⟩
 .simp only[Px,PN];have hj':j<k':=by rw[<-hk' _ (Pr hi)];exact hj
  have e1:(i*k'+j)/k'=i:=by rw[Qd,Nat.mul_add_div (by omega),Nat.div_eq_of_lt hj',Qb]
  have e2:(i*k'+j)%k'=j:=by rw[Qd,Nat.mul_add_mod,Nat.mod_eq_of_lt hj']
  rw[e1,e2];exact hd i j hi hj
theorem oQ{M:ao}{rows:LLD}{k b off cap:Nat}(hk:∀r∈rows,r.length=k)(vs:List Value)(hl:vs.length=rows.length*k)(hM:∀j u,vs[j]? = some u->M b (off+j)=some u)
 (hd:∀i j (hi:i<rows.length) (hj:j<rows[i].length) (hv:i*k+j<vs.length),DRep M rows[i][j] vs[i*k+j])(hc:rows.length≤cap)(hm:cap≤maxLen):DRep M (.sl rows) (.slice (some ⟨b,off,none⟩) rows.length cap):=by
 have hlt:∀i j,i<rows.length->j<k->i*k+j<vs.length:=fun i j hi hj=>by
  rw[hl]
  calc i*k+j<i*k+k:=by omega
   _=(i+1)*k:=by rw[P7,Qc]
   _≤rows.length*k:=P3 _ hi
 refine .sl rows k _ cap (fun i j=>vs.getD (i*k+j) .nilIface) hk (fun i j hi hj=>?_) (fun i hi=>⟨b,off,rfl,fun j hj=>?_⟩) hc hm
 .have hv:=hlt i j hi (by rw[<-hk _ (Pr hi)];exact hj);rw[PJ,Po hv,Option.getD_some];exact hd i j hi hj hv
 .have hv:=hlt i j hi hj;rw[P9];apply hM;rw[PJ,Po hv,Option.getD_some]
theorem n8(w:World)(t ty e:TypeId)(i:TypeInfo)(ht:P.underlying t=some (.slice e))(hi:P.info? e=some i)(p:Option Addr)(n cap:Nat)(hn:n≤cap)(q:Option Addr)(c:Nat):
 (Builtin.append_ #[t,t] ty #[.slice p n cap,.slice q 0 c]).run P w=.ok (.slice p n cap) w:=by
 cases p<;>cases q<;>simp[Builtin.append_,run_underlying ht,sizeOf,typeInfo,hi,Builtin.lenOf,Builtin.firstCells,loadCells,loadCellsFrom,storeCells,hn]
theorem SRel.app{M:ao}{bm:List Nat}{tk:be}{pr:Prot}{ρ:ac}{σ:LLV}{n:Nat}{a:Act}{w:World}(h:SRel M bm tk pr ρ σ n a w)
 {d s:Nat}(hd:d<n)(hds:d≠s){T:TypeId}{k:Nat}{rows:LLD}(hs:get ρ s=.own T k rows)
 (t ty:TypeId)(i:TypeInfo)(z:Value)(bytes:Nat)(ht:P.underlying t=some (.slice T))(hi:P.info? T=some i)(hz:i.zero=some z)
 (hsize:i.size=k)(hby:i.bytes=bytes)(hzs:z.cells.size=k)(hsz:0<k){vy:Value}{rows2:LLD}(hy:DRep M (.sl rows2) vy)(hk2:∀r∈rows2,r.length=k)
 (h63:rows.length+rows2.length≤maxLen)(hbytes:(rows.length+rows2.length)*bytes≤140737488355328):
 ∃v' w' M' tk',(Builtin.append_ #[t,t] ty #[a.tmps.getD s undef,vy]).run P w=.ok v' w'/\SRel M' bm tk' pr (put (put ρ s (.d (.sl rows))) d (.own T k (rows++rows2))) σ n (a.put (some d) v') w'/\Later M bm pr w M' bm w':=by
 have hcs:=h.slots s;rw[hs]at hcs;have hrd:DRep M (.sl rows) (a.tmps.getD s undef):=by cases hcs.rep with|own h=>exact h
 have hown:=hcs.own T k rows rfl;by_cases hm:rows2=[]
 .subst hm;obtain⟨p,cap,hv,hle,-⟩:=cZ hrd;obtain⟨q,c,hq,-⟩:=cZ hy;rw[List.length_nil]at hq;have h9:=h.give hd hds hs;rw[hv]at h9 ⊢;subst hq;exact⟨_,w,M,_,n8 w t ty T i ht hi p _ cap hle q c,by simpa using h9,Later.refl _ _ _ _⟩
 .have hm0:0<rows2.length:=List.length_pos_iff.2 hm;obtain⟨q,c,hq,-⟩:=cZ hy;subst hq;obtain⟨b2,off2,news,rfl,-,hnl,hnews,hnd⟩:=kC h.inv.facts hy hk2 hm0;generalize hv:a.tmps.getD s undef=v at *
  obtain⟨xs,hrow,hrk⟩:∃xs,w.ownsRow 0 T k v rows.length xs/\∀r∈rows,r.length=k:=by
   rcases hown with⟨rfl,rfl⟩|⟨g,xs,-,-,hr,ho,-⟩
   .exact⟨[],World.ownsRow_nil _ _ _ _,by simp⟩
   .exact⟨xs,ho,hr⟩
  obtain⟨g,cap,w',hrun,hrow',hcase⟩:=ub (P:=P) w t ty T i z k bytes ht hi hz hsize hby hzs hsz v rows.length xs hrow ⟨b2,off2,none⟩ rows2.length c news hnl
   (fun j u hu=>(hnews j u hu).2.1) (fun u hu=>by obtain⟨j,hj,rfl⟩:=Py hu;exact(hnews j _ (Po hj)).2.2) h63 hbytes hm0
  have hxl:xs.length=rows.length*k:=hrow.1;have hlen:(xs++news).length=(rows.length+rows2.length)*k:=hrow'.1
  have hgrow:w.heap.size≤w'.heap.size/\w'.os=w.os/\w'.tape=w.tape/\w'.output=w.output/\(∀b,b<w.heap.size->b≠g->w'.heap[b]? = w.heap[b]?):=by
   rcases hcase with⟨-,hg⟩|⟨-,hg⟩
   .exact⟨hg.size,hg.os,hg.tape,hg.output,fun b hb hne=>hg.block b hb (by simpa using hne)⟩
   .exact⟨hg.size,hg.os,hg.tape,hg.output,fun b hb _=>hg.block b hb⟩
  have hmine:∀b,b<w.heap.size->b=g->tk none s=some g/\v.ownBlock=some g/\∀o x,M g o=some x->o<rows.length*k:=by
   intro b hb e;subst e;rcases hcase with⟨h1,-⟩|⟨h1,-⟩
   .rcases hown with⟨rfl,-⟩|⟨g',xs',h2,h3,-,-,h6⟩
    .cases h1
    .rw[h1]at h3;cases h3;exact⟨h2,h1,h6⟩
   .omega
  have hgb:g∉bm:=fun hb=>(h.inv.tok _ _ _ (hmine g (h.inv.bm_lt g hb) rfl).1).2.1 hb;have hgp:¬pr g:=fun hb=>(h.inv.tok _ _ _ (hmine g (h.inv.prlt g hb) rfl).1).2.2 hb
  have hgt:∀x y,tk x y=some g->x=none/\y=s:=fun x y hxy=>by
   have:=hmine g (h.inv.tok _ _ _ hxy).1 rfl;exact h.inv.inj _ _ _ _ _ hxy this.1
  have hwsz:g<w'.heap.size:=(hrow'.lt g rfl).2;have hM':∃M':ao,M'=fun b o=>if b=g/\o<(xs++news).length then(xs++news)[o]? else M b o:=⟨_,rfl⟩
  obtain⟨M',hM'⟩:=hM';have hother:∀b,b≠g->∀o,M' b o=M b o:=fun b hb o=>by rw[hM'];simp[hb]
  have hat:∀o u,(xs++news)[o]? = some u->M' g o=some u:=fun o u hu=>by
   rw[hM'];simp only[true_and];rw[if_pos (List.getElem?_eq_some_iff.1 hu).1];exact hu
  have hmd:∀o x,M g o=some x->(xs++news)[o]? = some x:=fun o x hx=>by
   obtain⟨-,h2,h3⟩:=hmine g (h.inv.facts.lt hx) rfl;have ho:=h3 o x hx;have hc:=h.inv.facts g o x hx;have hxo:xs[o]? = some (xs[o]'(by omega)):=Po _;have:=hrow.cells h2 o _ hxo;rw[cq,P4,hc]at this;rw[Pp (by omega),hxo,<-this]
  have hle:M.le M':=fun b o x hx=>by
   by_cases hb:b=g
   .subst hb;exact hat o x (hmd o x hx)
   .rw[hother b hb];exact hx
  have hhold:M'.hold w':=fun b o x hx=>by
   by_cases hb:b=g
   .subst hb;rw[hM']at hx;simp only[true_and]at hx;split at hx
    .have:=hrow'.cells (g:=b) rfl o x hx;rw[cq,P4]at this;exact this
    .rename_i hlt;exact absurd (List.getElem?_eq_some_iff.1 (hmd o x hx)).1 hlt
   .rw[hother b hb]at hx;have:=h.inv.facts b o x hx;rw[World.cell?_of_block (w:=w) (hgrow.2.2.2.2 b (fP this) hb)];exact this
  have hcell:∀{x:V} {u:Value} {tt:Option Nat},(∀g',tt=some g'->g'≠g/\g'<w.heap.size)->CellOK M bm w x u tt->CellOK M' bm w' x u tt:=fun htt hok=>
   ⟨hok.rep.mono hle (fun _ _ h=>h),fun T k rows e=>(hok.own T k rows e).keep fun g' hg'=>⟨hgrow.2.2.2.2 g' (htt g' hg').2 (htt g' hg').1,hother g' (htt g' hg').1⟩⟩
  have htk:∃tk':be,tk'=fun x y=>if x=none/\y=d then some g else if x=none/\y=s then none else tk x y:=⟨_,rfl⟩
  obtain⟨tk',htk⟩:=htk
  have htks:∀x y g',tk' x y=some g'->(x=none/\y=d/\g'=g)\/(tk x y=some g'/\g'≠g):=fun x y g' hg'=>by
   rw[htk]at hg';simp only at hg';split at hg'
   .rename_i e;cases hg';exact .inl ⟨e.1,e.2,rfl⟩
   .split at hg'
    .cases hg'
    .rename_i e;exact .inr ⟨hg',fun eg=>e (hgt x y (eg▸hg'))⟩
  have hnew:DRep M' (.sl (rows++rows2)) (.slice (some ⟨g,0,none⟩) (rows.length+rows2.length) cap):=by
   rw[<-Pt]
   obtain⟨hcap,hcm⟩:rows.length+rows2.length≤cap/\cap≤maxLen:=by
    rcases hrow'.2 with⟨e,-⟩|⟨g',cap',cur,e,-,-,h1,h2,-⟩
    .cases e
    .cases e;exact⟨h1,h2⟩
   refine oQ (k:=k) (fun r hr=>(List.mem_append.1 hr).elim (hrk r) (hk2 r)) (xs++news) (by rw[hlen,Pt]) (fun j u hu=>by rw[P4];exact hat j u hu) (fun i j hi hj hv=>?_) (by rw[Pt];exact hcap) hcm;by_cases hil:i<rows.length
   .have hjk:j<rows[i].length:=by rw[Pw hil]at hj;exact hj
    simp only[Pw hil];have hjk':j<k:=by rw[hrk _ (Pr hil)]at hjk;exact hjk
    have hlt:i*k+j<xs.length:=by
     rw[hxl]
     calc i*k+j<i*k+k:=by omega
      _=(i+1)*k:=by rw[P7,Qc]
      _≤rows.length*k:=P3 _ hil
    obtain⟨q,cp,hvs,-⟩:=cZ hrd;subst hvs;obtain⟨b1,off1,vs1,rfl,-,hl1,hv1,hd1⟩:=kC h.inv.facts hrd hrk (by omega)
    have hob:off1=0:=by
     rcases hrow.2 with⟨e,-⟩|⟨g',cap',cur,e,-⟩
     .cases e
     .cases e;rfl
    subst hob;have hv9:vs1[i*k+j]? = some (vs1[i*k+j]'(by omega)):=Po _;have hx9:xs[i*k+j]? = some xs[i*k+j]:=Po _;have c1:=(hv1 _ _ hv9).2.1;have c2:=hrow.cells (g:=b1) rfl _ _ hx9;rw[c1]at c2;have e9:=Option.some.inj c2;rw[Pw hlt,<-e9];exact(hd1 i j hil hjk (by omega)).mono hle
   .have hil':i-rows.length<rows2.length:=by rw[Pt]at hi;omega
    have hjk:j<rows2[i-rows.length].length:=by rw[Pv (by omega)]at hj;exact hj
    simp only[Pv (show rows.length≤i by omega)]
    have e1:i*k+j-xs.length=(i-rows.length)*k+j:=by
     rw[hxl];have:rows.length*k≤i*k:=P3 _ (by omega);rw[Nat.sub_mul];omega
    have hle2:xs.length≤i*k+j:=by
     rw[hxl];have:rows.length*k≤i*k:=P3 _ (by omega);omega
    rw[Pv hle2];simp only[e1];exact(hnd _ _ hil' hjk (by rw[<-e1];rw[Pt]at hv;omega)).mono hle
  refine⟨_,w',M',tk',hrun,⟨⟨hhold,h.inv.len,fun i b cs hi hc=>?_,fun b hb=>?_,h.inv.bmnd,fun x y g' hg'=>?_,fun x y x' y' g' h1 h2=>?_,fun b hb=>P5 (h.inv.prlt b hb) hgrow.1⟩,h.defers,by simp[Act.put,h.size],fun t'=>?_⟩,
   ⟨hle,⟨[],by simp⟩,fun b hb=>hgrow.2.2.2.2 b (h.inv.prlt b hb) (fun e=>hgp (e▸hb)),fun b hb=>hother b (fun e=>hgp (e▸hb)),hgrow.2.1,hgrow.2.2.1,hgrow.2.2.2.1,hgrow.1⟩⟩
  .have hbm:=Ps hi;rcases h.inv.box i b cs hi hc with⟨vs,T',g1,g2,g3⟩|g1;case inr=>exact .inr (g1.mono hle (fun _ _ h=>h) (hgrow.2.2.2.2 b (h.inv.bm_lt b hbm) (fun e=>hgb (e▸hbm))))
   refine .inl ⟨vs,T',by rw[hgrow.2.2.2.2 b (h.inv.bm_lt b hbm) (fun e=>hgb (e▸hbm))];exact g1,g2,fun j hj hj'=>⟨?_,(g3 j hj hj').2⟩⟩;have:tk' (some i) j=tk (some i) j:=by rw[htk];simp
   rw[this];exact hcell (fun g' hg'=>⟨fun e=>by have:=hgt _ _ (e▸hg');simp at this,(h.inv.tok _ _ _ hg').1⟩) (g3 j hj hj').1
  .exact⟨fun o=>by rw[hother b (fun e=>hgb (e▸hb))];exact(h.inv.free b hb).1 o,(h.inv.free b hb).2⟩
  .rcases htks x y g' hg' with⟨-,-,rfl⟩|⟨h1,-⟩
   .exact⟨hwsz,hgb,hgp⟩
   .exact⟨P5 (h.inv.tok _ _ _ h1).1 hgrow.1,(h.inv.tok _ _ _ h1).2⟩
  .rcases htks x y g' h1 with⟨rfl,rfl,rfl⟩|⟨k1,k2⟩<;>rcases htks x' y' _ h2 with⟨rfl,rfl,e⟩|⟨k3,k4⟩
   .exact⟨rfl,rfl⟩
   .exact absurd rfl k4
   .exact absurd e k2
   .exact h.inv.inj _ _ _ _ _ k1 k3
  .rw[bg,f5 _ _ _ _ (by rw[h.size];exact hd)];by_cases e:t'=d
   .subst e;simp only[if_true];refine⟨.own hnew,fun T2 k2 rows2' e=>?_⟩;simp only[V.own.injEq]at e;obtain⟨rfl,rfl,rfl⟩:=e;refine .inr ⟨g,xs++news,by rw[htk];simp,rfl,fun r hr=>(List.mem_append.1 hr).elim (hrk r) (hk2 r),by rw[Pt];exact hrow',fun o x hx=>?_⟩;rw[hM']at hx;simp only[true_and]at hx;rw[Pt,<-hlen];split at hx
    .assumption
    .exact(List.getElem?_eq_some_iff.1 (hmd o x hx)).1
   .simp only[if_neg e,bg];by_cases e2:t'=s
    .subst e2;simp only[if_true];rw[hv];exact⟨.d (hrd.mono hle),fun _ _ _ e=>by cases e⟩
    .simp only[if_neg e2];have:tk' none t'=tk none t':=by rw[htk];simp[e,e2]
     rw[this];exact hcell (fun g' hg'=>⟨fun eg=>e2 (hgt _ _ (eg▸hg')).2,(h.inv.tok _ _ _ hg').1⟩) (h.slots t')
end
end Go.Proofs.YtnhphlmblenapaaGreatDoor
namespace Go.Proofs.YtnhphlmblenapaaGreatDoor
open Go.RowKit
theorem fL(k:IntKind)(n:Int):c7 (.int k (k.wrap n)):=by
 cases k<;>simp[c7,IntKind.wrap,IntKind.min,IntKind.max,IntKind.bits,IntKind.signed]<;>omega
theorem yt{k:IntKind}{a b:Int}(ha:c7 (.int k a)):c7 (.int k (a.tmod b)):=by
 have h1:(a.tmod b).natAbs≤a.natAbs:=by rw[Int.natAbs_tmod];exact Nat.mod_le _ _
 have h2:0≤a->0≤a.tmod b:=Int.tmod_nonneg b
 have h3:a≤0->a.tmod b≤0:=fun h=>by
  have:=Int.tmod_nonneg b (a:=-a) (by omega);rw[Int.neg_tmod]at this;omega
 have h0:k.min≤0:=by cases k<;>simp[IntKind.min,IntKind.signed,IntKind.bits]
 have h4:0≤k.max:=by cases k<;>simp[IntKind.max,IntKind.signed,IntKind.bits]
 simp only[c7]at ha ⊢;omega
theorem AD{k:IntKind}{a:Int}{n:Nat}(ha:c7 (.int k a)):c7 (.int k (a.fdiv (2^n))):=by
 have hp:(0:Int)<2^n:=Int.pow_pos (by omega);rw[Int.fdiv_eq_ediv_of_nonneg _ (by omega)];have h1:0≤a->0≤a/2^n/\a/2^n≤a:=fun h=>⟨Int.ediv_nonneg h (by omega),Int.ediv_le_self _ h⟩
 have h2:a<0->a≤a/2^n/\a/2^n<0:=fun h=>⟨by
  have h3:a*2^n≤a:=by
   have:(1:Int)≤2^n:=by omega
   have h4:=Int.mul_le_mul_of_nonneg_left (a:=1) (b:=2^n) (c:=-a) this (by omega);rw[Int.neg_mul,Int.neg_mul]at h4;omega
  exact(Int.le_ediv_iff_mul_le hp).2 h3,Int.ediv_neg_of_neg_of_pos h hp⟩
 have h0:k.min≤0:=by cases k<;>simp[IntKind.min,IntKind.signed,IntKind.bits]
 have h4:0≤k.max:=by cases k<;>simp[IntKind.max,IntKind.signed,IntKind.bits]
 have h5:a<0 -> -1≤k.max:=fun _=>by omega
 simp only[c7]at ha ⊢;by_cases h:0≤a
 .have:=h1 h;omega
 .have:=h2 (by omega);omega
abbrev aC(k:IntKind)(n:Int):V:=.d (.lit (.int k n))
abbrev ak(b:Bool):V:=.d (.lit (.bool b))
abbrev wP(s:ByteArray):V:=.d (.lit (.string s))
def kM(op:BinOp)(k:IntKind)(a b:Int):Option V:=
 match op with
 | .add=>some (aC k (k.wrap (a+b)))
 | .sub=>some (aC k (k.wrap (a-b)))
 | .mul=>some (aC k (k.wrap (a*b)))
 | .quo=>if b=0 then none else some (aC k (k.wrap (a.tdiv b)))
 | .rem=>if b=0 then none else some (aC k (a.tmod b))
 | .and=>some (aC k (k.wrap (BitVec.ofInt k.bits a &&& BitVec.ofInt k.bits b).toNat))
 | .or=>some (aC k (k.wrap (BitVec.ofInt k.bits a ||| BitVec.ofInt k.bits b).toNat))
 | .xor=>some (aC k (k.wrap (BitVec.ofInt k.bits a ^^^ BitVec.ofInt k.bits b).toNat))
 | .andNot=>some (aC k (k.wrap (BitVec.ofInt k.bits a &&& ~~~ BitVec.ofInt k.bits b).toNat))
 | .eql=>some (ak (a==b))
 | .neq=>some (ak (a != b))
 | .lss=>some (ak (decide (a<b)))
 | .leq=>some (ak (decide (a≤b)))
 | .gtr=>some (ak (decide (a>b)))
 | .geq=>some (ak (decide (a≥b)))
 | _=>none
def xx(op:BinOp)(k:IntKind)(a b:Int):Option V:=
 if b<0 then none else
 match op with
 | .shl=>some (aC k (k.wrap (a*2^(min b.toNat k.bits))))
 | .shr=>some (aC k (a.fdiv (2^(min b.toNat k.bits))))
 | _=>none
def Gm(op:BinOp)(a b:ByteArray):Option V:=
 match op with
 | .add=>if a.size+b.size≤9223372036854775807 then some (wP (a++b))else none
 | .eql=>some (ak (a.toList==b.toList))
 | .neq=>some (ak (!(a.toList==b.toList)))
 | .lss=>some (ak (Op.bytesLess a.toList b.toList))
 | .leq=>some (ak (Op.bytesLess a.toList b.toList||a.toList==b.toList))
 | .gtr=>some (ak (!(Op.bytesLess a.toList b.toList||a.toList==b.toList)))
 | .geq=>some (ak (!Op.bytesLess a.toList b.toList))
 | _=>none
def OG(op:BinOp)(a b:Bool):Option V:=
 match op with
 | .eql=>some (ak (a==b))
 | .neq=>some (ak (!(a==b)))
 | _=>none
def cI:BinOp->Bool
 | .shl=>true
 | .shr=>true
 | _=>false
def co(op:BinOp)(x y:V):Option V:=
 match x,y with
 | .d (.lit (.int k a)),.d (.lit (.int k' b))=>if cI op then xx op k a b else if k=k' then kM op k a b else none
 | .d (.lit (.string a)),.d (.lit (.string b))=>Gm op a b
 | _,_=>none
def GI(op:BinOp)(x y:V):Option V:=
 match x,y with
 | .d (.lit (.bool a)),.d (.lit (.bool b))=>OG op a b
 | _,_=>none
def unV(op:UnOp)(x:V):Option V:=
 match op,x with
 | .not,.d (.lit (.bool b))=>some (ak (!b))
 | .neg,.d (.lit (.int k n))=>some (aC k (k.wrap (0-n)))
 | .xor,.d (.lit (.int k n))=>some (aC k (k.wrap (BitVec.ofInt k.bits (if k.signed then -1 else k.max) ^^^ BitVec.ofInt k.bits n).toNat))
 | _,_=>none
def iJ(c a b:V):Option V:=
 match c,a,b with
 | .d (.lit (.bool c)),.d (.lit (.bool a)),.d (.lit (.bool b))=>some (ak (bif c then a else b))
 | .d (.lit (.bool c)),a,b=>some (bif c then a.copy else b.copy)
 | _,_,_=>none
section
variable {P : Program} {M : ao} {bm : List Nat} {w : World}
theorem Rep.int_inv{k:IntKind}{n:Int}{v:Value}(h:Rep M bm (aC k n) v):v=.int k n/\c7 (.int k n):=by
 cases h with|d h=>cases h with|lit _ h=>exact⟨rfl,h⟩
theorem Rep.bool_inv{b:Bool}{v:Value}(h:Rep M bm (ak b) v):v=.bool b:=by
 cases h with|d h=>cases h with|lit _ h=>rfl
theorem Rep.str_inv{s:ByteArray}{v:Value}(h:Rep M bm (wP s) v):v=.string s/\s.size≤maxLen:=by
 cases h with|d h=>cases h with|lit _ h=>exact⟨rfl,h⟩
theorem dH{k:IntKind}{n:Int}(h:c7 (.int k n)):Rep M bm (aC k n) (.int k n):=.d (.lit _ h)
theorem eM(b:Bool):Rep M bm (ak b) (.bool b):=.d (.lit _ trivial)
theorem xE{s:ByteArray}(h:s.size≤maxLen):Rep M bm (wP s) (.string s):=.d (.lit _ h)
def ck(P:Program)(M:ao)(bm:List Nat)(w:World)(x:V)(s:Sem Value):Prop:=∃v,s.run P w=.ok v w/\Rep M bm x v/\∀T k rows,x≠.own T k rows
theorem A5{op:BinOp}{x y z:V}(t:TypeId)(hz:co op x y=some z)(ox oy:Operand){vx vy:Value}(hx:Rep M bm x vx)(hy:Rep M bm y vy):
 ck P M bm w z (do eqGuard op t ox oy vx vy;binOp op t vx vy):=by
 unfold co at hz;split at hz
 .rename_i k a k' b;obtain⟨rfl,fa⟩:=hx.int_inv;obtain⟨rfl,fb⟩:=hy.int_inv;have hg:(eqGuard op t ox oy (.int k a) (.int k' b)).run P w=.ok () w:=by unfold eqGuard;cases op<;>simp
  split at hz
  .rename_i hs;unfold xx at hz;split at hz
   .cases hz
   .rename_i hb;cases op<;>simp only[cI]at hs<;>first|cases hs|skip
    all_goals
     simp only[Option.some.injEq]at hz;subst hz;refine⟨_,by simp[hg,binOp,Op.shift,hb];done,dH ?_,by simp⟩;first|exact fL _ _|exact AD fa
  .rename_i hs;split at hz
   .rename_i hk;subst hk;unfold kM at hz;cases op<;>simp only[cI,not_true,Bool.true_eq_false]at hs<;>simp only[Option.some.injEq]at hz<;>(first|(cases hz;done)|skip)
    case quo=>
     split at hz
     .cases hz
     .rename_i h0;cases hz;exact⟨_,by simp[hg,binOp,Op.intDiv,h0];done,dH (fL _ _),by simp⟩
    case rem=>
     split at hz
     .cases hz
     .rename_i h0;cases hz;exact⟨_,by simp[hg,binOp,Op.intDiv,h0];done,dH (yt fa),by simp⟩
    all_goals subst hz
    case add|sub|mul=>exact⟨_,by simp[hg,binOp,Op.intArith];done,dH (fL _ _),by simp⟩
    case and|or|xor|andNot=>exact⟨_,by rw[Sem.run_bind,hg,Result.andThen_ok];unfold binOp;simp only[ne_eq,not_true_eq_false,if_false];rfl,dH (fL _ _),by simp⟩
    all_goals exact⟨_,by simp[hg,binOp,Op.intCmp];done,eM _,by simp⟩
   .cases hz
 .rename_i a b;obtain⟨rfl,fa⟩:=hx.str_inv;obtain⟨rfl,fb⟩:=hy.str_inv;have hg:(eqGuard op t ox oy (.string a) (.string b)).run P w=.ok () w:=by unfold eqGuard;cases op<;>simp
  unfold Gm at hz;cases op<;>simp only[Option.some.injEq]at hz<;>(first|(cases hz;done)|skip)
  case add=>
   split at hz
   .rename_i hs;cases hz;refine⟨.string (a++b),?_,xE (by unfold maxLen;simp[ByteArray.size_append];omega),by simp⟩;have:¬(((a.size+b.size:Nat):Int)>IntKind.i64.max):=by simp only[IntKind.max,IntKind.signed,IntKind.bits];omega
    simp only[Sem.run_bind,hg,Result.andThen_ok,binOp,Op.stringOp];rw[if_neg this];rfl
   .cases hz
  all_goals subst hz
  all_goals exact⟨_,by simp[hg,binOp,Op.stringOp];done,eM _,by simp⟩
 .cases hz
theorem D7{op:UnOp}{x z:V}(hz:unV op x=some z){vx:Value}(hx:Rep M bm x vx):ck P M bm w z (Op.unary op vx):=by
 unfold unV at hz;split at hz
 .obtain rfl:=hx.bool_inv;cases hz;exact⟨_,by simp[Op.unary];done,eM _,by simp⟩
 .obtain⟨rfl,-⟩:=hx.int_inv;cases hz;exact⟨_,by simp[Op.unary,Op.intArith];done,dH (fL _ _),by simp⟩
 .obtain⟨rfl,-⟩:=hx.int_inv;cases hz;exact⟨_,by simp[Op.unary,Op.intBits];done,dH (fL _ _),by simp⟩
 .cases hz
theorem wN{c x y z:V}(hz:iJ c x y=some z){vc vx vy:Value}(hc:Rep M bm c vc)(hx:Rep M bm x vx)(hy:Rep M bm y vy):∃v,(do pure (Next.value (if <-asBool vc then vx else vy)):Sem Next).run P w=.ok (.value v) w/\Rep M bm z v/\∀T k rows,z≠.own T k rows:=by
 unfold iJ at hz;split at hz
 .rename_i c a b;obtain rfl:=hc.bool_inv;obtain rfl:=hx.bool_inv;obtain rfl:=hy.bool_inv;cases hz;refine⟨.bool (bif c then a else b),?_,eM _,by simp⟩;cases c<;>simp[asBool]
 .rename_i c1 a1 b1 cb hne;obtain rfl:=hc.bool_inv;cases hz;cases cb
  .exact⟨_,by simp[asBool],hy.copy,fun _ _ _=>V.copy_own⟩
  .exact⟨_,by simp[asBool],hx.copy,fun _ _ _=>V.copy_own⟩
 .cases hz
end
end Go.Proofs.YtnhphlmblenapaaGreatDoor
namespace Go.Proofs.YtnhphlmblenapaaGreatDoor
open Go.RowKit
structure TI where
 d:TypeDesc
 sz:Nat
 bytes:Nat
 z:Value
abbrev Tab:=TypeId->Option TI
def nC(P:Program)(tab:Tab):Prop:=∀t i,tab t=some i->P.underlying t=some i.d/\∃inf,P.info? t=some inf/\inf.size=i.sz/\inf.bytes=i.bytes/\inf.zero=some i.z/\i.z.cells.size=i.sz
structure Cx where
 P:Program
 tab:Tab
 gl:Nat->Option (List D)
 kp:Nat->Option (Array Value->Prop)
 ok:nC P tab
 mixed:P.follows .mixedOrders=true
 eqs:TypeId->Bool
 eqok:∀t,eqs t=true->P.stoodInHeld t=false/\P.eqGuardType P.depth t=false
def Cx.cells(C:Cx)(M:ao):Prop:=∀g cs,C.gl g=some cs->∃val:Nat->Value,(∀j,j<cs.length->M g j=some (val j))/\∀j (h:j<cs.length),DRep M cs[j] (val j)
def Cx.kept(C:Cx)(pr:Nat->Prop)(w:World):Prop:=∀g p,C.kp g=some p->pr g/\∃cs T z,w.heap[g]? = some (.cells cs T z)/\p cs
def Cx.glob(C:Cx)(M:ao)(pr:Nat->Prop)(w:World):Prop:=C.cells M/\C.kept pr w
theorem Cx.cells.mono{C:Cx}{M M':ao}(h:C.cells M)(hM:M.le M'):C.cells M':=fun g cs hg=>by
 obtain⟨val,h1,h2⟩:=h g cs hg;exact⟨val,fun j hj=>hM _ _ _ (h1 j hj),fun j hj=>(h2 j hj).mono hM⟩
theorem Cx.glob.mono{C:Cx}{M M':ao}{bm bm':List Nat}{pr:Nat->Prop}{w w':World}(h:C.glob M pr w)(hl:Later M bm pr w M' bm' w'):C.glob M' pr w':=
 ⟨h.1.mono hl.le,fun g p hg=>by obtain⟨h1,h2⟩:=h.2 g p hg;exact⟨h1,by rw[hl.keep g h1];exact h2⟩⟩
theorem Cx.glob.prot{C:Cx}{M:ao}{pr pr':Nat->Prop}{w:World}(h:C.glob M pr w)(hp:∀b,pr b->pr' b):C.glob M pr' w:=
 ⟨h.1,fun g p hg=>by obtain⟨h1,h2⟩:=h.2 g p hg;exact⟨hp _ h1,h2⟩⟩
inductive X where
 | t (n:Nat)
 | k (v:V)
 | g (n:Nat)
def ev(C:Cx)(ρ:ac):X->V
 | .t n=>get ρ n
 | .k v=>v
 | .g n=>match C.gl n with|some cs=>.row cs 0|none=>.junk
def Bt:Value->Value->Bool
 | .bool b,.bool b'=>b==b'
 | .int k n,.int k' n'=>k==k'&&n==n'&&decide (k.min≤n)&&decide (n≤k.max)
 | .string s,.string s'=>s.data.toList==s'.data.toList&&decide (s.size≤1000000)
 | .pointer none,.pointer none=>true
 | .nilIface,.nilIface=>true
 | .nilFunc,.nilFunc=>true
 | .map none,.map none=>true
 | _,_=>false
def FB:V->Value->Bool
 | .d (.lit v),v'=>Bt v v'
 | .nil,.slice none 0 0=>true
 | .own _ _ [],.slice none 0 0=>true
 | _,_=>false
def ux:List V->List Value->Bool
 | [],[]=>true
 | c::cs,v::vs=>FB c v&&ux cs vs
 | _,_=>false
def okV:V->Value->Bool
 | .agg cs,.agg vs=>ux cs vs.toList
 | v,v'=>FB v v'
def okX:X->Operand->Bool
 | .t n,.tmp m=>n==m
 | .k (.fn f []),.func g=>f==g
 | .k v,.const c=>okV v c
 | .g n,.global m=>n==m
 | _,_=>false
section
variable {C : Cx} {M : ao} {bm : List Nat} {tk : be} {pr : Prot} {ρ : ac} {σ : LLV} {n : Nat} {a : Act} {w : World}
theorem uw{v v':Value}(h:Bt v v'=true):v=v'/\c7 v:=by
 unfold Bt at h;split at h
 .simp only[beq_iff_eq]at h;subst h;exact⟨rfl,trivial⟩
 .simp only[Pl,beq_iff_eq,decide_eq_true_eq]at h;obtain⟨⟨⟨rfl,rfl⟩,h1⟩,h2⟩:=h;exact⟨rfl,h1,h2⟩
 .simp only[Pl,beq_iff_eq,decide_eq_true_eq]at h;refine⟨?_,by have:=h.2;show _≤maxLen;unfold maxLen;omega⟩;rename_i s s';cases s;cases s';simp only[Value.string.injEq,ByteArray.mk.injEq];exact Array.toList_inj.1 h.1
 all_goals first|exact⟨rfl,trivial⟩|cases h
theorem pN{x:V}{v:Value}(h:FB x v=true):Rep M bm x v/\v.oneCell'=true/\∀T k rows,x=.own T k rows->v=.slice none 0 0/\rows=[]:=by
 unfold FB at h;split at h
 .obtain⟨rfl,hf⟩:=uw h;exact⟨.d (.lit _ hf),hf.one,by simp⟩
 .exact⟨.nil,rfl,by simp⟩
 .exact⟨.own (DRep.nil M),rfl,fun T k rows e=>by cases e;exact⟨rfl,rfl⟩⟩
 .cases h
theorem gZ:∀{cs:List V} {vs:List Value},ux cs vs=true->vs.length=cs.length/\∀i (h:i<cs.length) (h':i<vs.length),Rep M bm cs[i] vs[i]/\vs[i].oneCell'=true/\∀T k rows,cs[i]=.own T k rows->vs[i]=.slice none 0 0/\rows=[]
 | [],[],_=>⟨rfl,fun i h=>by simp at h⟩
 | c::cs,v::vs,h=>by
  simp only[ux,Pl]at h;obtain⟨h1,h2⟩:=gZ h.2;refine⟨by simp[h1],fun i h3 h4=>?_⟩;cases i with
  | zero=>exact pN h.1
  | succ i=>exact h2 i (by simpa using h3) (by simpa using h4)
 | [],_::_,h=>by cases h
 | _::_,[],h=>by cases h
theorem ky{x:V}{v:Value}(h:okV x v=true):Rep M bm x v:=by
 unfold okV at h;split at h
 .rename_i cs vs;obtain⟨h1,h2⟩:=gZ (M:=M) (bm:=bm) h;have:=Rep.agg (M:=M) (bm:=bm) h1 (fun i h3 h4=>(h2 i h3 h4).1) (fun v hv=>by obtain⟨i,hi,rfl⟩:=Py hv;exact(h2 i (by rw[<-h1];exact hi) hi).2.1);simpa using this
 .exact(pN h).1
theorem ay(hG:C.glob M pr w)(h:SRel M bm tk pr ρ σ n a w){x:X}{ox:Operand}(hx:okX x ox=true):Rep M bm (ev C ρ x) (a.eval ox):=by
 unfold okX at hx;split at hx
 .rename_i m m';simp only[beq_iff_eq]at hx;subst hx;exact(h.slots m).rep
 .rename_i f g;simp only[beq_iff_eq]at hx;subst hx;exact .fn (vs:=[]) rfl (fun i h=>by simp at h)
 .exact ky hx
 .rename_i m m';simp only[beq_iff_eq]at hx;subst hx;simp only[ev];cases hg:C.gl m with
  | none=>exact .junk _
  | some cs=>
   obtain⟨val,h1,h2⟩:=hG.1 m cs hg;have:=Rep.row (bm:=bm) (cs:=cs) (off:=0) (b:=m) (o:=0) val (fun j hj=>by rw[P4];exact h1 j hj) h2;exact this
 .cases hx
theorem xV(h:SRel M bm tk pr ρ σ n a w){m:Nat}{ox:Operand}(hx:okX (.t m) ox=true):ox=.tmp m:=by
 unfold okX at hx;split at hx
 .rename_i e;cases e;simp only[beq_iff_eq]at hx;rw[hx]
 all_goals rename_i e;first|cases e|(cases hx;done)|skip
 all_goals (cases hx)
def tyL(k o:Nat):List V->Option (List V)
 | [.tup [_,.d (.lit (.int .i64 d))]]=>if o=2/\k=1 then some [.d (.lit (.int .i64 d))]else none
 | _=>none
theorem yI(h:Inv M bm σ tk pr w){k o i b:Nat}{cs cs':List V}(hb:bm[i]? = some b)(hs:σ[i]? = some cs')(hy:tyL k o cs'=some cs):
 ∃d,k=1/\o=2/\cs=[.d (.lit (.int .i64 d))]/\c7 (.int .i64 d)/\w.cell? ⟨b,2,none⟩=some (.int .i64 d):=by
 unfold tyL at hy;split at hy
 .rename_i x d;split at hy
  .rename_i e;cases hy;rcases h.box i b _ hb hs with⟨vs,T,h1,h2,h3⟩|⟨st,kv,es,clock,e0,-⟩|⟨T,q,e0,hf,h1⟩
   .have h4:=h3 0 (by simp) (by simp at h2;omega);have h5:=h4.1.rep;simp only[Pu]at h5
    obtain⟨vs',hv⟩:∃vs',vs[0]'(by simp at h2;omega)=.tuple vs':=by
     generalize vs[0]'(by simp at h2;omega)=u at h5;cases h5;exact⟨_,rfl⟩
    have h6:=h4.2;rw[hv]at h6;cases h6
   .simp at e0
   .simp only[tyc,List.cons.injEq,V.tup.injEq,V.d.injEq,D.lit.injEq,Value.int.injEq,and_true,true_and]at e0;obtain⟨-,rfl⟩:=e0;exact⟨d,e.2,e.1,rfl,hf,by simp[World.cell?,h1]⟩
  .cases hy
 .cases hy
def lq(σ:LLV)(k:Nat):V->Option (List V)
 | .ptr i o=>match σ[i]? with|some cs=>if o+k≤cs.length/\bT cs=true then some ((cs.drop o).take k)else tyL k o cs|none=>none
 | .row cs o=>if o+k≤cs.length then some (((cs.drop o).take k).map V.d)else none
 | _=>none
def ii(ag:Bool)(cs:List V):Option V:=
 match ag,cs with
 | true,cs=>some (.agg (cs.map V.copy))
 | false,[c]=>some c.copy
 | false,_=>none
def fI(σ:LLV)(k:Nat)(ag:Bool)(x:V):Option V:=(lq σ k x).bind (ii ag)
def TI.agg(i:TI):Bool:=match i.d with | .struct _=>true | .array _ _=>true|_=>false
theorem nz(h:Inv M bm σ tk pr w){k:Nat}{x:V}{cs:List V}(hc:lq σ k x=some cs){v:Value}(hx:Rep M bm x v):
 ∃(ad:Addr) (vs:List Value),v=.pointer (some ad)/\cs.length=k/\vs.length=k/\(∀j u,vs[j]? = some u->w.cell? (ad.add j)=some u)/\∀j (h:j<cs.length) (h':j<vs.length),Rep M bm cs[j] vs[j]/\vs[j].oneCell'=true:=by
 unfold lq at hc;split at hc
 .rename_i i o;split at hc
  .rename_i cs' hs;split at hc
   .rename_i hle;cases hc;cases hx with
    | @ptr _ _ b hb=>
    obtain⟨hle,hnm⟩:=hle;obtain⟨vs,T,h1,h2,h3⟩:=h.cells hb hs hnm;refine⟨_,(vs.toList.drop o).take k,rfl,by simp;omega,by simp;omega,fun j u hu=>?_,fun j hj hj'=>?_⟩
    .have hjk:j<k:=by have:=(List.getElem?_eq_some_iff.1 hu).1;simp at this;omega
     rw[PC hjk,PO,Pd]at hu;rw[cq];simp[World.cell?,h1,hu]
    .simp only[PA,PB,Pe];have:=h3 (o+j) (by simp at hj;omega) (by simp at hj';omega);exact⟨this.1.rep,this.2⟩
   .cases hx with
    | @ptr _ _ b hb=>
    obtain⟨d,rfl,rfl,rfl,hf,hcl⟩:=yI h hb hs hc;refine⟨_,[.int .i64 d],rfl,rfl,rfl,fun j u hu=>?_,fun j hj hj'=>?_⟩
    .have hj0:j=0:=by have:=(List.getElem?_eq_some_iff.1 hu).1;simpa using this
     subst hj0;simp only[PL,Option.some.injEq]at hu;subst hu;rw[cq];exact hcl
    .have hj0:j=0:=by simpa using hj
     subst hj0;exact⟨.d (.lit _ hf),hf.one⟩
  .cases hc
 .rename_i cs' o;split at hc
  .rename_i hle;cases hc;cases hx with
   | @row _ _ b off val hf hd=>
   refine⟨_,(PI k).map fun j=>val (o+j),rfl,by simp;omega,by simp,fun j u hu=>?_,fun j hj hj'=>?_⟩
   .rw[PT]at hu;obtain⟨q,hq,rfl⟩:=Option.map_eq_some_iff.1 hu;have hlt:=(List.getElem?_eq_some_iff.1 hq).1;have:q=j:=by have:=(List.getElem?_eq_some_iff.1 hq).2;simpa using this.symm
    subst this;rw[cq,P9];exact h.facts _ _ _ (hf (o+q) (by simp at hlt;omega))
   .simp only[Px,PA,PB,PN];have:=hd (o+j) (by simp at hj;omega);exact⟨.d this,this.one⟩
  .cases hc
 .cases hc
theorem oK(h:Inv M bm σ tk pr w){t:TypeId}{i:TI}(ht:C.tab t=some i){x y:V}(hy:fI σ i.sz i.agg x=some y){v:Value}(hx:Rep M bm x v):
 ck C.P M bm w y (Instr.loadAt t v):=by
 obtain⟨hu,inf,hi,hs,hb,hz,hzc⟩:=C.ok t i ht;unfold fI at hy;obtain⟨cs,hcs,hp⟩:=Option.bind_eq_some_iff.1 hy;obtain⟨ad,vs,rfl,hl,hl2,hcell,hrep⟩:=nz h hcs hx
 have hisagg:(isAgg t).run C.P w=.ok i.agg w:=by
  unfold isAgg;simp only[Sem.run_bind,run_underlying hu,Result.andThen_ok];unfold TI.agg;cases i.d<;>rfl
 have hsize:(sizeOf t).run C.P w=.ok i.sz w:=by simp[sizeOf,typeInfo,hi,hs]
 cases hag:i.agg with
 | true=>
  rw[hag]at hp hisagg;simp only[ii,Option.some.injEq]at hp;subst hp;refine⟨.agg vs.toArray,?_,.agg (by simp;omega) (fun j h1 h2=>?_) (fun u hu=>?_),by simp⟩
  .have:=run_loadCells_list (P:=C.P) w ad vs hcell;rw[hl2]at this;simp[Instr.loadAt,Instr.sureAddr,loadVar,hisagg,hsize,this]
  .simp only[Px];exact(hrep j (by simpa using h1) h2).1.copy
  .obtain⟨j,hj,rfl⟩:=Py hu;exact(hrep j (by omega) hj).2
 | false=>
  rw[hag]at hp hisagg
  match cs,hp with
  | [c],hp=>
   simp only[ii,Option.some.injEq]at hp;subst hp;have hl1:i.sz=1:=by simpa using hl.symm
   have h0:0<vs.length:=by omega
   refine⟨vs[0],?_,(hrep 0 (by simp) h0).1.copy,fun _ _ _=>V.copy_own⟩;have hc0:=hcell 0 vs[0] (Po h0);have hz0:ad.add 0=ad:=by simp[Addr.add]
   rw[hz0]at hc0;simp[Instr.loadAt,Instr.sureAddr,loadVar,hisagg,hc0]
end
end Go.Proofs.YtnhphlmblenapaaGreatDoor
namespace Go.Proofs.YtnhphlmblenapaaGreatDoor
open Go.RowKit
def V.boxable1:V->Bool
 | .tup _=>false
 | .junk=>false
 | .agg _=>false
 | .mapc _ _=>false
 | _=>true
inductive Kd where
 | i (k:IntKind)
 | s
 | b
inductive OP where
 | mv (x:X)
 | pick (c a b:X)
 | bin (op:BinOp) (x y:X)
 | eqa (neq:Bool) (T:TypeId) (ks:List Kd) (x y:X)
 | nif (neq:Bool) (x:X)
 | un (op:UnOp) (x:X)
 | conv (k:IntKind) (x:X)
 | nilck (x:X)
 | fa (off:Nat) (x:X)
 | ia (k:Nat) (x i:X)
 | ix (x i:X)
 | fld (off k:Nat) (ag:Bool) (x:X)
 | len (str:Bool) (x:X)
 | ext (x:X) (i:Nat)
 | load (k:Nat) (ag:Bool) (x:X)
 | bld (zs:List V) (ps:List (Nat×Nat×X))
 | sub (str:Bool) (k:Nat) (x:X) (lo hi:Option X)
 | mkfn (f:FuncId) (cap:List X)
 | mkbd (f:FuncId) (first:List X)
 | mki (t:TypeId) (x:X)
 | mx (gt:Bool) (x y:X)
 | tas (T:TypeId) (z:V) (x:X)
 | mlk (st ok:Bool) (z:V) (x k:X)
 | mks (T k:Nat) (xs:List X)
 | appv (T bytes:Nat) (z:List V) (t:Nat) (y:X)
 | mkso (T k:Nat) (xs:List X)
 | mkc (T k bytes:Nat) (x:X)
 | mvo (t:Nat)
 | nilo (T k:Nat)
 | app (T k bytes:Nat) (t:Nat) (y:X)
 | ldo (x:X)
 | new (T:Nat) (cs:List V)
 | box (T:Nat) (x:X)
 | boxt (T:Nat) (x:X)
 | sto (k:Nat) (x y:X)
 | stoo (x:X) (t:Nat)
 | call (f:FuncId) (args:List X)
 | callv (x:X) (args:List X)
 | calln (f:FuncId) (args:List X)
 | pan (x:X)
 | mmk (st:Bool)
 | mst (st:Bool) (x k v:X)
def faV(off:Nat):V->Option V
 | .ptr i o=>some (.ptr i (o+off))
 | .row cs o=>some (.row cs (o+off))
 | _=>none
def eC:V->Option LLD
 | .d (.sl rows)=>some rows
 | .own _ _ rows=>some rows
 | .nil=>some []
 | _=>none
def iaV(k:Nat)(x i:V):Option V:=
 match x with
 | .bsl b off n k'=>match i with
  | .d (.lit (.int _ j))=>if(0≤j/\j<(n:Int))/\k'=k then some (.ptr b (off+j.toNat*k))else none
  | _=>none
 | .bsc b n _=>match i with
  | .d (.lit (.int _ j))=>if 0≤j/\j<(n:Int)then some (.ptr b (0+j.toNat*k))else none
  | _=>none
 | x=>match eC x,i with
  | some rows,.d (.lit (.int _ n))=>if 0≤n then(match rows[n.toNat]? with|some r=>if r.length=k then some (.row r 0)else none|none=>none)else none
  | _,_=>none
def ixV(x i:V):Option V:=
 match x,i with
 | .d (.lit (.string s)),.d (.lit (.int _ n))=>if 0≤n then(match s.data.toList[n.toNat]? with|some b=>some (aC .u8 b.toNat)|none=>none)else none
 | _,_=>none
def vF(off k:Nat)(ag:Bool)(x:V):Option V:=
 match x with
 | .agg cs=>if off+k≤cs.length then ii ag ((cs.drop off).take k)else none
 | _=>none
def lj(str:Bool)(x:V):Option V:=
 match str with
 | true=>match x with | .d (.lit (.string s))=>some (aC .i64 s.size)|_=>none
 | false=>match x with
  | .bsl _ _ n _=>some (aC .i64 n)
  | .bsc _ n _=>some (aC .i64 n)
  | x=>match eC x with|some rows=>some (aC .i64 rows.length)|none=>none
def pc(x:V)(i:Nat):Option V:=
 match x with
 | .tup cs=>match cs[i]? with|some c=>some c.copy|none=>none
 | _=>none
def rq(k:IntKind)(x:V):Option V:=
 match x with
 | .d (.lit (.int _ n))=>some (aC k (k.wrap n))
 | _=>none
def gi(x:V):Option V:=
 match x with
 | .ptr i o=>some (.ptr i o)
 | .row cs o=>some (.row cs o)
 | .fn f c=>some (.fn f c)
 | _=>none
def kH(ρ:X->V):List V->List (Nat×Nat×X)->Option (List V)
 | cs,[]=>some cs
 | cs,(off,k,x)::r=>if(ρ x).cells.length=k/\off+k≤cs.length then(match ρ x with | .tup _=>none | .junk=>none|_=>kH ρ (over cs off (ρ x).cells) r)else none
def fy(x:Option V)(d:Nat):Option Nat:=
 match x with
 | none=>some d
 | some (.d (.lit (.int _ n)))=>if 0≤n then some n.toNat else none
 | _=>none
def qw(str:Bool)(k:Nat)(x:V)(lo hi:Option V):Option V:=
 match str with
 | true=>match x with
  | .d (.lit (.string s))=>match fy lo 0,fy hi s.size with
   | some l,some h=>if l≤h/\h≤s.size then some (wP (s.extract l h))else none
   | _,_=>none
  | _=>none
 | false=>match x with
  | .bsl b off n k'=>match fy lo 0,fy hi n with
   | some l,some h=>if(l≤h/\h≤n)/\k'=k then some (if l=h then .d (.sl [])else .bsl b (off+l*k) (h-l) k)else none
   | _,_=>none
  | .bsc b n c=>match fy lo 0,fy hi n with
   | some l,some h=>if(l≤h/\h≤n)/\1=k then some (if l=0 then .bsc b h c else if l=h then .d (.sl [])else .bsl b (0+l*k) (h-l) k)else none
   | _,_=>none
  | x=>match eC x with
   | some rows=>match fy lo 0,fy hi rows.length with
    | some l,some h=>if(l≤h/\h≤rows.length)/\rows.all (fun r=>r.length==k)=true then some (.d (.sl ((rows.take h).drop l)))else none
    | _,_=>none
   | none=>none
def KZ(x n m:V):Option V:=
 match eC x,n,m with
 | some rows,.d (.lit (.int _ a)),.d (.lit (.int _ b))=>if a=rows.length/\b=rows.length then some (.d (.sl rows))else none
 | _,_,_=>none
def mxV(gt:Bool)(x y:V):Option V:=
 match x,y with
 | .d (.lit (.int k a)),.d (.lit (.int k' b))=>if k=k' then some (aC k (if gt then(if b>a then b else a)else(if b<a then b else a)))else none
 | _,_=>none
def vz(t:TypeId)(x:V):Option V:=
 match x with
 | .d y=>some (.iface t (.d y))
 | .agg cs=>some (.iface t (.agg (cs.map V.copy)))
 | .ptr i o=>some (.iface t (.ptr i o))
 | _=>none
def Bu(T:TypeId)(z x:V):Option V:=
 match x with
 | .iface t u=>if t=T then some (.tup [u,ak true])else some (.tup [z,ak false])
 | .d (.lit .nilIface)=>some (.tup [z,ak false])
 | _=>none
def kW(kd:Kd)(x y:V):Option Bool:=
 match kd,x,y with
 | .i q,.d (.lit (.int k a)),.d (.lit (.int k' b))=>if k=q/\k'=q then some (decide (a=b))else none
 | .s,.d (.lit (.string a)),.d (.lit (.string b))=>some (decide (a=b))
 | .b,.d (.lit (.bool a)),.d (.lit (.bool b))=>some (a==b)
 | _,_,_=>none
def cJ:List Kd->List V->List V->Option Bool
 | [],[],[]=>some true
 | k::ks,a::r,b::s=>match kW k a b,cJ ks r s with
  | some x,some y=>some (x&&y)
  | _,_=>none
 | _,_,_=>none
def iY(neq:Bool)(ks:List Kd)(x y:V):Option V:=
 match x,y with
 | .agg a,.agg b=>match cJ ks a b with
  | some r=>some (ak (bif neq then !r else r))
  | none=>none
 | _,_=>none
def sa(neq:Bool)(x:V):Option V:=
 match x with
 | .d (.lit .nilIface)=>some (ak (!neq))
 | .iface _ _=>some (ak neq)
 | _=>none
def MN(neq:Bool)(x:V):Option V:=
 match x with
 | .d (.lit (.pointer none))=>some (ak (!neq))
 | .ptr _ _=>some (ak neq)
 | .row _ _=>some (ak neq)
 | _=>none
def nU(st:Bool)(x:V):Option Key:=
 match st,x with
 | false,.d (.lit (.int .i64 n))=>some (.i n)
 | true,.d (.lit (.string s))=>some (.s s)
 | _,_=>none
def kK(k:Key):List (Key×V)->Option V
 | []=>none
 | (a,x)::r=>if a=k then some x else kK k r
def nZ(k:Key)(x:V):List (Key×V)->List (Key×V)
 | []=>[(k,x)]
 | (a,y)::r=>if a=k then(k,x)::r else(a,y)::nZ k x r
def zg(st:Bool)(b:Option (List V)):Option (List (Key×V)):=
 match b with
 | some [.mapc st' kv]=>if st'=st then some kv else none
 | _=>none
def jo(st:Bool)(σ:LLV)(x:V):Option (List (Key×V)):=
 match x with
 | .mp i=>zg st σ[i]?
 | _=>none
def o8(ok:Bool)(z:V)(r:Option V):V:=
 match ok,r with
 | true,some v=>.tup [v,ak true]
 | true,none=>.tup [z,ak false]
 | false,some v=>v
 | false,none=>z
def vR(st ok:Bool)(z:V)(σ:LLV)(x k:V):Option V:=
 match jo st σ x,nU st k with
 | some kv,some key=>some (o8 ok z (kK key kv))
 | _,_=>none
def N1(σ:LLV)(x:V):Option V:=
 match x with
 | .mp i=>match σ[i]? with
  | some [.mapc _ kv]=>if kv.length≤1000000000 then some (aC .i64 kv.length)else none
  | _=>none
 | _=>none
def um(σ:LLV)(st:Bool)(kv:List (Key×V))(x:V):LLV:=
 match x with
 | .mp i=>σ.set i [.mapc st kv]
 | _=>σ
def asB(x:V):Option (Nat×Nat×Nat):=
 match x with
 | .bsl i off n 1=>some (i,off,n)
 | .bsc i n _=>some (i,0,n)
 | _=>none
def IC(x:V):Bool:=match x with | .d (.sl [])=>true|_=>false
def kR:List V->Option (List V)
 | []=>some []
 | x::r=>match x.boxable1,kR r with
  | true,some l=>some (x.copy::l)
  | _,_=>none
def I8(σ:LLV)(x:V):Option (List V):=
 match x with
 | .bsl i off n 1=>(lq σ n (.ptr i off)).map fun cs=>cs.map V.copy
 | .bsc i n _=>(lq σ n (.ptr i 0)).map fun cs=>cs.map V.copy
 | .d (.sl rows)=>if rows.all (fun r=>r.length==1)=true then some (rows.flatten.map V.d)else none
 | _=>none
def nB(x:V):Option (List V):=
 match x with
 | .d (.sl [r])=>some (r.map V.d)
 | _=>none
def cC(z:List V)(n:Nat):List V:=(PI (n*z.length)).map fun j=>(z[j%z.length]?).getD .junk
def pv(C:Cx)(op:OP)(ρ:ac)(σ:LLV):Option V:=
 match op with
 | .mv x=>some (ev C ρ x).copy
 | .pick c a b=>iJ (ev C ρ c) (ev C ρ a) (ev C ρ b)
 | .bin op x y=>co op (ev C ρ x) (ev C ρ y)
 | .eqa neq T ks x y=>if C.eqs T=true then iY neq ks (ev C ρ x) (ev C ρ y)else none
 | .nif neq x=>sa neq (ev C ρ x)
 | .un op x=>unV op (ev C ρ x)
 | .conv k x=>rq k (ev C ρ x)
 | .nilck x=>gi (ev C ρ x)
 | .fa off x=>faV off (ev C ρ x)
 | .ia k x i=>iaV k (ev C ρ x) (ev C ρ i)
 | .ix x i=>ixV (ev C ρ x) (ev C ρ i)
 | .fld off k ag x=>vF off k ag (ev C ρ x)
 | .len str x=>lj str (ev C ρ x)
 | .ext x i=>pc (ev C ρ x) i
 | .load k ag x=>fI σ k ag (ev C ρ x)
 | .bld zs ps=>(kH (ev C ρ) zs ps).map .agg
 | .sub str k x lo hi=>qw str k (ev C ρ x) (lo.map (ev C ρ)) (hi.map (ev C ρ))
 | .mkfn f cap=>some (.fn f (cap.map (ev C ρ)))
 | .mkbd f first=>some (.bnd f (first.map (ev C ρ)))
 | .mki t x=>vz t (ev C ρ x)
 | .mx gt x y=>mxV gt (ev C ρ x) (ev C ρ y)
 | .tas T z x=>Bu T z (ev C ρ x)
 | .mlk st ok z x k=>vR st ok z σ (ev C ρ x) (ev C ρ k)
 | _=>none
def nr:List X->List Operand->Bool
 | [],[]=>true
 | x::xs,o::os=>okX x o&&nr xs os
 | _,_=>false
def FV:Option X->Option Operand->Bool
 | none,none=>true
 | some x,some o=>okX x o
 | _,_=>false
def n9(place:Nat->Option (Nat×Nat)):List (Nat×Nat×X)->List (Nat×Operand)->Bool
 | [],[]=>true
 | (off,k,x)::r,(i,o)::s=>(match place i with|some (off',k')=>off==off'&&k==k'|none=>false)&&okX x o&&n9 place r s
 | _,_=>false
def Tab.isInt(tab:Tab)(t:TypeId)(k:IntKind):Bool:=match tab t with|some ⟨.int k',_,_,_⟩=>k==k'|_=>false
def Tab.isBool(tab:Tab)(t:TypeId):Bool:=match tab t with|some ⟨.bool,_,_,_⟩=>true|_=>false
def Tab.isString(tab:Tab)(t:TypeId):Bool:=match tab t with|some ⟨.string,_,_,_⟩=>true|_=>false
def Tab.sliceOf(tab:Tab)(t:TypeId):Option TypeId:=match tab t with|some ⟨.slice e,_,_,_⟩=>some e|_=>none
def Tab.mapOf(tab:Tab)(t:TypeId):Option (TypeId×TypeId):=match tab t with|some ⟨.map k e,_,_,_⟩=>some (k,e)|_=>none
def Tab.mapK(tab:Tab)(t:TypeId)(st:Bool):Bool:=match tab.mapOf t with|some (k,_)=>(if st then tab.isString k else tab.isInt k .i64)|none=>false
def Tab.sz(tab:Tab)(t:TypeId):Option Nat:=(tab t).map (·.sz)
def Tab.place(tab:Tab)(t:TypeId)(i:Nat):Option (Nat×Nat):=
 match tab t with
 | some ⟨.struct fs,_,_,_⟩=>match fs[i]? with|some f=>(tab.sz f.type).map fun k=>(f.offset,k)|none=>none
 | some ⟨.array _ e,_,_,_⟩=>(tab.sz e).map fun k=>(i*k,k)
 | _=>none
def Cg(tab:Tab)(zs:List V)(ps:List (Nat×Nat×X))(t:TypeId)(qs:List (Nat×Operand)):Bool:=
 match tab t with
 | some i=>ux zs i.z.cells.toList&&n9 (tab.place t) ps qs&&(match i.d with | .struct fs=>fs.toList.all (fun f=>(tab f.type).isSome) | .array _ e=>(tab e).isSome|_=>false)
 | none=>false
def Hz(tab:Tab)(kd:Kd)(t:TypeId):Bool:=match kd with
 | .i k=>tab.isInt t k
 | .s=>tab.isString t
 | .b=>tab.isBool t
def mw(tab:Tab):List Kd->List Field->Nat->Bool
 | [],[],_=>true
 | kd::ks,f::r,i=>f.offset==i&&(f.name != "_" && (Hz tab kd f.type&&mw tab ks r (i+1)))
 | _,_,_=>false
def wC(tab:Tab)(op:OP)(o:Op)(T:TypeId):Bool:=
 match op,o with
 | .mv x,.move y=>okX x y
 | .mv x,.assign y=>okX x y
 | .pick c a b,.pick c' a' b'=>okX c c'&&okX a a'&&okX b b'
 | .bin op x y,.binOp op' t x' y' _=>op==op'&&okX x x'&&okX y y'
 | .eqa neq T ks x y,.binOp op' t x' y' _=>op'==(if neq then .neq else .eql)&&(T==t&&(okX x x'&&(okX y y'&&(match tab t with|some ⟨.struct fs,_,_,_⟩=>mw tab ks fs.toList 0|some ⟨.array 2 e,_,_,_⟩=>(match ks with | [.i k,.i k']=>k==k'&&(tab.isInt e k&&tab.sz e==some 1)|_=>false)|_=>false))))
 | .nif neq x,.binOp op' t x' (.const .nilIface) _=>op'==(if neq then .neq else .eql)&&(okX x x'&&(match tab t with|some ⟨.interface _,_,_,_⟩=>true|_=>false))
 | .un op x,.unOp op' _ x'=>op==op'&&okX x x'
 | .conv k x,.convert s d y=>okX x y&&tab.isInt d k&&(match tab s with|some ⟨.int _,_,_,_⟩=>true|_=>false)
 | .nilck x,.nilCheck y=>okX x y
 | .fa off x,.fieldAddr t y i=>okX x y&&(match tab t with|some ⟨.struct fs,_,_,_⟩=>(match fs[i]? with|some f=>f.offset==off&&(match tab.sz f.type with|some k=>decide (0<k)|none=>false)|none=>false)|_=>false)
 | .ia k x i,.indexAddr t y j=>okX x y&&okX i j&&(match tab.sliceOf t with|some e=>tab.sz e==some k|none=>false)
 | .ix x i,.index t y j=>okX x y&&okX i j&&tab.isString t
 | .fld off k ag x,.field t y i=>okX x y&&(match tab t with|some ⟨.struct fs,_,_,_⟩=>(match fs[i]? with|some f=>f.offset==off&&(match tab f.type with|some i=>i.sz==k&&i.agg==ag|none=>false)|none=>false)|_=>false)
 | .len str x,.call {callee:=.builtin .len,args,argTypes}=>(match args.toList,argTypes.toList with | [y],[t]=>okX x y&&(if str then tab.isString t else(tab.sliceOf t).isSome)|_,_=>false)
 | .ext x i,.extract y j=>okX x y&&i==j
 | .load k ag x,.load t y=>okX x y&&(match tab t with|some i=>i.sz==k&&i.agg==ag|none=>false)
 | .bld zs ps,.build t qs=>Cg tab zs ps t qs.toList
 | .sub str k x lo hi,.slice t y lo' hi' none=>okX x y&&FV lo lo'&&FV hi hi'&&(if str then tab.isString t else(match tab.sliceOf t with|some e=>tab.sz e==some k|none=>false))
 | .mki t x,.makeInterface t' y=>t==t'&&okX x y&&(match tab t with|some ⟨.interface _,_,_,_⟩=>false|some _=>true|none=>false)
 | .tas T z x,.typeAssert y _ t true=>T==t&&okX x y&&(match tab t with|some ⟨.interface _,_,_,_⟩=>false|some i=>okV z i.z|none=>false)
 | .mkfn f cap,.makeFunc (.func g) first cap'=>f==g&&first.isEmpty&&nr cap cap'.toList
 | .mkbd f first,.makeFunc (.func g) first' cap=>f==g&&cap.isEmpty&&nr first first'.toList
 | .mlk st ok z x k,.lookup t x' k' ok'=>ok==ok'&&(okX x x'&&(okX k k'&&(tab.mapK t st&&(!z.isOwn&&(match tab.mapOf t with|some (_,e)=>(match tab e with|some i=>okV z i.z|none=>false)|none=>false)))))
 | .mx gt x y,.call {callee:=.builtin b,args,argTypes:=_}=>(match b,args.toList with | .max,[x',y']=>gt&&okX x x'&&okX y y' | .min,[x',y']=>!gt&&okX x x'&&okX y y'|_,_=>false)
 | _,_=>false
section
variable {C : Cx} {M : ao} {bm : List Nat} {tk : be} {pr : Prot} {ρ : ac} {σ : LLV} {n : Nat} {a : Act} {w : World}
theorem ck.of_pure{P:Program}{x:V}{v:Value}(h:Rep M bm x v)(ho:∀T k rows,x≠.own T k rows):ck P M bm w x (Pure.pure v):=⟨v,rfl,h,ho⟩
theorem jb{x:V}{rows:LLD}(hr:eC x=some rows){v:Value}(hx:Rep M bm x v):DRep M (.sl rows) v:=by
 unfold eC at hr;split at hr
 .cases hr;cases hx with|d h=>exact h
 .cases hr;cases hx with|own h=>exact h
 .cases hr;cases hx with|nil=>exact DRep.nil M
 .cases hr
theorem CX{off:Nat}{x y:V}(hy:faV off x=some y){v:Value}(hx:Rep M bm x v):∃ad:Addr,v=.pointer (some ad)/\Rep M bm y (.pointer (some (ad.add off)))/\∀T k rows,y≠.own T k rows:=by
 unfold faV at hy;split at hy
 .cases hy;cases hx with
  | ptr h=>exact⟨_,rfl,by rw[cq];exact .ptr h,by simp⟩
 .cases hy;cases hx with
  | row val hf hd=>exact⟨_,rfl,by rw[cq,P9];exact .row val hf hd,by simp⟩
 .cases hy
theorem int_sound{k:IntKind}{m:Int}{v:Value}(hx:Rep M bm (.d (.lit (.int k m))) v):v=.int k m/\c7 (.int k m):=by
 cases hx with|d h=>cases h with|lit _ h=>exact⟨rfl,h⟩
theorem BA{t e:TypeId}{k:Nat}{i:TI}(ht:C.tab t=some i)(hd:i.d=.slice e)(hk:C.tab.sz e=some k){x ix y:V}(hy:iaV k x ix=some y){v vi:Value}(hx:Rep M bm x v)(hi:Rep M bm ix vi):
 ck C.P M bm w y (Instr.indexAt t v vi):=by
 obtain⟨hu,-⟩:=C.ok t i ht;rw[hd]at hu;obtain⟨ie,hte,rfl⟩:=Option.map_eq_some_iff.1 hk;obtain⟨-,inf,hinf,hs,-⟩:=C.ok e ie hte;unfold iaV at hy;split at hy
 .rename_i b0 off n k';split at hy
  .rename_i kk m;obtain⟨rfl,hf⟩:=int_sound hi;split at hy
   .rename_i h0;cases hy;cases hx with
    | @bsl _ _ _ _ b cap hb hc hm=>
    refine⟨.pointer (some ⟨b,off+m.toNat*ie.sz,none⟩),?_,.ptr hb,by simp⟩;have hc2:0≤m/\m<(n:Int):=h0.1;simp[Instr.indexAt,run_underlying hu,asIntOf,hc2,sizeOf,typeInfo,hinf,hs,cq]
   .cases hy
  .cases hy
 .rename_i b0 n c0;split at hy
  .rename_i kk m;obtain⟨rfl,hf⟩:=int_sound hi;split at hy
   .rename_i h0;cases hy;cases hx with
    | @bsc _ _ _ b hb hc hm=>
    refine⟨.pointer (some ⟨b,0+m.toNat*ie.sz,none⟩),?_,.ptr hb,by simp⟩;have hc2:0≤m/\m<(n:Int):=h0;simp[Instr.indexAt,run_underlying hu,asIntOf,hc2,sizeOf,typeInfo,hinf,hs,cq]
   .cases hy
  .cases hy
 split at hy
 .rename_i rows kk m hr;have hrep:=jb hr hx;obtain⟨rfl,hf⟩:=int_sound hi;split at hy
  .rename_i h0;split at hy
   .rename_i r hrow;split at hy
    .rename_i hkr;cases hy;have hlt:=(List.getElem?_eq_some_iff.1 hrow).1;have hre:=(List.getElem?_eq_some_iff.1 hrow).2;cases hrep with
     | sl _ k' p cap val hk' hd' hf' hc hm=>
     obtain⟨b,off,rfl,hfa⟩:=hf' m.toNat hlt;have hkk:k'=ie.sz:=by rw[<-hk' r (hre▸Pr hlt),hkr]
     refine⟨.pointer (some ⟨b,off+m.toNat*ie.sz+0,none⟩),?_,.row (fun j=>val m.toNat j) (fun j hj=>?_) (fun j hj=>?_),by simp⟩
     .have hc2:0≤m/\m<(rows.length:Int):=⟨h0,by omega⟩
      simp[Instr.indexAt,run_underlying hu,asIntOf,hc2,sizeOf,typeInfo,hinf,hs,cq]
     .rw[<-hkk];exact hfa j (by omega)
     .have:=hd' m.toNat j hlt (by rw[hre];exact hj);simp only[hre]at this;exact this
    .cases hy
   .cases hy
  .cases hy
 .cases hy
theorem Cw{t:TypeId}(ht:C.tab.isString t=true){x ix y:V}(hy:ixV x ix=some y){v vi:Value}(hx:Rep M bm x v)(hi:Rep M bm ix vi):ck C.P M bm w y (Instr.index t v vi):=by
 have hu:C.P.underlying t=some .string:=by
  unfold Tab.isString at ht;split at ht
  .rename_i h;exact(C.ok t _ h).1
  .cases ht
 unfold ixV at hy;split at hy
 .rename_i s k m;obtain⟨rfl,-⟩:=hx.str_inv;obtain⟨rfl,-⟩:=int_sound hi;split at hy
  .rename_i h0;split at hy
   .rename_i b hb;cases hy
    have hb2:s[m.toNat]? = some b:=by
     have h1:=(List.getElem?_eq_some_iff.1 hb)
     have h2:m.toNat<s.size:=by have:=h1.1;simpa using this
     rw[getElem?_pos s m.toNat h2];congr 1;rw[<-h1.2,Pe];rfl
    refine⟨_,by simp[Instr.index,asIntOf,run_underlying hu,h0,hb2];done,dH ?_,by simp⟩;have:=b.toNat_lt;simp only[c7,IntKind.min,IntKind.max,IntKind.signed,IntKind.bits];simp;omega
   .cases hy
  .cases hy
 .cases hy
theorem wL{ag:Bool}{cs:List V}{y:V}(hp:ii ag cs=some y){vs:List Value}(hl:vs.length=cs.length)(hr:∀j (h:j<cs.length) (h':j<vs.length),Rep M bm cs[j] vs[j]/\vs[j].oneCell'=true):
 Rep M bm y (if ag then .agg vs.toArray else vs.headD undef)/\∀T k rows,y≠.own T k rows:=by
 unfold ii at hp;split at hp
 .cases hp;refine⟨?_,by simp⟩;simp only[if_true];refine .agg (by simp;omega) (fun j h1 h2=>?_) (fun u hu=>?_)
  .simp only[Px];exact(hr j (by simpa using h1) h2).1.copy
  .obtain⟨j,hj,rfl⟩:=Py hu;exact(hr j (by omega) hj).2
 .cases hp
  match vs,hl with
  | [v],_=>exact⟨by have:=hr 0 (by simp) (by simp);simpa using this.1.copy,fun _ _ _=>V.copy_own⟩
 .cases hp
theorem AW{t:TypeId}{fs:Array Field}{i it:TI}{f:Field}{j:Nat}(ht:C.tab t=some i)(hd:i.d=.struct fs)(hf:fs[j]? = some f)(hft:C.tab f.type=some it){x y:V}(hy:vF f.offset it.sz it.agg x=some y){v:Value}(hx:Rep M bm x v):
 ck C.P M bm w y (Instr.field t v j):=by
 obtain⟨hu,-⟩:=C.ok t i ht;rw[hd]at hu;obtain⟨hu2,inf,hinf,hs,-⟩:=C.ok f.type it hft;unfold vF at hy;split at hy
 .rename_i cs;split at hy
  .rename_i hle;cases hx with
   | @agg _ vs hl h h1=>
   have hisagg:(isAgg f.type).run C.P w=.ok it.agg w:=by
    unfold isAgg;simp only[Sem.run_bind,run_underlying hu2,Result.andThen_ok];unfold TI.agg;cases it.d<;>rfl
   have hsize:(sizeOf f.type).run C.P w=.ok it.sz w:=by simp[sizeOf,typeInfo,hinf,hs]
   obtain⟨hp,ho⟩:=wL (vs:=(vs.drop f.offset).take it.sz) hy (by simp;omega) (fun j h2 h3=>by
    simp only[PA,PB];exact⟨h _ (by simp at h2;omega) (by simp at h3;omega),h1 _ (Pr _)⟩)
   refine⟨_,?_,hp,ho⟩;cases hag:it.agg with
   | true=>
    rw[hag]at hisagg;simp[Instr.field,run_underlying hu,hf,asAgg,part,hisagg,hsize]
   | false=>
    rw[hag]at hisagg hy
    have h1:it.sz=1:=by
     have hlen:((cs.drop f.offset).take it.sz).length=it.sz:=by simp;omega
     generalize (cs.drop f.offset).take it.sz=L at hy hlen
     match L,hy with
     | [c],_=>simpa using hlen.symm
    have hlt:f.offset<vs.length:=by omega
    have hh:((vs.drop f.offset).take it.sz).headD undef=vs[f.offset]:=by
     rw[h1];simp[List.headD_eq_head?_getD,List.head?_take,List.head?_drop,hlt]
    simp only[Pm,if_false];rw[hh];simp[Instr.field,run_underlying hu,hf,asAgg,part,hisagg,hlt]
  .cases hy
 .cases hy
theorem Tab.string_sound{t:TypeId}(ht:C.tab.isString t=true):C.P.underlying t=some .string:=by
 unfold Tab.isString at ht;split at ht
 .rename_i h;exact(C.ok t _ h).1
 .cases ht
theorem Tab.slice_sound{t e:TypeId}(ht:C.tab.sliceOf t=some e):C.P.underlying t=some (.slice e):=by
 unfold Tab.sliceOf at ht;split at ht
 .rename_i h;cases ht;exact(C.ok t _ h).1
 .cases ht
theorem y3{t:TypeId}{str:Bool}(ht:(if str then C.tab.isString t else(C.tab.sliceOf t).isSome)=true){x y:V}(hy:lj str x=some y){v:Value}(hx:Rep M bm x v)(ty:TypeId):ck C.P M bm w y (Builtin.len_ #[t] ty #[v]):=by
 unfold lj at hy;cases str with
 | true=>
  simp only[if_true]at ht;simp only at hy;split at hy
  .rename_i s;obtain⟨rfl,hs⟩:=hx.str_inv;cases hy;exact⟨_,by simp[Builtin.len_,run_underlying (Tab.string_sound ht),goInt];done,dH (by unfold maxLen at hs;simp only[c7,IntKind.min,IntKind.max,IntKind.signed,IntKind.bits];simp;omega),by simp⟩
  .cases hy
 | false=>
  simp only[Pm,if_false]at ht;simp only at hy;split at hy
  .rename_i b0 off n k';cases hy;obtain⟨e,he⟩:=Option.isSome_iff_exists.1 ht;cases hx with
   | bsl hb hc hm=>
   exact⟨_,by simp[Builtin.len_,run_underlying (Tab.slice_sound he),goInt];done,dH (by unfold maxLen at hm;simp only[c7,IntKind.min,IntKind.max,IntKind.signed,IntKind.bits];simp;omega),by simp⟩
  .cases hy;obtain⟨e,he⟩:=Option.isSome_iff_exists.1 ht;cases hx with
   | bsc hb hc hm=>
   exact⟨_,by simp[Builtin.len_,run_underlying (Tab.slice_sound he),goInt];done,dH (by unfold maxLen at hm;simp only[c7,IntKind.min,IntKind.max,IntKind.signed,IntKind.bits];simp;omega),by simp⟩
  split at hy
  .rename_i rows hr;cases hy;obtain⟨p,cap,rfl,hc,hm⟩:=cZ (jb hr hx);obtain⟨e,he⟩:=Option.isSome_iff_exists.1 ht;exact⟨_,by simp[Builtin.len_,run_underlying (Tab.slice_sound he),goInt];done,dH (by unfold maxLen at hm;simp only[c7,IntKind.min,IntKind.max,IntKind.signed,IntKind.bits];simp;omega),by simp⟩
  .cases hy
theorem dC{hi:Option V}{d l y:Nat}(hb:fy hi d=some l){vh:Option Value}(hr:∀x,hi=some x->∃v,vh=some v/\Rep M bm x v)(hn:hi=none->vh=none)(hl:l≤y)(code:BoundsCode):
 (match vh with|some v=>(Instr.sliceBound v y code:Sem Nat)|none=>pure d).run C.P w=.ok l w:=by
 unfold fy at hb;split at hb
 .rw[hn rfl];cases hb;rfl
 .rename_i k m;obtain⟨v,rfl,hv⟩:=hr _ rfl;obtain⟨rfl,-⟩:=int_sound hv;split at hb
  .rename_i h0;cases hb;have:0≤m/\m≤(y:Int):=⟨h0,by omega⟩
   simp[Instr.sliceBound,asIntOf,this]
  .cases hb
 .cases hb
theorem DRep.sub{rows:LLD}{p:Option Addr}{cap l h:Nat}(hr:DRep M (.sl rows) (.slice p rows.length cap)){k:Nat}(hk:∀r∈rows,r.length=k)(hl:l≤h)(hh:h≤rows.length):
 DRep M (.sl ((rows.take h).drop l)) (.slice (if cap=l then p else p.map (·.add (l*k))) (h-l) (cap-l)):=by
 cases hr with
 | sl _ k' _ _ val hk' hd hf hc hm=>
 have hlen:((rows.take h).drop l).length=h-l:=by simp;omega
 rw[<-hlen];refine .sl _ k _ _ (fun i j=>val (l+i) j) (fun r hr=>hk r (List.mem_of_mem_take (List.mem_of_mem_drop hr))) (fun i j hi hj=>?_) (fun i hi=>?_) (by omega) (by omega)
 .simp only[PB,PA]at hj ⊢;exact hd (l+i) j _ hj
 .have hli:l+i<rows.length:=by omega
  obtain⟨b,off,rfl,hfa⟩:=hf (l+i) hli;have hkk:k'=k:=by rw[<-hk' _ (Pr hli),hk _ (Pr hli)]
  subst hkk;rw[if_neg (by omega)];refine⟨b,off+l*k',by simp[cq],fun j hj=>?_⟩;have:=hfa j hj;rw[P7,<-P9]at this;exact this
theorem yx{t:TypeId}{str:Bool}{k:Nat}(ht:(if str then C.tab.isString t else(match C.tab.sliceOf t with|some e=>C.tab.sz e==some k|none=>false))=true){x y:V}{lo hi:Option V}(hy:qw str k x lo hi=some y){v:Value}{vl vh:Option Value}(hx:Rep M bm x v)
 (hlo:∀x,lo=some x->∃v,vl=some v/\Rep M bm x v)(hlo0:lo=none->vl=none)(hhi:∀x,hi=some x->∃v,vh=some v/\Rep M bm x v)(hhi0:hi=none->vh=none):ck C.P M bm w y (Instr.sliceAt t v vl vh none):=by
 unfold qw at hy;cases str with
 | true=>
  simp only[if_true]at ht;simp only at hy;have hu:=Tab.string_sound ht;split at hy
  .rename_i s;obtain⟨rfl,hs⟩:=hx.str_inv;split at hy
   .rename_i l h hl hh;split at hy
    .rename_i hle;cases hy;have b1:=dC (C:=C) (M:=M) (bm:=bm) (w:=w) (y:=h) hl hlo hlo0 hle.1 (.sliceB);have b2:=dC (C:=C) (M:=M) (bm:=bm) (w:=w) (y:=s.size) hh hhi hhi0 hle.2 (.sliceAlen);refine⟨.string (s.extract l h),?_,xE ?_,by simp⟩
     .have b3:(Instr.sliceBounds false s.size s.size vl vh none).run C.P w=.ok (l,h,s.size) w:=by
       unfold Instr.sliceBounds;cases vh<;>cases vl<;>simp_all
      simp[Instr.sliceAt,Instr.slice,run_underlying hu,b3]
     .have:(s.extract l h).size≤s.size:=by simp[ByteArray.size_extract];omega
      omega
    .cases hy
   .cases hy
  .cases hy
 | false=>
  simp only[Pm,if_false]at ht;simp only at hy;split at ht
  .rename_i e he;have hke:C.tab.sz e=some k:=by simpa using ht
   have hu:=Tab.slice_sound he;obtain⟨ie,hte,rfl⟩:=Option.map_eq_some_iff.1 hke;obtain⟨-,inf,hinf,hs,-⟩:=C.ok e ie hte;split at hy
   .rename_i b0 off n k';split at hy
    .rename_i l h hl hh;split at hy
     .rename_i hle;obtain⟨⟨hle1,hle2⟩,rfl⟩:=hle;simp only[Option.some.injEq]at hy;cases hx with
      | @bsl _ _ _ _ b cap hb hc hm=>
      have b1:=dC (C:=C) (M:=M) (bm:=bm) (w:=w) (y:=h) hl hlo hlo0 hle1 (.sliceB);have b2:=dC (C:=C) (M:=M) (bm:=bm) (w:=w) (y:=cap) hh hhi hhi0 (by omega) (.sliceAcap)
      have b3:(Instr.sliceBounds true n cap vl vh none).run C.P w=.ok (l,h,cap) w:=by
       unfold Instr.sliceBounds;cases vh<;>cases vl<;>simp_all
      refine⟨.slice (if cap=l then some ⟨b,off,none⟩else some ⟨b,off+l*ie.sz,none⟩) (h-l) (cap-l),?_,?_,?_⟩
      .simp[Instr.sliceAt,Instr.slice,run_underlying hu,b3,sizeOf,typeInfo,hinf,hs,cq]
      .subst hy;by_cases e:l=h
       .rw[if_pos e];have:h-l=([]:LLD).length:=by simp;omega
        rw[this];exact .d (.sl [] 0 _ _ (fun _ _=>.nilIface) (by simp) (fun i j hi=>by simp at hi) (fun i hi=>by simp at hi) (Qa _) (by omega))
       .rw[if_neg e,if_neg (show ¬cap=l by omega)];exact .bsl hb (by omega) (by omega)
      .subst hy;intro T k rows;split<;>simp
     .cases hy
    .cases hy
   .rename_i b0 n c;split at hy
    .rename_i l h hl hh;split at hy
     .rename_i hle;obtain⟨⟨hle1,hle2⟩,hk1⟩:=hle;simp only[Option.some.injEq]at hy;cases hx with
      | @bsc _ _ _ b hb hc hm=>
      have b1:=dC (C:=C) (M:=M) (bm:=bm) (w:=w) (y:=h) hl hlo hlo0 hle1 (.sliceB);have b2:=dC (C:=C) (M:=M) (bm:=bm) (w:=w) (y:=c) hh hhi hhi0 (by omega) (.sliceAcap)
      have b3:(Instr.sliceBounds true n c vl vh none).run C.P w=.ok (l,h,c) w:=by
       unfold Instr.sliceBounds;cases vh<;>cases vl<;>simp_all
      refine⟨.slice (if c=l then some ⟨b,0,none⟩else some ⟨b,0+l*ie.sz,none⟩) (h-l) (c-l),?_,?_,?_⟩
      .simp[Instr.sliceAt,Instr.slice,run_underlying hu,b3,sizeOf,typeInfo,hinf,hs,cq]
      .subst hy;by_cases e0:l=0
       .subst e0;simp only[if_true,Qe,P4,ite_self,Nat.sub_zero];exact .bsc hb (by omega) hm
       .rw[if_neg e0];by_cases e:l=h
        .rw[if_pos e];have:h-l=([]:LLD).length:=by simp;omega
         rw[this];exact .d (.sl [] 0 _ _ (fun _ _=>.nilIface) (by simp) (fun i j hi=>by simp at hi) (fun i hi=>by simp at hi) (Qa _) (by omega))
        .rw[if_neg e,if_neg (show ¬c=l by omega)];exact .bsl hb (by omega) (by omega)
      .subst hy;intro T k rows;split
       .simp
       .split<;>simp
     .cases hy
    .cases hy
   split at hy
   .rename_i rows hr;have hrep:=jb hr hx;obtain⟨p,cap,rfl,hc,hm⟩:=cZ hrep;split at hy
    .rename_i l h hl hh;split at hy
     .rename_i hle;cases hy;have b1:=dC (C:=C) (M:=M) (bm:=bm) (w:=w) (y:=h) hl hlo hlo0 hle.1.1 (.sliceB);have b2:=dC (C:=C) (M:=M) (bm:=bm) (w:=w) (y:=cap) hh hhi hhi0 (by omega) (.sliceAcap);refine⟨_,?_,.d (hrep.sub (fun r hr=>by have:=List.all_eq_true.1 hle.2 r hr;simpa using this) hle.1.1 hle.1.2),by simp⟩
      have b3:(Instr.sliceBounds true rows.length cap vl vh none).run C.P w=.ok (l,h,cap) w:=by
       unfold Instr.sliceBounds;cases vh<;>cases vl<;>simp_all
      simp[Instr.sliceAt,Instr.slice,run_underlying hu,b3,sizeOf,typeInfo,hinf,hs]
     .cases hy
    .cases hy
   .cases hy
  .cases ht
end
end Go.Proofs.YtnhphlmblenapaaGreatDoor
namespace Go.Proofs.YtnhphlmblenapaaGreatDoor
open Go.RowKit
def kd(st:Bool):TypeDesc:=if st then .string else .int .i64
theorem Key.isKey{k:Key}{st:Bool}(h:k.isStr=st):MapKept.IsKey (kd st) k.v:=by
 cases k<;>cases st<;>first|(cases h;done)|trivial
theorem Key.v_inj{k k':Key}(h:k.v=k'.v):k=k':=by
 cases k<;>cases k'<;>cases h<;>rfl
theorem oT{M:ao}{bm:List Nat}{st:Bool}{x:V}{k:Key}(h:nU st x=some k){v:Value}(hx:Rep M bm x v):v=k.v/\k.isStr=st:=by
 unfold nU at h;split at h
 .cases h;exact⟨hx.int_inv.1,rfl⟩
 .cases h;exact⟨hx.str_inv.1,rfl⟩
 .cases h
section
variable {C : Cx} {M : ao} {bm : List Nat} {tk : be} {pr : Nat -> Prop} {σ : LLV} {w : World} {st : Bool}
theorem Tab.mapOf_sound{t k e:TypeId}(h:C.tab.mapOf t=some (k,e)):C.P.underlying t=some (.map k e):=by
 unfold Tab.mapOf at h;split at h
 .rename_i h2;cases h;exact(C.ok t _ h2).1
 .cases h
theorem Tab.mapK_sound{t:TypeId}(h:C.tab.mapK t st=true):∃k e,C.tab.mapOf t=some (k,e)/\C.P.underlying t=some (.map k e)/\C.P.underlying k=some (kd st):=by
 unfold Tab.mapK at h;split at h
 .rename_i k e he;refine⟨k,e,he,Tab.mapOf_sound he,?_⟩;cases st with
  | true=>exact Tab.string_sound (by simpa using h)
  | false=>
   have h1:C.tab.isInt k .i64=true:=by simpa using h
   unfold Tab.isInt at h1;split at h1
   .rename_i k' h2;have:=(C.ok k _ h2).1;simp only[beq_iff_eq]at h1;rw[this,<-h1];rfl
   .cases h1
 .cases h
theorem MR.length{kv:List (Key×V)}{es:List MapEntry}(h:MR M bm st kv es):es.length=kv.length:=by
 induction h with
 | nil=>rfl
 | cons _ _ _ _ _ ih=>simp[ih]
theorem MR.find{kv:List (Key×V)}{es:List MapEntry}(h:MR M bm st kv es){k:Key}(hk:k.isStr=st):∀i,(kK k kv=none/\Instr.findNow (kd st) k.v es i=some none/\∀e∈es,e.key≠k.v)\/
 ∃j x e,kK k kv=some x/\Instr.findNow (kd st) k.v es i=some (some (i+j,e.val))/\es[j]? = some e/\e.key=k.v/\Rep M bm x e.val/\x.isOwn=false:=by
 induction h with
 | nil=>exact fun i=>.inl ⟨rfl,rfl,by simp⟩
 | @cons k' x e kv es h1 h2 hx ho _ ih=>
  intro i;obtain⟨r,hr,hiff⟩:=MapKept.sameNow_of_keys (Key.isKey hk) (h1▸Key.isKey h2:MapKept.IsKey (kd st) e.key);by_cases e0:k'=k
  .subst e0;have:r=true:=hiff.2 h1.symm;subst this;exact .inr ⟨0,x,e,by simp[kK],by simp[Instr.findNow,hr],rfl,h1,hx,ho⟩
  .have hf:r=false:=by
    cases r with
    | false=>rfl
    | true=>exact absurd (Key.v_inj ((hiff.1 rfl).trans h1)).symm e0
   subst hf;rcases ih (i+1)with⟨g1,g2,g3⟩|⟨j,y,e',g1,g2,g3,g4,g5,g6⟩
   .refine .inl ⟨by simp[kK,e0,g1],by simp[Instr.findNow,hr,g2],fun e' he'=>?_⟩;rcases List.mem_cons.1 he' with rfl|he'
    .rw[h1];exact fun q=>e0 (Key.v_inj q)
    .exact g3 e' he'
   .exact .inr ⟨j+1,y,e',by simp[kK,e0,g1],by simp[Instr.findNow,hr,g2];omega,by simpa using g3,g4,g5,g6⟩
theorem MR.put{kv:List (Key×V)}{es:List MapEntry}(h:MR M bm st kv es){k:Key}(hk:k.isStr=st){x:V}{v:Value}(hx:Rep M bm x v)(ho:x.isOwn=false)(clock:Nat):
 (kK k kv=none->MR M bm st (nZ k x kv) (es++[{key:=k.v,val:=v,born:=clock}]))/\
 ∀j e,es[j]? = some e->e.key=k.v->(es.map (·.key)).Nodup->MR M bm st (nZ k x kv) (es.modify j fun e=>{e with key:=k.v,val:=v}):=by
 induction h with
 | nil=>exact⟨fun _=>.cons rfl hk hx ho .nil,fun j e h=>by simp at h⟩
 | @cons k' y e kv es h1 h2 hy hyo hr ih=>
  by_cases e0:k'=k
  .subst e0;refine⟨fun h=>by simp[kK]at h,fun j e' hj he hn=>?_⟩
   have hj0:j=0:=by
    cases j with
    | zero=>rfl
    | succ j=>
     exfalso;simp only[Pz,P0]at hn;exact hn.1 (List.mem_map.2 ⟨e',Ps (by simpa using hj),by rw[he,h1]⟩)
   subst hj0;simp only[nZ,if_true,List.modify_zero_cons];exact .cons rfl hk hx ho hr
  .refine⟨fun h=>?_,fun j e' hj he hn=>?_⟩
   .simp only[kK,if_neg e0]at h;simp only[nZ,if_neg e0,List.cons_append];exact .cons h1 h2 hy hyo (ih.1 h)
   .simp only[nZ,if_neg e0];cases j with
    | zero=>
     simp only[PL,Option.some.injEq]at hj;subst hj;exact absurd (Key.v_inj (h1.symm.trans he)) e0
    | succ j=>
     simp only[Pz,P0]at hn;simp only[List.modify_succ_cons];exact .cons h1 h2 hy hyo (ih.2 j e' (by simpa using hj) he hn.2)
theorem nP(h:Inv M bm σ tk pr w){x:V}{kv:List (Key×V)}(hm:jo st σ x=some kv){v:Value}(hx:Rep M bm x v):
 ∃i b es clock,x=.mp i/\v=.map (some b)/\bm[i]? = some b/\σ[i]? = some [.mapc st kv]/\w.heap[b]? = some (.map es clock)/\MapKept.Stamped es clock/\MR M bm st kv es.toList:=by
 unfold jo at hm;split at hm
 .rename_i i;unfold zg at hm;split at hm
  .rename_i st' kv' hs;split at hm
   .rename_i e;subst e;cases hm;cases hx with
    | @mp _ b hb=>
    rcases h.box i b _ hb hs with⟨vs,T,h1,h2,h3⟩|⟨st2,kv2,es,clock,h0,h1,h2,h3⟩|⟨T,k,h0,-⟩
    .have h4:=h3 0 (by simp) (by simp at h2;omega);have h5:=h4.1.rep;simp only[Pu]at h5;cases h5
    .simp only[List.cons.injEq,V.mapc.injEq,and_true]at h0;obtain⟨rfl,rfl⟩:=h0;exact⟨i,b,es,clock,rfl,rfl,hb,hs,h1,h2,h3⟩
    .simp[tyc]at h0
   .cases hm
  .cases hm
 .cases hm
theorem Ae(h:Inv M bm σ tk pr w){t:TypeId}{ok:Bool}{z x k y:V}(hk:C.tab.mapK t st=true)(hz:(match C.tab.mapOf t with|some (_,e)=>(match C.tab e with|some i=>okV z i.z|none=>false)|none=>false)=true)(hzo:z.isOwn=false)
 (hy:vR st ok z σ x k=some y){vx vk:Value}(hx:Rep M bm x vx)(hkr:Rep M bm k vk):ck C.P M bm w y (Instr.lookup t vx vk ok):=by
 obtain⟨kt,et,hm,hu,huk⟩:=Tab.mapK_sound hk;rw[hm]at hz;simp only at hz;split at hz
 .rename_i i hi;obtain⟨-,inf,hinf,-,-,hzz,-⟩:=C.ok et i hi;have hzero:(zeroValue et).run C.P w=.ok i.z w:=by simp[zeroValue,typeInfo,hinf,hzz]
  unfold vR at hy;split at hy
  .rename_i kv key hkv hkey;cases hy;obtain⟨j,b,es,clock,rfl,rfl,hb,hs,hh,hst,hmr⟩:=nP h hkv hx;obtain⟨rfl,hks⟩:=oT hkey hkr;have hck:(Instr.checkKey es.isEmpty 10000 kt key.v).run C.P w=.ok () w:=MapKept.run_checkKey huk (Key.isKey hks) _ _;have hobj:(getObj b).run C.P w=.ok (.map es clock) w:=MapKept.run_getObj_map hh;rcases hmr.find hks 0 with⟨g1,g2,-⟩|⟨p,y,e,g1,g2,g3,g4,g5,g6⟩
   .have hf:=MapKept.run_findKey (w:=w) huk g2;rw[g1];cases ok
    .exact⟨i.z,by simp[Instr.lookup,run_underlying hu,hobj,hck,hf,hzero],ky hz,V.isOwn_ne hzo⟩
    .refine⟨.tuple #[i.z,.bool false],by simp[Instr.lookup,run_underlying hu,hobj,hck,hf,hzero],?_,by simp[o8]⟩
     exact .tup (cs:=[z,ak false]) (vs:=[i.z,.bool false]) rfl (fun q h1 h2=>by
      match q,h1 with
      | 0,_=>exact ky hz
      | 1,_=>exact eM false)
   .have hf:=MapKept.run_findKey (w:=w) huk g2;rw[g1];cases ok
    .exact⟨e.val,by simp[Instr.lookup,run_underlying hu,hobj,hck,hf],g5,V.isOwn_ne g6⟩
    .refine⟨.tuple #[e.val,.bool true],by simp[Instr.lookup,run_underlying hu,hobj,hck,hf],?_,by simp[o8]⟩
     exact .tup (cs:=[y,ak true]) (vs:=[e.val,.bool true]) rfl (fun q h1 h2=>by
      match q,h1 with
      | 0,_=>exact g5
      | 1,_=>exact eM true)
  .cases hy
 .cases hz
theorem Inv.setMap(h:Inv M bm σ tk pr w){i b:Nat}(hi:bm[i]? = some b){kv kv':List (Key×V)}(hs:σ[i]? = some [.mapc st kv]){es es':Array MapEntry}{clock clock':Nat}(hh:w.heap[b]? = some (.map es clock))
 (h2:MapKept.Stamped es' clock')(h3:MR M bm st kv' es'.toList):
 Inv M bm (σ.set i [.mapc st kv']) tk pr {w with heap:=w.heap.setIfInBounds b (.map es' clock')}/\
  (∀{x:V} {v:Value} {t:Option Nat},(∀g,t=some g->g≠b)->CellOK M bm w x v t->CellOK M bm {w with heap:=w.heap.setIfInBounds b (.map es' clock')} x v t)/\
  Later M bm pr w M bm {w with heap:=w.heap.setIfInBounds b (.map es' clock')}:=by
 have hbm:b∈bm:=Ps hi;obtain⟨hnew,hother⟩:=MapKept.heap_set (o':=.map es' clock') hh;have hsz:({w with heap:=w.heap.setIfInBounds b (.map es' clock')}:World).heap.size=w.heap.size:=by simp
 have hcell:∀{x:V} {v:Value} {t:Option Nat},(∀g,t=some g->g≠b)->CellOK M bm w x v t->CellOK M bm {w with heap:=w.heap.setIfInBounds b (.map es' clock')} x v t:=
  fun ht hok=>⟨hok.rep,fun T k rows e=>(hok.own T k rows e).keep fun g hg=>⟨hother g (ht g hg),fun _=>rfl⟩⟩
 have htb:∀i j g,tk i j=some g->g≠b:=fun i j g hg e=>(h.tok i j g hg).2.1 (e▸hbm)
 refine⟨⟨fun b' o x hm=>?_,by simp[h.len],fun i' b' cs' hi' hc'=>?_,h.free,h.bmnd,fun i j g hg=>by rw[hsz];exact h.tok i j g hg,h.inj,fun b hb=>by rw[hsz];exact h.prlt b hb⟩,hcell,
  ⟨ao.le.refl _,⟨[],by simp⟩,fun b' hb'=>hother b' (fun e=>(h.free b hbm).2 (e▸hb')),fun _ _ _=>rfl,rfl,rfl,rfl,Qf hsz.symm⟩⟩
 .have hne:b'≠b:=fun e=>by subst e;rw[(h.free _ hbm).1 o]at hm;cases hm
  rw[World.cell?_of_block (w:=w) (hother b' hne)];exact h.facts b' o x hm
 .by_cases e:i'=i
  .subst e;rw[hi]at hi';cases hi';rw[PD (List.getElem?_eq_some_iff.1 hs).1]at hc';cases hc';exact .inr (.inl ⟨st,kv',es',clock',rfl,hnew,h2,h3⟩)
  .rw[PF (Ne.symm e)]at hc'
   have hne:b'≠b:=by
    intro eb;subst eb;have h1:=(List.getElem?_eq_some_iff.1 hi').1;exact e ((PU h1 h.bmnd).1 (hi'.trans hi.symm))
   rcases h.box i' b' cs' hi' hc' with⟨vs',T',k1,k2,k3⟩|k1;case inr=>exact .inr (k1.mono (ao.le.refl _) (fun _ _ h=>h) (hother b' hne))
   exact .inl ⟨vs',T',by rw[hother b' hne];exact k1,k2,fun j hj hj'=>⟨hcell (fun g hg=>htb _ _ g hg) (k3 j hj hj').1,(k3 j hj hj').2⟩⟩
theorem Inv.pushObj(h:Inv M bm σ tk pr w){ob:Obj}{cs:List V}(hbox:gF M (bm++[w.heap.size]) (w.alloc ob) w.heap.size cs):Inv M (bm++[w.heap.size]) (σ++[cs]) tk pr (w.alloc ob)/\Later M bm pr w M (bm++[w.heap.size]) (w.alloc ob):=by
 have hx:=cO.alloc w ob;obtain⟨h1,h2⟩:=h.ext hx;have hnb:w.heap.size∉bm:=fun hb=>by have:=h.bm_lt _ hb;omega
 have hpre:∀i b:Nat,bm[i]? = some b->(bm++[w.heap.size])[i]? = some b:=i6 ⟨_,rfl⟩;refine⟨⟨h1.facts,by simp[h.len],fun i b cs' hi hc'=>?_,fun b hb=>?_,?_,fun i j g hg=>?_,h.inj,h1.prlt⟩,⟨ao.le.refl _,⟨_,rfl⟩,h2.keep,h2.facts,h2.os,h2.tape,h2.output,h2.size⟩⟩
 .by_cases hlt:i<bm.length
  .rw[Pp hlt]at hi;rw[Pp (by rw[<-h.len];exact hlt)]at hc';rcases h1.box i b cs' hi hc' with⟨vs',T',g1,g2,g3⟩|g1;case inr=>exact .inr (g1.mono (ao.le.refl _) hpre rfl)
   exact .inl ⟨vs',T',g1,g2,fun j hj hj'=>⟨⟨(g3 j hj hj').1.rep.mono (ao.le.refl _) hpre,(g3 j hj hj').1.own⟩,(g3 j hj hj').2⟩⟩
  .rw[Pq (by omega)]at hi;rw[Pq (by rw[<-h.len];omega)]at hc'
   have hi0:i-bm.length=0:=by
    have:=(List.getElem?_eq_some_iff.1 hi).1;simp at this;omega
   rw[<-h.len]at hc';rw[hi0]at hi hc';simp at hi hc';subst hi;subst hc';exact .inr hbox
 .rcases List.mem_append.1 hb with hb|hb
  .exact h1.free b hb
  .simp at hb;subst hb;exact⟨fun o=>h.facts.fresh (P6 _) o,fun hp=>by have:=h.prlt _ hp;omega⟩
 .rw[PS];exact⟨h.bmnd,by simp,fun a ha b hb=>by simp at hb;subst hb;exact fun e=>hnb (e▸ha)⟩
 .obtain⟨t1,t2,t3⟩:=h.tok i j g hg;refine⟨P5 t1 hx.size,fun hb=>?_,t3⟩;rcases List.mem_append.1 hb with hb|hb
  .exact t2 hb
  .simp at hb;omega
theorem Inv.pushMap(h:Inv M bm σ tk pr w)(st:Bool):Inv M (bm++[w.heap.size]) (σ++[[.mapc st []]]) tk pr (w.alloc (.map #[] 0))/\Later M bm pr w M (bm++[w.heap.size]) (w.alloc (.map #[] 0)):=
 h.pushObj (.inl ⟨st,[],#[],0,rfl,heap_alloc_new w _,MapKept.stamped_empty 0,.nil⟩)
theorem Inv.pushTy(h:Inv M bm σ tk pr w)(T:TypeId){k:Int}(hk:c7 (.int .i64 k)):Inv M (bm++[w.heap.size]) (σ++[tyc T k]) tk pr (w.alloc (.cells #[.pointer none,.slice none 0 0,.int .i64 k] T))/\Later M bm pr w M (bm++[w.heap.size]) (w.alloc (.cells #[.pointer none,.slice none 0 0,.int .i64 k] T)):=
 h.pushObj (.inr ⟨T,k,rfl,hk,heap_alloc_new w _⟩)
end
section
variable {C : Cx} {M : ao} {bm : List Nat} {tk : be} {pr : Prot} {ρ : ac} {σ : LLV} {n : Nat} {a : Act} {w : World} {st : Bool} {K : ac -> LLV -> Prop}
theorem SRel.pushTy(h:SRel M bm tk pr ρ σ n a w)(T:TypeId){k:Int}(hk:c7 (.int .i64 k)){d:Nat}(hd:d<n):SRel M (bm++[w.heap.size]) tk pr (put ρ d (.ptr σ.length 0)) (σ++[tyc T k]) n (a.put (some d) (.pointer (some ⟨w.heap.size,0,none⟩))) (w.alloc (.cells #[.pointer none,.slice none 0 0,.int .i64 k] T))/\
 Later M bm pr w M (bm++[w.heap.size]) (w.alloc (.cells #[.pointer none,.slice none 0 0,.int .i64 k] T)):=by
 obtain⟨h1,h2⟩:=h.inv.pushTy T hk;have hx:=cO.alloc w (.cells #[.pointer none,.slice none 0 0,.int .i64 k] T)
 have h3:SRel M (bm++[w.heap.size]) tk pr ρ (σ++[tyc T k]) n a (w.alloc (.cells #[.pointer none,.slice none 0 0,.int .i64 k] T)):=
  ⟨h1,h.defers,h.size,fun t=>⟨h2.rep (h.slots t).rep,fun T k rows e=>((h.slots t).own T k rows e).keep fun g hg=>⟨hx.block g (h.inv.tok _ _ _ hg).1,fun _=>rfl⟩⟩⟩
 exact⟨h3.puts hd (.ptr (by rw[<-h.inv.len];simp)) (by simp),h2⟩
theorem SRel.pushMap(h:SRel M bm tk pr ρ σ n a w)(st:Bool){d:Nat}(hd:d<n):SRel M (bm++[w.heap.size]) tk pr (put ρ d (.mp σ.length)) (σ++[[.mapc st []]]) n (a.put (some d) (.map (some w.heap.size))) (w.alloc (.map #[] 0))/\
 Later M bm pr w M (bm++[w.heap.size]) (w.alloc (.map #[] 0)):=by
 obtain⟨h1,h2⟩:=h.inv.pushMap st;have hx:=cO.alloc w (.map #[] 0)
 have h3:SRel M (bm++[w.heap.size]) tk pr ρ (σ++[[.mapc st []]]) n a (w.alloc (.map #[] 0)):=
  ⟨h1,h.defers,h.size,fun t=>⟨h2.rep (h.slots t).rep,fun T k rows e=>((h.slots t).own T k rows e).keep fun g hg=>⟨hx.block g (h.inv.tok _ _ _ hg).1,fun _=>rfl⟩⟩⟩
 exact⟨h3.puts hd (.mp (by rw[<-h.inv.len];simp)) (by simp),h2⟩
theorem SRel.setMap(h:SRel M bm tk pr ρ σ n a w){i b:Nat}(hi:bm[i]? = some b){kv kv':List (Key×V)}(hs:σ[i]? = some [.mapc st kv]){es es':Array MapEntry}{clock clock':Nat}(hh:w.heap[b]? = some (.map es clock))
 (h2:MapKept.Stamped es' clock')(h3:MR M bm st kv' es'.toList):SRel M bm tk pr ρ (σ.set i [.mapc st kv']) n a {w with heap:=w.heap.setIfInBounds b (.map es' clock')}/\Later M bm pr w M bm {w with heap:=w.heap.setIfInBounds b (.map es' clock')}:=by
 obtain⟨g1,g2,g3⟩:=h.inv.setMap hi hs hh h2 h3;exact⟨⟨g1,h.defers,h.size,fun t=>g2 (fun g hg e=>(h.inv.tok _ _ _ hg).2.1 (e▸Ps hi)) (h.slots t)⟩,g3⟩
theorem V.copy_isOwn(x:V):x.copy.isOwn=false:=by cases x<;>rfl
theorem sA(k:Key):Instr.sameBits 10000 k.v k.v=true:=by
 cases k with
 | i n=>simp[Key.v,Instr.sameBits]
 | s b=>simp only[Key.v,Instr.sameBits];exact(MapKept.bytes_beq b b).2 rfl
theorem rx(h:SRel M bm tk pr ρ σ n a w){t:TypeId}{x k v:V}(hk:C.tab.mapK t st=true){kv:List (Key×V)}{key:Key}(hm:jo st σ x=some kv)(hkey:nU st k=some key){vx vk vv:Value}(hx:Rep M bm x vx)(hkr:Rep M bm k vk)(hv:Rep M bm v vv):
 ∃w',(Instr.mapUpdate t vx vk vv).run C.P w=.ok () w'/\SRel M bm tk pr ρ (um σ st (nZ key v.copy kv) x) n a w'/\Later M bm pr w M bm w':=by
 obtain⟨kt,et,-,hu,huk⟩:=Tab.mapK_sound hk;obtain⟨j,b,es,clock,rfl,rfl,hb,hs,hh,hst,hmr⟩:=nP h.inv hm hx;obtain⟨rfl,hks⟩:=oT hkey hkr;have hck:(Instr.checkKey false 10000 kt key.v).run C.P w=.ok () w:=MapKept.run_checkKey huk (Key.isKey hks) _ _;have hobj:(getObj b).run C.P w=.ok (.map es clock) w:=MapKept.run_getObj_map hh;rcases hmr.find hks 0 with⟨g1,g2,g3⟩|⟨p,y,e,g1,g2,g3,g4,g5,g6⟩
 .have hf:=MapKept.run_findKey (w:=w) huk g2;have hset:=MapKept.run_setObj_map (P:=C.P) (.map (es.push {key:=key.v,val:=vv,born:=clock}) (clock+1)) hh;obtain⟨q1,q2⟩:=h.setMap (kv':=nZ key v.copy kv) (es':=es.push {key:=key.v,val:=vv,born:=clock}) hb hs hh (MapKept.stamped_push hst (fun x hx=>g3 x hx)) (by rw[Array.toList_push];exact(hmr.put hks hv.copy (V.copy_isOwn v) clock).1 g1);exact⟨_,by simp[Instr.mapUpdate,run_underlying hu,hobj,hck,hf,hset],q1,q2⟩
 .have hf:=MapKept.run_findKey (w:=w) huk g2;rw[P4]at hf;have hpe:es[p]? = some e:=by rw[<-Pd];exact g3
  have hset:=MapKept.run_setObj_map (P:=C.P) (.map (es.modify p fun e=>{e with key:=key.v,val:=vv}) clock) hh
  obtain⟨q1,q2⟩:=h.setMap (kv':=nZ key v.copy kv) (es':=es.modify p fun e=>{e with key:=key.v,val:=vv}) hb hs hh (MapKept.stamped_modify hst p _ (fun _ _=>rfl) (fun e' he' hpe'=>by rw[hpe]at hpe';cases hpe';exact g4.symm))
   (by rw[Array.toList_modify];exact(hmr.put hks hv.copy (V.copy_isOwn v) clock).2 p e g3 g4 hst.2.2)
  refine⟨_,?_,q1,q2⟩
  have hstay:(Instr.keyThatStays (((es[p]?).map (·.key)).getD key.v) key.v).run C.P w=.ok key.v w:=by
   simp[Instr.keyThatStays,hpe,g4,sA]
  simp only[Instr.mapUpdate,Sem.run_bind,run_underlying hu,hobj,hck,hf,hstay,hset,Result.andThen_ok]
def iB(σ:LLV)(x:V)(src:List V)(bytes:Nat)(z:List V)(K:V->LLV->Prop):Prop:=match x with
 | .nil=>bytes≤140737488355328/\∀c,1≤c->K (.bsc σ.length 1 c) (σ++[src++cC z (c-1)])
 | .bsc i m c=>match σ[i]? with
  | some cs=>(cs.length=c*z.length/\bT cs=true/\(m+1)*bytes≤140737488355328)/\(m+1≤c->K (.bsc i (m+1) c) (σ.set i (over cs (m*z.length) src)))/\
   (c<m+1->∀c',m+1≤c'->K (.bsc σ.length (m+1) c') (σ++[(cs.take (m*z.length)).map V.copy++src++cC z (c'-(m+1))]))
  | none=>False
 | _=>False
theorem u6{σ:LLV}{x:V}{src:List V}{bytes:Nat}{z:List V}{K K':V->LLV->Prop}(hk:∀v σ',K v σ'->K' v σ')(h:iB σ x src bytes z K):iB σ x src bytes z K':=by
 unfold iB at h ⊢;cases x<;>simp only at h ⊢
 .exact⟨h.1,fun c hc=>hk _ _ (h.2 c hc)⟩
 .rename_i i m c;generalize σ[i]? = q at h ⊢;cases q<;>simp only at h ⊢
  exact⟨h.1,fun hc=>hk _ _ (h.2.1 hc),fun hc c' hc'=>hk _ _ (h.2.2 hc c' hc')⟩
theorem wQ(hf:M.hold w){y:V}{src:List V}(hy:nB y=some src){v:Value}(hr:Rep M bm y v):
 ∃(ad:Addr) (cap:Nat) (vs:List Value),v=.slice (some ad) 1 cap/\vs.length=src.length/\(∀j u,vs[j]? = some u->w.cell? (ad.add j)=some u)/\∀j (h:j<src.length) (h':j<vs.length),Rep M bm src[j] vs[j]/\vs[j].oneCell'=true/\∀T k rows,src[j]≠.own T k rows:=by
 unfold nB at hy;split at hy
 .rename_i r;cases hy;cases hr with
  | d hr=>
  obtain⟨p,cap,e,h1,h2⟩:=cZ hr;subst e;obtain⟨b2,off2,news,rfl,-,hnl,hnews,hnd⟩:=kC hf hr (k:=r.length) (fun r' hr'=>by simp at hr';rw[hr']) (by simp);simp only[List.length_singleton,Qc]at hnl;refine⟨_,_,news,rfl,by simp[hnl],fun j u hu=>(hnews j u hu).2.1,fun j g1 g2=>?_⟩;have g3:j<r.length:=by simpa using g1
  have g4:=hnd 0 j (by simp) (by simpa using g3) (by omega);simp only[Qe,P4,Pu]at g4;simp only[Px];exact⟨.d g4,g4.one,by simp⟩
 .cases hy
theorem gW(z:List V)(n:Nat):(cC z n).length=n*z.length:=by simp[cC]
theorem o0{z:List V}{n j:Nat}(h:j<(cC z n).length):∃h':j%z.length<z.length,(cC z n)[j]=z[j%z.length]:=by
 have h0:0<z.length:=by
  rw[gW]at h;exact Nat.pos_of_ne_zero fun e=>by rw[e]at h;omega
 have h':=Qg j h0;exact⟨h',by simp[cC,Po h']⟩
theorem vN(h:SRel M bm tk pr ρ σ n a w){d:Nat}(hd:d<n){T bytes t ty:Nat}{it:TI}(ht:C.tab.sliceOf t=some T)(hi:C.tab T=some it){z:List V}(hi1:it.sz=z.length)(hby:it.bytes=bytes)(hz:ux z it.z.cells.toList=true)(hzo:z.all (fun x=>!x.isOwn)=true)
 {y:V}{src:List V}(hy:nB y=some src){vy:Value}(hry:Rep M bm y vy)(h0:0<src.length/\src.length=z.length){x:V}{vx:Value}(hx:Rep M bm x vx)
 (hr:iB σ x src bytes z fun v σ'=>K (put ρ d v) σ')(hb0:0<bytes):
 ∃v' w' M' bm' tk' ρ' σ',(Builtin.append_ #[t,t] ty #[vx,vy]).run C.P w=.ok v' w'/\K ρ' σ'/\SRel M' bm' tk' pr ρ' σ' n (a.put (some d) v') w'/\Later M bm pr w M' bm' w':=by
 have hu:=Tab.slice_sound ht;obtain⟨-,inf,hinf,hsz,hbyt,hzz,-⟩:=C.ok T it hi;obtain⟨hsrc0,hsl⟩:=h0;have hs1:inf.size=z.length:=by rw[hsz,hi1]
 have hbb:inf.bytes=bytes:=by rw[hbyt,hby]
 obtain⟨z1,z2⟩:=gZ (M:=M) (bm:=bm) hz;have hzl:it.z.cells.size=z.length:=by simpa using z1
 have hzo':∀(j:Nat) (hj:j<z.length),z[j].isOwn=false:=fun j hj=>by
  have:=List.all_eq_true.1 hzo z[j] (Pr hj);simpa using this
 have hzn:∀q,(Builtin.zeroCells it.z.cells q).size=q*z.length:=fun q=>by simp[Builtin.zeroCells,hzl]
 have hzc:∀q j (h:j<(Builtin.zeroCells it.z.cells q).size) (h':j%z.length<it.z.cells.size),(Builtin.zeroCells it.z.cells q)[j]=it.z.cells[j%z.length]:=fun q j g g'=>by
  simp only[Builtin.zeroCells,Array.getElem_map,Array.getElem_range,hzl];exact getElem!_pos it.z.cells _ g'
 obtain⟨ad,cap2,vs,rfl,hvl,hc,hrep⟩:=wQ h.inv.facts hy hry;have hvz:vs.length=1*inf.size:=by omega
 have small:∀{m:Nat},m*bytes≤140737488355328->m≤maxLen:=fun{m} hm=>by
  have:m*1≤m*bytes:=P8 _ hb0;unfold maxLen;omega
 have new:∀(olds:List V) (ovs:List Value) (gp c:Nat),olds.length=ovs.length->(∀j (h:j<olds.length) (h':j<ovs.length),Rep M bm olds[j] ovs[j]/\ovs[j].oneCell'=true/\∀T k rows,olds[j]≠.own T k rows)->gp≤c->c≤maxLen->
  K (put ρ d (.bsc σ.length gp c)) (σ++[olds++src++cC z (c-gp)])->
  ∃M' bm' tk' ρ' σ',K ρ' σ'/\SRel M' bm' tk' pr ρ' σ' n (a.put (some d) (.slice (some ⟨w.heap.size,0,none⟩) gp c)) (w.drew.alloc (.cells (ovs.toArray++vs.toArray++Builtin.zeroCells it.z.cells (c-gp)) T))/\Later M bm pr w M' bm' (w.drew.alloc (.cells (ovs.toArray++vs.toArray++Builtin.zeroCells it.z.cells (c-gp)) T)):=by
  intro olds ovs gp c hol hor hle hm hK;obtain⟨e1,e2⟩:=h.ext (cO.drew w)
  obtain⟨g1,g2⟩:=e1.push0 (T:=T) (cs:=olds++src++cC z (c-gp)) (vs:=ovs.toArray++vs.toArray++Builtin.zeroCells it.z.cells (c-gp)) (by
   simp[hzn,gW,hol,hvl,P9]) (fun j k1 k2=>by
   have fin:∀{x:V} {u:Value},(olds++src++cC z (c-gp))[j]? = some x->(ovs.toArray++vs.toArray++Builtin.zeroCells it.z.cells (c-gp))[j]? = some u->(Rep M bm x u/\u.oneCell'=true/\∀T k rows,x≠.own T k rows)->
    Rep M bm (olds++src++cC z (c-gp))[j] (ovs.toArray++vs.toArray++Builtin.zeroCells it.z.cells (c-gp))[j]/\(ovs.toArray++vs.toArray++Builtin.zeroCells it.z.cells (c-gp))[j].oneCell'=true/\∀T k rows,(olds++src++cC z (c-gp))[j]=.own T k rows->(ovs.toArray++vs.toArray++Builtin.zeroCells it.z.cells (c-gp))[j]=.slice none 0 0/\rows=[]:=by
    intro x u hx hu ⟨g1,g2,g3⟩;rw[Po k1]at hx;rw[Pb k2]at hu;have hx':=Option.some.inj hx;have hu':=Option.some.inj hu;rw[hx',hu'];exact⟨g1,g2,fun T k rows e=>absurd e (g3 T k rows)⟩
   by_cases j1:j<olds.length
   .refine fin (x:=olds[j]) (u:=ovs[j]'(by omega)) ?_ ?_ (hor j j1 (by omega))
    .rw[PH,Pp j1,Po j1]
    .rw[Pk,Ph (by simp;omega),PE,Po (by omega)]
   by_cases j2:j-olds.length<src.length
   .refine fin (x:=src[j-olds.length]) (u:=vs[j-olds.length]'(by omega)) ?_ ?_ (hrep _ j2 (by omega))
    .rw[PH,Pq (by omega),Pp j2,Po j2]
    .rw[Pk,Pg (by simp;omega),PG,<-hol,Ph (by simp;omega),PE,Po (by omega)]
   .have j3:j-(olds.length+src.length)<(cC z (c-gp)).length:=by simp at k1;omega
    obtain⟨j4,j5⟩:=o0 j3;have j6:(j-(olds.length+src.length))%z.length<it.z.cells.size:=by omega
    have j7:=z2 _ j4 (by simpa using j6);refine fin (x:=z[(j-(olds.length+src.length))%z.length]) (u:=it.z.cells[(j-(olds.length+src.length))%z.length]'j6) ?_ ?_ ⟨by simpa using j7.1,by simpa using j7.2.1,V.isOwn_ne (hzo' _ j4)⟩
    .rw[Pq (by simp;omega),Pt,Po j3,j5]
    .have j8:j-(olds.length+src.length)<(Builtin.zeroCells it.z.cells (c-gp)).size:=by rw[hzn];rw[gW]at j3;exact j3
     rw[Pg (by simp;omega)];have j9:(ovs.toArray++vs.toArray).size=olds.length+src.length:=by simp;omega
     rw[j9,Pb j8,hzc _ _ j8 j6])
  have hsz:w.drew.heap.size=w.heap.size:=rfl;rw[hsz]at g1 g2;exact⟨M,_,tk,_,_,hK,g1.puts hd (.bsc (by rw[<-h.inv.len];simp) hle hm) (by simp),e2.trans g2 (fun _ h=>h)⟩
 unfold iB at hr;cases x<;>simp only at hr<;>first|exact hr.elim|skip
 .obtain⟨hb,hK⟩:=hr;cases hx with
  | nil=>
  have hm:=small (m:=1) (by omega);have hrun:=run_append_nil (P:=C.P) w t ty T inf it.z hu hinf hzz ad 1 cap2 vs hvz hc (by omega) (by unfold maxLen at hm;omega) (by rw[hbb];omega);obtain⟨M',bm',tk',ρ',σ',k1,k2,k3⟩:=new [] [] 1 (grownCap w 1 0 T) rfl (fun j h=>by simp at h) (grownCap_ge w _ _ _) (grownCap_le_maxLen w _ _ _ hm) (by simpa using hK _ (grownCap_ge w _ _ _));exact⟨_,_,M',bm',tk',ρ',σ',hrun,k1,by simpa using k2,by simpa using k3⟩
 .rename_i i m c;cases hx with
  | @bsc _ _ _ b hb hc1 hm1=>
  split at hr
  .rename_i cs hcs;obtain⟨⟨hl,hn,hbd⟩,hr1,hr2⟩:=hr;have hm:=small hbd;obtain⟨cur,T',g1,g2,g3⟩:=h.inv.cells hb hcs hn;by_cases hroom:m+1≤c
   .have hfits:m*z.length+src.length≤cs.length:=by
     rw[hl,hsl,<-Nat.succ_mul];exact P3 _ hroom
    obtain⟨w',s1,s2,s3⟩:=h.store (P:=C.P) hb hcs hn (off:=m*z.length) (xs:=src) (vs:=vs) hvl hfits (fun j k1 k2=>hrep j k1 k2);have hf:=run_firstCells_some (P:=C.P) w z.length 1 ad 1 cap2 vs (by omega) hc;refine⟨_,w',M,bm,tk,_,_,?_,hr1 hroom,s2.puts hd (.bsc hb hroom hm1) (by simp),s3⟩;simp[Builtin.append_,run_underlying hu,sizeOf,typeInfo,hinf,hs1,Builtin.lenOf,hroom,hf,cq,s1]
   .have hle:m*z.length≤cs.length:=by rw[hl];exact P3 _ hc1
    have holds:∀j u,(cur.toList.take (m*z.length))[j]? = some u->w.cell? ((⟨b,0,none⟩:Addr).add j)=some u:=fun j u hu=>by
     have hjm:j<m*z.length:=by have:=(List.getElem?_eq_some_iff.1 hu).1;simp at this;omega
     rw[PC hjm,Pd]at hu;rw[cq,P4];simp[World.cell?,g1,hu]
    have hrun:=run_append_grow (P:=C.P) w t ty T inf it.z hu hinf hzz ⟨b,0,none⟩ m c (cur.toList.take (m*z.length)) (by rw[hs1];simp;omega) holds ad 1 cap2 vs hvz hc (by omega) (by unfold maxLen at hm;omega) (by rw[hbb];exact growslice_fits (by omega) hbd)
    obtain⟨M',bm',tk',ρ',σ',k1,k2,k3⟩:=new ((cs.take (m*z.length)).map V.copy) (cur.toList.take (m*z.length)) (m+1) (grownCap w (m+1) c T) (by simp;omega) (fun j k1 k2=>by
     simp only[P1,List.length_take]at k1;simp only[Px,PA,Pe];have:=g3 j (by omega) (by omega);exact⟨this.1.rep.copy,this.2,fun T k rows=>V.copy_own⟩) (grownCap_ge w _ _ _) (grownCap_le_maxLen w _ _ _ hm) (hr2 (by omega) _ (grownCap_ge w _ _ _))
    exact⟨_,_,M',bm',tk',ρ',σ',hrun,k1,k2,k3⟩
  .exact hr.elim
end
end Go.Proofs.YtnhphlmblenapaaGreatDoor
namespace Go.Proofs.YtnhphlmblenapaaGreatDoor
open Go.RowKit
section
variable {P : Program} {M : ao} {bm : List Nat} {w : World}
theorem GA(a b:ByteArray):(a==b)=decide (a=b):=by
 rw[beq_toListBytes,ByteArray.toList_eq,ByteArray.toList_eq,Bool.eq_iff_iff];simp only[beq_iff_eq,decide_eq_true_eq];constructor
 .intro h;cases a;cases b;simp at h;rw[h]
 .rintro rfl;rfl
theorem xU{tab:Tab}(htab:nC P tab){t:TypeId}{k:IntKind}(ht:tab.isInt t k=true):P.underlying t=some (.int k):=by
 unfold Tab.isInt at ht;split at ht
 .rename_i h;have h2:=(htab t _ h).1;rw[h2];simp only[beq_iff_eq]at ht;rw[ht]
 .cases ht
theorem Ev{tab:Tab}(htab:nC P tab){t:TypeId}(ht:tab.isBool t=true):P.underlying t=some .bool:=by
 unfold Tab.isBool at ht;split at ht
 .rename_i h;exact(htab t _ h).1
 .cases ht
theorem u1{tab:Tab}(htab:nC P tab){t:TypeId}(ht:tab.isString t=true):P.underlying t=some .string:=by
 unfold Tab.isString at ht;split at ht
 .rename_i h;exact(htab t _ h).1
 .cases ht
theorem kj{tab:Tab}(htab:nC P tab){d:Nat}{xs ys:List Value}:∀(ks:List Kd) (fs:List Field) (i:Nat) (as bs:List V) (r:Bool),mw tab ks fs i=true->cJ ks as bs=some r->
 (∀j (h:j<as.length),∃v,xs[i+j]? = some v/\Rep M bm as[j] v)->(∀j (h:j<bs.length),∃v,ys[i+j]? = some v/\Rep M bm bs[j] v)->
 (Op.eqFields (d+1) xs.toArray ys.toArray fs).run P w=.ok r w
 | [],[],i,[],[],r,hf,he,hx,hy=>by cases he;simp[Op.eqFields]
 | kd::ks,f::fs,i,a::as,b::bs,r,hf,he,hx,hy=>by
  simp only[mw,Pl,beq_iff_eq,bne_iff_ne,ne_eq]at hf;obtain⟨ho,hnm,hb,hrest⟩:=hf;simp only[cJ]at he;split at he
  .rename_i p q h1 h2;cases he;obtain⟨va,hva,ra⟩:=hx 0 (by simp);obtain⟨vb,hvb,rb⟩:=hy 0 (by simp);simp only[Qb,Pu]at hva hvb ra rb
   have ih:=kj htab (d:=d) (xs:=xs) (ys:=ys) ks fs (i+1) as bs q hrest h2 (fun j h=>by
    obtain⟨v,k1,k2⟩:=hx (j+1) (by simpa using h);exact⟨v,by rw[show i+1+j=i+(j+1)by omega];exact k1,by simpa using k2⟩) (fun j h=>by
    obtain⟨v,k1,k2⟩:=hy (j+1) (by simpa using h);exact⟨v,by rw[show i+1+j=i+(j+1)by omega];exact k1,by simpa using k2⟩)
   have key:P.plainKey f.type=true/\(Op.equalIn (d+1) f.type va vb).run P w=.ok p w:=by
    unfold kW at h1;split at h1
    .obtain⟨rfl,-⟩:=ra.int_inv;obtain⟨rfl,-⟩:=rb.int_inv;split at h1
     .rename_i hk;obtain⟨rfl,rfl⟩:=hk;cases h1;have hu:=xU htab hb;refine⟨by unfold Program.plainKey;rw[hu],?_⟩;rw[run_equalIn_int w d _ _ _ _ _ hu];rfl
     .cases h1
    .obtain⟨rfl,-⟩:=ra.str_inv;obtain⟨rfl,-⟩:=rb.str_inv;cases h1;have hu:=u1 htab hb;refine⟨by unfold Program.plainKey;rw[hu],?_⟩;simp only[Op.equalIn,Sem.run_bind,run_underlying hu,Result.andThen_ok,Sem.run_pure];congr 1;exact GA _ _
    .obtain rfl:=ra.bool_inv;obtain rfl:=rb.bool_inv;cases h1;have hu:=Ev htab hb;refine⟨by unfold Program.plainKey;rw[hu],?_⟩;rw[run_equalIn_bool w d _ _ _ hu]
    .cases h1
   obtain⟨hpk,heq⟩:=key;have pa:(part f.type xs.toArray f.offset).run P w=.ok va w:=run_part_plain w hpk (by rw[ho];simpa using hva);have pb:(part f.type ys.toArray f.offset).run P w=.ok vb w:=run_part_plain w hpk (by rw[ho];simpa using hvb);simp only[Op.eqFields,ne_eq,hnm,not_false_eq_true,if_true,Sem.run_bind,pa,pb,heq,Result.andThen_ok,Sem.run_ite,Sem.run_pure,ih];cases p<;>simp
  .cases he
theorem yY{tab:Tab}(htab:nC P tab){neq:Bool}{T:TypeId}{ks:List Kd}{x y z:V}(hz:iY neq ks x y=some z){fs:Array Field}(hT:P.underlying T=some (.struct fs))(hs:P.stoodInHeld T=false)(hg:P.eqGuardType P.depth T=false)
 (hf:mw tab ks fs.toList 0=true)(ox oy:Operand){vx vy:Value}(hx:Rep M bm x vx)(hy:Rep M bm y vy):
 ck P M bm w z (do eqGuard (if neq then .neq else .eql) T ox oy vx vy;binOp (if neq then .neq else .eql) T vx vy):=by
 unfold iY at hz;split at hz
 .rename_i as bs;cases hx with
  | @agg _ xs hlx hhx h1x=>
  cases hy with
  | @agg _ ys hly hhy h1y=>
  split at hz
  .rename_i r hr;cases hz;have hfo:P.fieldsOf T=fs:=by unfold Program.fieldsOf;rw[hT]
   have h:=kj (P:=P) (M:=M) (bm:=bm) (w:=w) htab (d:=9998) (xs:=xs) (ys:=ys) ks fs.toList 0 as bs r hf hr
    (fun j h=>⟨xs[j]'(by omega),by rw[P4];exact Po _,hhx j h _⟩)
    (fun j h=>⟨ys[j]'(by omega),by rw[P4];exact Po _,hhy j h _⟩)
   have h2:=run_equalIn_struct (P:=P) w 9999 T xs.toArray ys.toArray (by rw[hfo];exact hT) hs;rw[hfo,h]at h2;have h3:=run_eqGuard_agg (P:=P) w (if neq then .neq else .eql) T ox oy xs.toArray ys.toArray hg;refine⟨.bool (bif neq then !r else r),?_,eM _,by simp⟩;simp only[Sem.run_bind,h3,Result.andThen_ok];cases neq
   .simp only[Pm,if_false,cond_false];rw[run_eql_struct,h2];rfl
   .simp only[if_true,cond_true];rw[run_neq_struct,h2];rfl
  .cases hz
 .cases hz
theorem u5{tab:Tab}(htab:nC P tab){neq:Bool}{T e:TypeId}{k:IntKind}{x y z:V}(hz:iY neq [.i k,.i k] x y=some z)(hT:P.underlying T=some (.array 2 e))(he:tab.isInt e k=true)(he1:tab.sz e=some 1)(hg:P.eqGuardType P.depth T=false)
 (ox oy:Operand){vx vy:Value}(hx:Rep M bm x vx)(hy:Rep M bm y vy):
 ck P M bm w z (do eqGuard (if neq then .neq else .eql) T ox oy vx vy;binOp (if neq then .neq else .eql) T vx vy):=by
 unfold iY at hz;split at hz
 .rename_i as bs;cases hx with
  | @agg _ xs hlx hhx h1x=>
  cases hy with
  | @agg _ ys hly hhy h1y=>
  split at hz
  .rename_i r hr;cases hz;have hu:=xU htab he;obtain⟨it,hit,hs1⟩:=Option.map_eq_some_iff.1 he1;obtain⟨-,inf,hinf,hsz,-⟩:=htab e it hit;have hce:P.cellsOf e=1:=by unfold Program.cellsOf;rw[hinf];simp[hsz,hs1]
   have hpk:P.plainKey e=true:=by unfold Program.plainKey;rw[hu]
   have shape:∃a b c d,as=[aC k a,aC k b]/\bs=[aC k c,aC k d]/\r=(decide (a=c)&&decide (b=d)):=by
    rcases as with _|⟨a1,_|⟨a2,_|⟨a3,ar⟩⟩⟩<;>rcases bs with _|⟨b1,_|⟨b2,_|⟨b3,br⟩⟩⟩
    case cons.cons.nil.cons.cons.nil=>
     simp only[cJ]at hr
     have one:∀{p q:V} {b:Bool},kW (.i k) p q=some b->∃m n,p=aC k m/\q=aC k n/\b=decide (m=n):=by
      intro p q b h;unfold kW at h;split at h
      .rename_i q' ka a' kb b' e9;cases e9;split at h
       .rename_i hk;obtain⟨rfl,rfl⟩:=hk;cases h;exact⟨_,_,rfl,rfl,rfl⟩
       .cases h
      .rename_i e9;cases e9
      .rename_i e9;cases e9
      .cases h
     split at hr
     .rename_i x1 y1 g1 g2;split at g2
      .rename_i x2 y2 g3 g4;cases g4;cases g2;cases hr;obtain⟨a,c,rfl,rfl,rfl⟩:=one g1;obtain⟨b,d,rfl,rfl,rfl⟩:=one g3;exact⟨a,b,c,d,rfl,rfl,by simp⟩
      .cases g2
     .cases hr
    all_goals (exfalso;simp only[cJ]at hr;(repeat' split at hr)<;>simp_all)
   obtain⟨a,b,c,d,rfl,rfl,rfl⟩:=shape
   match xs,hlx,ys,hly with
   | [x0,x1],_,[y0,y1],_=>
   obtain⟨rfl,-⟩:=(hhx 0 (by simp) (by simp)).int_inv;obtain⟨rfl,-⟩:=(hhx 1 (by simp) (by simp)).int_inv;obtain⟨rfl,-⟩:=(hhy 0 (by simp) (by simp)).int_inv;obtain⟨rfl,-⟩:=(hhy 1 (by simp) (by simp)).int_inv;have h2:=run_equalIn_array (P:=P) (w:=w) 9999 #[.int k a,.int k b] #[.int k c,.int k d] hT hinf;have part1:∀(p q:Value),(part e #[p,q] 0).run P w=.ok p w:=fun p q=>run_part_plain w hpk rfl;have part2:∀(p q:Value),(part e #[p,q] 1).run P w=.ok q w:=fun p q=>run_part_plain w hpk rfl;have heq:∀m n,(Op.equalIn 9999 e (.int k m) (.int k n)).run P w=.ok (decide (m=n)) w:=fun m n=>by rw[run_equalIn_int w 9998 _ _ _ _ _ hu];rfl
   have h3:=run_eqGuard_agg (P:=P) w (if neq then .neq else .eql) T ox oy #[.int k a,.int k b] #[.int k c,.int k d] hg
   have h4:(Op.equalIn 10000 T (.agg #[.int k a,.int k b]) (.agg #[.int k c,.int k d])).run P w=.ok (decide (a=c)&&decide (b=d)) w:=by
    rw[h2,show PI 2=[0,1]from rfl,hce];by_cases g1:a=c<;>by_cases g2:b=d<;>simp[Op.eqItems,part1,part2,heq,g1,g2]
   refine⟨.bool (bif neq then !(decide (a=c)&&decide (b=d))else(decide (a=c)&&decide (b=d))),?_,eM _,by simp⟩;simp only[Sem.run_bind,h3,Result.andThen_ok];cases neq
   .simp only[Pm,if_false,cond_false];rw[run_eql_struct,h4];rfl
   .simp only[if_true,cond_true];rw[run_neq_struct,h4];rfl
  .cases hz
 .cases hz
theorem zt{neq:Bool}{T:TypeId}{ms:Array (String×TypeId)}{x z:V}(hz:sa neq x=some z)(hT:P.underlying T=some (.interface ms))(ox:Operand){vx:Value}(hx:Rep M bm x vx):
 ck P M bm w z (do eqGuard (if neq then .neq else .eql) T ox (.const .nilIface) vx .nilIface;binOp (if neq then .neq else .eql) T vx .nilIface):=by
 have hM:P.underlying T=some (.interface (P.methodsAt T)):=by
  have:P.methodsAt T=ms:=by unfold Program.methodsAt;rw[hT]
  rw[this];exact hT
 unfold sa at hz;split at hz
 .cases hx with|d h=>cases h with|lit _ _=>
  cases hz;have hg:∀op,(eqGuard op T ox (.const .nilIface) .nilIface .nilIface).run P w=.ok () w:=fun op=>by cases op<;>simp[eqGuard]
  refine⟨.bool (!neq),?_,eM _,by simp⟩;simp only[Sem.run_bind,hg,Result.andThen_ok];cases neq
  .exact run_eql_nil_nil w T hM
  .exact run_neq_nil_nil w T hM
 .rename_i u x0;cases hx with | @iface _ _ v h=>
  cases hz;have hg:∀op,(eqGuard op T ox (.const .nilIface) (.iface u v) .nilIface).run P w=.ok () w:=fun op=>by cases op<;>simp[eqGuard]
  refine⟨.bool neq,?_,eM _,by simp⟩;simp only[Sem.run_bind,hg,Result.andThen_ok];cases neq
  .exact run_eql_held_nil w T u v hM
  .exact run_neq_held_nil w T u v hM
 .cases hz
end
end Go.Proofs.YtnhphlmblenapaaGreatDoor
namespace Go.Proofs.YtnhphlmblenapaaGreatDoor
open Go.RowKit
section
variable {C : Cx} {M : ao} {bm : List Nat} {tk : be} {pr : Prot} {ρ : ac} {σ : LLV} {n : Nat} {a : Act} {w : World}
def G2(P:Program)(M:ao)(bm:List Nat)(w:World)(x:V)(s:Sem Next):Prop:=∃v,s.run P w=.ok (.value v) w/\Rep M bm x v/\∀T k rows,x≠.own T k rows
theorem ck.gives{P:Program}{x:V}{s:Sem Value}(h:ck P M bm w x s):G2 P M bm w x (do pure (Next.value (<-s))):=by
 obtain⟨v,h1,h2,h3⟩:=h;exact⟨v,by simp[h1],h2,h3⟩
theorem eW(hG:C.glob M pr w)(h:SRel M bm tk pr ρ σ n a w):∀{xs:List X} {os:List Operand},nr xs os=true->(os.map a.eval).length=(xs.map (ev C ρ)).length/\
 ∀i (h:i<(xs.map (ev C ρ)).length) (h':i<(os.map a.eval).length),Rep M bm (xs.map (ev C ρ))[i] (os.map a.eval)[i]
 | [],[],_=>⟨rfl,fun i h=>by simp at h⟩
 | x::xs,o::os,hx=>by
  simp only[nr,Pl]at hx;obtain⟨h1,h2⟩:=eW hG h hx.2;refine⟨by simpa using h1,fun i h3 h4=>?_⟩;cases i with
  | zero=>exact ay hG h hx.1
  | succ i=>exact h2 i (by simpa using h3) (by simpa using h4)
 | [],_::_,hx=>by cases hx
 | _::_,[],hx=>by cases hx
def zG(M:ao)(bm:List Nat)(cs:List V)(vs:List Value):Prop:=vs.length=cs.length/\∀i (h:i<cs.length) (h':i<vs.length),Rep M bm cs[i] vs[i]/\vs[i].oneCell'=true
theorem nh:∀(xs:List Value) (cs:Array Value) (off k:Nat),off+k+xs.length≤cs.size->
 (xs.zipIdx k).foldl (fun cs (p:Value×Nat)=>cs.setIfInBounds (off+p.2) p.1) cs=(cs.toList.take (off+k)++xs++cs.toList.drop (off+k+xs.length)).toArray
 | [],cs,off,k,h=>by simp
 | x::xs,cs,off,k,h=>by
  simp only[PW,List.foldl_cons];rw[nh xs _ off (k+1) (by simp at h ⊢;omega)];have e:=list_seg_step cs.toList (off+k) x xs (by simp at h ⊢;omega);simp only[Array.toList_setIfInBounds,<-P9,PY]at e ⊢;rw[e]
theorem pK(hG:C.glob M pr w)(h:SRel M bm tk pr ρ σ n a w){tp place:Nat->Option (Nat×Nat)}(htp:∀i r,tp i=some r->place i=some r):∀{ps:List (Nat×Nat×X)} {qs:List (Nat×Operand)} {cs out:List V} {vs:List Value},n9 tp ps qs=true->zG M bm cs vs->kH (ev C ρ) cs ps=some out->
 ∃vs',Instr.fill place vs.toArray (qs.map fun(i,x)=>(i,a.eval x))=some vs'.toArray/\zG M bm out vs'
 | [],[],cs,out,vs,_,hr,hb=>by cases hb;exact⟨vs,rfl,hr⟩
 | (off,k,x)::ps,(i,o)::qs,cs,out,vs,hp,hr,hb=>by
  simp only[n9,Pl]at hp;obtain⟨⟨h1,h2⟩,h3⟩:=hp;split at h1
  .rename_i off' k' hpl;simp only[Pl,beq_iff_eq]at h1;obtain⟨rfl,rfl⟩:=h1;unfold kH at hb;split at hb
   .rename_i hc;have hx:=ay hG h h2
    obtain⟨c1,c2,hb2⟩:(∀vs,ev C ρ x≠.tup vs)/\(ev C ρ x≠.junk)/\kH (ev C ρ) (over cs off (ev C ρ x).cells) ps=some out:=by
     generalize ev C ρ x=y at hb;cases y<;>first|(cases hb;done)|exact⟨(fun _ e=>by cases e),(fun e=>by cases e),hb⟩
    obtain⟨d1,d2⟩:=hx.cells c1 c2;have hsz:(a.eval o).cells.size=k:=by omega
    have hvl:off+(a.eval o).cells.size≤vs.length:=by rw[hr.1];omega
    have hstep:zG M bm (over cs off (ev C ρ x).cells) (vs.take off++(a.eval o).cells.toList++vs.drop (off+(a.eval o).cells.toList.length)):=by
     refine⟨by rw[fY _ _ _ (by omega)];simp;have:=hr.1;omega,fun j h4 h5=>?_⟩;have e1:=og cs off (ev C ρ x).cells (by omega) j;have e2:=og vs off (a.eval o).cells.toList (by simpa using hvl) j;have e3:(over cs off (ev C ρ x).cells)[j]? = some (over cs off (ev C ρ x).cells)[j]:=Po h4;have e4:=Po h5;unfold over at e3;by_cases hin:off≤j/\j<off+(ev C ρ x).cells.length
     .rw[if_pos hin,e3]at e1;rw[if_pos (by simp;omega),e4]at e2;have hj1:j-off<(ev C ρ x).cells.length:=by omega
      have hj2:j-off<(a.eval o).cells.size:=by omega
      rw[Po hj1]at e1;rw[Pd,Pb hj2]at e2;have f1:(over cs off (ev C ρ x).cells)[j]=_:=Option.some.inj e1;have f2:=Option.some.inj e2;rw[f1,f2];exact⟨(d2 _ hj1 hj2).1,(d2 _ hj1 hj2).2.1⟩
     .rw[if_neg hin,e3]at e1;rw[if_neg (by simp;omega),e4]at e2;have hj1:j<cs.length:=by rw[fY _ _ _ (by omega)]at h4;exact h4
      have hj2:j<vs.length:=by rw[hr.1];exact hj1
      rw[Po hj1]at e1;rw[Po hj2]at e2;have f1:(over cs off (ev C ρ x).cells)[j]=_:=Option.some.inj e1;have f2:=Option.some.inj e2;rw[f1,f2];exact hr.2 j hj1 hj2
    obtain⟨vs',g1,g2⟩:=pK hG h htp h3 hstep hb2;refine⟨vs',?_,g2⟩
    have hnot:((a.eval o).cells.size≠k||decide (off+(a.eval o).cells.size>vs.toArray.size))=false:=by
     simp[hsz];omega
    simp only[Pz,Instr.fill,htp _ _ hpl];rw[if_neg (by rw[hnot];simp)];have hf:=nh (a.eval o).cells.toList vs.toArray off 0 (by simpa using hvl)
    have hz:((a.eval o).cells.zipIdx.foldl (fun cs (p:Value×Nat)=>cs.setIfInBounds (off+p.2) p.1) vs.toArray)=(vs.take off++(a.eval o).cells.toList++vs.drop (off+(a.eval o).cells.toList.length)).toArray:=by
     rw[<-Pj,Pi,hf];simp
    rw[hz];exact g1
   .cases hb
  .cases h1
 | [],_::_,_,_,_,hp,_,_=>by cases hp
 | _::_,[],_,_,_,hp,_,_=>by cases hp
theorem nK{P:Program}:∀(fs:List Field),(∀f∈fs,(P.info? f.type).isSome=true)->∃places,fs.mapM (fun f=>(P.info? f.type).map fun i=>(f.offset,i.size))=some places/\∀(i:Nat) (f:Field) (inf:TypeInfo),fs[i]? = some f->P.info? f.type=some inf->places[i]? = some (f.offset,inf.size)
 | [],_=>⟨[],by simp,fun i f inf h=>by simp at h⟩
 | f::fs,h=>by
  obtain⟨pl,h1,h2⟩:=nK fs (fun g hg=>h g (by simp[hg]));obtain⟨inf,hi⟩:=Option.isSome_iff_exists.1 (h f (by simp));refine⟨(f.offset,inf.size)::pl,by simp[List.mapM_cons,hi,h1],fun i g inf' hg hi'=>?_⟩;cases i with
  | zero=>simp at hg;subst hg;rw[hi]at hi';cases hi';rfl
  | succ i=>exact h2 i g inf' (by simpa using hg) hi'
theorem ym(hG:C.glob M pr w)(h:SRel M bm tk pr ρ σ n a w){t:TypeId}{qs:Array (Nat×Operand)}{zs out:List V}{ps:List (Nat×Nat×X)}
 (hok:Cg C.tab zs ps t qs.toList=true)
 (hb:kH (ev C ρ) zs ps=some out):ck C.P M bm w (.agg out) (Instr.build t (qs.map fun(i,x)=>(i,a.eval x))):=by
 unfold Cg at hok;split at hok
 .rename_i i ht;simp only[Pl]at hok;obtain⟨⟨h1,h2⟩,h3⟩:=hok;obtain⟨hu,inf,hinf,hs,-,hz,hzc⟩:=C.ok t i ht;obtain⟨z1,z2⟩:=gZ (M:=M) (bm:=bm) h1;have hr0:zG M bm zs i.z.cells.toList:=⟨z1,fun j g1 g2=>⟨(z2 j g1 g2).1,(z2 j g1 g2).2.1⟩⟩
  have fin:∀place:Nat->Option (Nat×Nat),(∀i r,C.tab.place t i=some r->place i=some r)->∃vs',Instr.fill place i.z.cells (qs.map fun(i,x)=>(i,a.eval x)).toList=some vs'.toArray/\zG M bm out vs':=by
   intro place hp;obtain⟨vs',g1,g2⟩:=pK hG h hp h2 hr0 hb;exact⟨vs',by simpa using g1,g2⟩
  have done:∀vs',zG M bm out vs'->Rep M bm (.agg out) (.agg vs'.toArray):=fun vs' g=>.agg g.1 (fun j g1 g2=>(g.2 j g1 g2).1) (fun v hv=>by obtain⟨j,hj,rfl⟩:=Py hv;exact(g.2 j (by rw[<-g.1];exact hj) hj).2);split at h3
  .rename_i fs hd;rw[hd]at hu
   obtain⟨pl,p1,p2⟩:=nK (P:=C.P) fs.toList (fun f hf=>by
    have:=List.all_eq_true.1 h3 f hf;obtain⟨it,hit⟩:=Option.isSome_iff_exists.1 this;obtain⟨-,inf,hi,-⟩:=C.ok f.type it hit;simp[hi])
   obtain⟨vs',g1,g2⟩:=fin (pl.toArray[·]?) (fun j r hr=>by
    unfold Tab.place at hr;rw[ht]at hr;obtain⟨d,sz,by_,z⟩:=i;simp only at hd;subst hd;simp only at hr;split at hr
    .rename_i f hf;obtain⟨k,hk,rfl⟩:=Option.map_eq_some_iff.1 hr;obtain⟨it,hit,rfl⟩:=Option.map_eq_some_iff.1 hk;obtain⟨-,inf,hi,hsz,-⟩:=C.ok f.type it hit;have:=p2 j f inf (by rw[Pd];exact hf) hi;rw[hsz]at this;simpa using this
    .cases hr)
   refine⟨_,run_build w t _ vs'.toArray ?_,done vs' g2,by simp⟩;simp only[Program.built,hinf,hu,hz,p1];exact g1
  .rename_i len e hd;rw[hd]at hu;obtain⟨ie,hie⟩:=Option.isSome_iff_exists.1 h3;obtain⟨-,infe,hinfe,hsz,-⟩:=C.ok e ie hie
   obtain⟨vs',g1,g2⟩:=fin (fun j=>some (j*infe.size,infe.size)) (fun j r hr=>by
    unfold Tab.place at hr;rw[ht]at hr;obtain⟨d,sz,by_,z⟩:=i;simp only at hd;subst hd;simp only at hr;obtain⟨k,hk,rfl⟩:=Option.map_eq_some_iff.1 hr;obtain⟨it,hit,rfl⟩:=Option.map_eq_some_iff.1 hk;rw[hie]at hit;cases hit;rw[hsz])
   refine⟨_,run_build w t _ vs'.toArray ?_,done vs' g2,by simp⟩;simp only[Program.built,hinf,hu,hz,hinfe];exact g1
  .cases h3
 .cases hok
theorem Tab.int_sound{t:TypeId}{k:IntKind}(ht:C.tab.isInt t k=true):C.P.underlying t=some (.int k):=by
 unfold Tab.isInt at ht;split at ht
 .rename_i h;simp only[beq_iff_eq]at ht;subst ht;exact(C.ok t _ h).1
 .cases ht
theorem yF{t:TypeId}(h:(match C.tab t with|some ⟨.int _,_,_,_⟩=>true|_=>false)=true):∃k,C.P.underlying t=some (.int k):=by
 split at h
 .rename_i k _ _ _ h1;exact⟨k,(C.ok t _ h1).1⟩
 .cases h
theorem oL(hG:C.glob M pr w)(h:SRel M bm tk pr ρ σ n a w){x:Option X}{ox:Option Operand}(hx:FV x ox=true):
 (∀y,x.map (ev C ρ)=some y->∃v,ox.map a.eval=some v/\Rep M bm y v)/\(x.map (ev C ρ)=none->ox.map a.eval=none):=by
 unfold FV at hx;split at hx
 .exact⟨(fun y hy=>by cases hy),fun _=>rfl⟩
 .exact⟨(fun y hy=>by cases hy;exact⟨_,rfl,ay hG h hx⟩),(fun h=>by cases h)⟩
 .cases hx
theorem Cz{gt:Bool}{x y z:V}(hz:mxV gt x y=some z){vx vy:Value}(hx:Rep M bm x vx)(hy:Rep M bm y vy):
 ∃k c d,vx=.int k c/\vy=.int k d/\c7 (.int k c)/\c7 (.int k d)/\z=aC k (if gt then(if d>c then d else c)else(if d<c then d else c)):=by
 unfold mxV at hz;split at hz
 .rename_i k c k' d;split at hz
  .rename_i e;subst e;obtain⟨rfl,f1⟩:=int_sound hx;obtain⟨rfl,f2⟩:=int_sound hy;cases hz;exact⟨k,c,d,rfl,rfl,f1,f2,rfl⟩
  .cases hz
 .cases hz
theorem C2(hG:C.glob M pr w)(h:SRel M bm tk pr ρ σ n a w){op:OP}{o:Oper}{x:V}(hok:wC C.tab op o.op o.type=true)(hv:pv C op ρ σ=some x):G2 C.P M bm w x (execOp a.eval o):=by
 obtain⟨dst,oo,type,pos,after,guard⟩:=o;simp only at hok;unfold wC at hok;split at hok;all_goals simp only[pv]at hv
 all_goals unfold execOp
 all_goals try simp only[Pl,Bool.or_eq_true,beq_iff_eq]at hok
 .cases hv;exact(ck.of_pure (ay hG h hok).copy (fun _ _ _=>V.copy_own)).gives
 .cases hv;exact(ck.of_pure (ay hG h hok).copy (fun _ _ _=>V.copy_own)).gives
 .exact wN hv (ay hG h hok.1.1) (ay hG h hok.1.2) (ay hG h hok.2)
 .rename_i op x y op' t x' y' t2;obtain⟨⟨rfl,h1⟩,h2⟩:=hok;exact(A5 t hv x' y' (ay hG h h1) (ay hG h h2)).gives
 .rename_i neq T ks x y op' t x' y' t2;obtain⟨rfl,rfl,h1,h2,h3⟩:=hok;split at hv
  .rename_i hq;split at h3
   .rename_i fs _ _ _ hfs;exact(yY C.ok hv (C.ok _ _ hfs).1 (C.eqok _ hq).1 (C.eqok _ hq).2 h3 x' y' (ay hG h h1) (ay hG h h2)).gives
   .rename_i e _ _ _ hfs;split at h3
    .rename_i k k';simp only[Pl,beq_iff_eq]at h3;obtain⟨rfl,h4,h5⟩:=h3;exact(u5 C.ok hv (C.ok _ _ hfs).1 h4 h5 (C.eqok _ hq).2 x' y' (ay hG h h1) (ay hG h h2)).gives
    .cases h3
   .cases h3
  .cases hv
 .rename_i neq x op' t x' t2;obtain⟨rfl,h1,h3⟩:=hok;split at h3
  .rename_i ms _ _ _ hms;exact(zt hv (C.ok _ _ hms).1 x' (ay hG h h1)).gives
  .cases h3
 .obtain⟨rfl,h1⟩:=hok;exact(D7 hv (ay hG h h1)).gives
 .rename_i k x s d y;have hx:=ay hG h hok.1.1;obtain⟨ks,hs⟩:=yF hok.2;have hd:=Tab.int_sound hok.1.2;generalize ev C ρ x=z at hv hx;unfold rq at hv;split at hv
  .rename_i k' m;obtain⟨e1,e2⟩:=int_sound hx;cases hv;refine ck.gives ⟨.int k (k.wrap m),?_,dH (fL _ _),by simp⟩;simp[e1,convert,run_underlying hs,run_underlying hd,Conv.intToInt]
  .cases hv
 .rename_i x y;have hx:=ay hG h hok;generalize ev C ρ x=z at hv hx;simp only;generalize a.eval y=v at hx;unfold gi at hv;split at hv
  .cases hv;cases hx with
   | ptr hb=>exact⟨_,rfl,.ptr hb,by simp⟩
  .cases hv;cases hx with
   | row val hf hd=>exact⟨_,rfl,.row val hf hd,by simp⟩
  .cases hv;cases hx with
   | fn hl hh=>exact⟨_,rfl,.fn hl hh,by simp⟩
  .cases hv
 .rename_i off x t y i;obtain⟨h1,h2⟩:=hok;split at h2
  .rename_i hti;split at h2
   .rename_i f hf;simp only[Pl,beq_iff_eq]at h2;obtain⟨rfl,h3⟩:=h2;split at h3
    .rename_i k hk;obtain⟨ad,e1,e2,e3⟩:=CX hv (ay hG h h1);obtain⟨hu,-⟩:=C.ok t _ hti;obtain⟨it,hit,rfl⟩:=Option.map_eq_some_iff.1 hk;obtain⟨-,inf,hinf,hs,-⟩:=C.ok f.type it hit;have hne:¬it.sz=0:=by simp at h3;omega
     refine ck.gives ⟨_,?_,e2,e3⟩;simp only at hu;simp[Instr.fieldAt,run_underlying hu,hf,e1,Instr.sureAddr,fieldPlace,sizeOf,typeInfo,hinf,hs,hne]
    .cases h3
   .cases h2
  .cases h2
 .rename_i k x i t y j;obtain⟨⟨h1,h2⟩,h3⟩:=hok;split at h3
  .rename_i e he;have h4:C.tab.sz e=some k:=by simpa using h3
   unfold Tab.sliceOf at he;split at he
   .rename_i hti;cases he;exact(BA hti rfl h4 hv (ay hG h h1) (ay hG h h2)).gives
   .cases he
  .cases h3
 .exact(Cw hok.2 hv (ay hG h hok.1.1) (ay hG h hok.1.2)).gives
 .rename_i off k ag x t y j;obtain⟨h1,h2⟩:=hok;split at h2
  .rename_i hti;split at h2
   .rename_i f hf;simp only[Pl,beq_iff_eq]at h2;obtain⟨rfl,h3⟩:=h2;split at h3
    .rename_i it hit;simp only[Pl,beq_iff_eq]at h3;obtain⟨rfl,rfl⟩:=h3;exact(AW hti rfl hf hit hv (ay hG h h1)).gives
    .cases h3
   .cases h2
  .cases h2
 .rename_i str x args argTypes;split at hok
  .rename_i y t e1 e2;simp only[Pl]at hok;have ha:args = #[y]:=by rw[<-Pa,e1]
   have hb:argTypes = #[t]:=by rw[<-Pa,e2]
   subst ha;subst hb;obtain⟨v,g1,g2,g3⟩:=y3 (w:=w) hok.2 hv (ay hG h hok.1) type;exact⟨v,by simp[resolve,invoke,builtin,g1],g2,g3⟩
  .cases hok
 .rename_i x i y j;obtain⟨h1,rfl⟩:=hok;have hx:=ay hG h h1;simp only;generalize ev C ρ x=z at hv hx;unfold pc at hv;split at hv
  .rename_i cs;split at hv
   .rename_i c hc;cases hv;generalize a.eval y=v at hx ⊢;cases hx with
    | @tup _ vs hl hh=>
    have hlt:=(List.getElem?_eq_some_iff.1 hc).1;have hce:=(List.getElem?_eq_some_iff.1 hc).2;have hlv:i<vs.length:=by omega
    have:=hh i hlt hlv;rw[hce]at this;exact ck.gives ⟨vs[i],by simp[Instr.extract,hlv],this.copy,fun _ _ _=>V.copy_own⟩
   .cases hv
  .cases hv
 .rename_i k ag x t y;obtain⟨h1,h2⟩:=hok;split at h2
  .rename_i i hti;simp only[Pl,beq_iff_eq]at h2;obtain⟨rfl,rfl⟩:=h2;exact(oK h.inv hti hv (ay hG h h1)).gives
  .cases h2
 .obtain⟨out,hb,rfl⟩:=Option.map_eq_some_iff.1 hv;exact(ym hG h hok hb).gives
 .rename_i str k x lo hi t y lo' hi';obtain⟨⟨⟨h1,h2⟩,h3⟩,h4⟩:=hok;obtain⟨l1,l2⟩:=oL hG h h2;obtain⟨m1,m2⟩:=oL hG h h3;exact(yx h4 hv (ay hG h h1) l1 l2 m1 m2).gives
 .rename_i t x t' y;obtain⟨⟨rfl,h1⟩,h2⟩:=hok;have hx:=ay hG h h1
  have hmk:∀v:Value,(Instr.makeInterface t v).run C.P w=.ok (.iface t v) w:=fun v=>by
   split at h2
   .cases h2
   .rename_i i hne hi;obtain⟨hu,-⟩:=C.ok t i hi;have:∀ms,i.d≠.interface ms:=fun ms e=>hne ms i.sz i.bytes i.z (by cases i;simp only at e;rw[e]);unfold Instr.makeInterface;simp only[Sem.run_bind,run_underlying hu,Result.andThen_ok];generalize i.d=d at this;cases d<;>first|rfl|exact absurd rfl (this _)
   .cases h2
  simp only;generalize ev C ρ x=z at hv hx;unfold vz at hv;split at hv
  .cases hv;exact ck.gives ⟨_,hmk _,.iface hx,by simp⟩
  .cases hv;refine ck.gives ⟨_,hmk _,.iface ?_,by simp⟩;generalize a.eval y=v at hx;cases hx with
   | agg hl hh h1=>exact .agg (by simpa using hl) (fun i g1 g2=>by simp only[Px];exact(hh i (by simpa using g1) g2).copy) h1
  .cases hv;exact ck.gives ⟨_,hmk _,.iface hx,by simp⟩
  .cases hv
 .rename_i T z x y s t;obtain⟨⟨rfl,h1⟩,h2⟩:=hok;have hx:=ay hG h h1;split at h2
  .cases h2
  .rename_i i hne hi;obtain⟨hu,inf,hinf,-,-,hz,-⟩:=C.ok T i hi;have hni:∀ms,i.d≠.interface ms:=fun ms e=>hne ms i.sz i.bytes i.z (by cases i;simp only at e;rw[e]);have hzr:=ky (M:=M) (bm:=bm) h2
   have hzero:(zeroValue T).run C.P w=.ok i.z w:=by
    unfold zeroValue typeInfo;simp[hinf,hz]
   have two:∀{u:V} {v:Value} (b:Bool),Rep M bm u v->Rep M bm (.tup [u,ak b]) (.tuple #[v,.bool b]):=fun{u v} b hr=>.tup (vs:=[v,.bool b]) rfl (fun j h1 h2=>by
    match j,h1 with
    | 0,_=>exact hr
    | 1,_=>exact .d (.lit _ trivial))
   simp only;generalize ev C ρ x=q at hv hx;unfold Bu at hv;split at hv
   .rename_i t' u;generalize a.eval y=yv at hx;cases hx with
    | iface hx=>
    rename_i v;split at hv
    .rename_i e;cases hv;refine ck.gives ⟨_,?_,two true hx,by simp⟩;unfold Instr.typeAssert;simp only[Sem.run_bind,run_underlying hu,Result.andThen_ok];generalize i.d=d at hni;cases d<;>first|(exact absurd rfl (hni _))|(simp[e])
    .rename_i e;cases hv;refine ck.gives ⟨_,?_,two false hzr,by simp⟩;unfold Instr.typeAssert;simp only[Sem.run_bind,run_underlying hu,Result.andThen_ok];generalize i.d=d at hni;cases d<;>first|(exact absurd rfl (hni _))|(simp[e,hzero])
   .generalize a.eval y=yv at hx;cases hx with
    | d hx=>
    cases hx;cases hv;refine ck.gives ⟨_,?_,two false hzr,by simp⟩;unfold Instr.typeAssert;simp only[Sem.run_bind,run_underlying hu,Result.andThen_ok];generalize i.d=d at hni;cases d<;>first|(exact absurd rfl (hni _))|(simp[hzero])
   .cases hv
  .cases h2
 .rename_i f cap g first cap'
  obtain⟨⟨rfl,h1⟩,h2⟩:=hok;cases hv;have hf:first = #[]:=by simpa using h1
  subst hf;obtain⟨l1,l2⟩:=eW hG h h2;have hr:=Rep.fn (f:=f) l1 l2;have e9:(cap'.toList.map a.eval).toArray=cap'.map a.eval:=by rw[<-Pf]
  rw[e9]at hr;exact ck.gives ⟨_,by simp[Instr.makeFunc];done,hr,by simp⟩
 .rename_i f first g first' cap
  obtain⟨⟨rfl,h1⟩,h2⟩:=hok;cases hv;have hf:cap = #[]:=by simpa using h1
  subst hf;obtain⟨l1,l2⟩:=eW hG h h2;have hr:=Rep.bnd (f:=f) l1 l2;have e9:(first'.toList.map a.eval).toArray=first'.map a.eval:=by rw[<-Pf]
  rw[e9]at hr;exact ck.gives ⟨_,by simp[Instr.makeFunc];done,hr,by simp⟩
 .rename_i st ok z x k t x' k' ok';obtain⟨rfl,h1,h2,h3,h4,h5⟩:=hok;exact(Ae h.inv h3 h5 (by simpa using h4) hv (ay hG h h1) (ay hG h h2)).gives
 .rename_i gt x y b args argTypes;split at hok
  .rename_i x' y' e1;simp only[Pl]at hok;obtain⟨⟨rfl,h1⟩,h2⟩:=hok;have ha:args = #[x',y']:=by rw[<-Pa,e1]
   subst ha;obtain⟨k,c,d,g1,g2,g3,g4,rfl⟩:=Cz hv (ay hG h h1) (ay hG h h2);refine⟨_,?_,dH (by(repeat' split)<;>first|assumption|(rename_i e;exact absurd rfl e)),by simp⟩;simp[resolve,invoke,builtin,Builtin.max_,g1,g2,Builtin.max2]
  .rename_i x' y' e1;simp only[Pl,Pn]at hok;obtain⟨⟨rfl,h1⟩,h2⟩:=hok;have ha:args = #[x',y']:=by rw[<-Pa,e1]
   subst ha;obtain⟨k,c,d,g1,g2,g3,g4,rfl⟩:=Cz hv (ay hG h h1) (ay hG h h2);refine⟨_,?_,dH (by(repeat' split)<;>first|assumption|(rename_i e _;cases e)),by simp⟩;simp[resolve,invoke,builtin,Builtin.min_,g1,g2,Builtin.min2]
  .cases hok
 .cases hok
end
end Go.Proofs.YtnhphlmblenapaaGreatDoor
namespace Go.Proofs.YtnhphlmblenapaaGreatDoor
open Go.RowKit
inductive Out where
 | ret (v:V)
 | panic (v:V)
inductive AEx where
 | normal
 | ret
 | exit (id:Nat)
 | panic (v:V)
structure OutOK(M:ao)(bm:List Nat)(w:World)(tk:be)(o:Out)(e:Ending):Prop where
 ret:∀v,o=.ret v->∃u,e=.returned u/\CellOK M bm w v u (tk none 0)
 panic:∀v,o=.panic v->∃u,e=.panicked [{v:=u,recovered:=false}]/\Rep M bm v u
def Fun(C:Cx)(f:FuncId)(args:List V)(σ:LLV)(Q:Out->LLV->Prop):Prop:=
 (∀as w,(callFunc f as).run C.P w=.ok (.enter f as) w)/\
 ∀(M:ao) (bm:List Nat) (tk:be) (pr:Nat->Prop) (w:World) (vs:List Value),C.glob M pr w->Inv M bm σ tk pr w->(∀t,tk none t=none)->vs.length=args.length->(∀i (h:i<args.length) (h':i<vs.length),Rep M bm args[i] vs[i])->
  Calls C.P f vs.toArray w fun e w'=>∃M' bm' tk' σ' o,Q o σ'/\Inv M' bm' σ' tk' pr w'/\Later M bm pr w M' bm' w'/\OutOK M' bm' w' tk' o e
theorem Fun.mono{C:Cx}{f:FuncId}{args:List V}{σ:LLV}{Q Q':Out->LLV->Prop}(h:Fun C f args σ Q)(hq:∀o σ',Q o σ'->Q' o σ'):Fun C f args σ Q':=
 ⟨h.1,fun M bm tk pr w vs hG hI ht hl hr=>(h.2 M bm tk pr w vs hG hI ht hl hr).mono fun e w' ⟨M',bm',tk',σ',o,h1,h2⟩=>⟨M',bm',tk',σ',o,hq _ _ h1,h2⟩⟩
def HP(C:Cx)(f:FuncId)(pre:List V)(T k:Nat)(rows:LLD)(post:List V)(σ:LLV)(Q:Out->LLV->Prop):Prop:=
 (∀as w,(callFunc f as).run C.P w=.ok (.enter f as) w)/\
 ∀(M:ao) (bm:List Nat) (tk:be) (pr:Nat->Prop) (w:World) (vs:List Value),C.glob M pr w->Inv M bm σ tk pr w->vs.length=(pre++.own T k rows::post).length->(∀i (h:i<(pre++.own T k rows::post).length) (h':i<vs.length),Rep M bm (pre++.own T k rows::post)[i] vs[i])->
  uB M w T k rows (vs.getD pre.length undef) (tk none pre.length)->
  Calls C.P f vs.toArray w fun e w'=>∃M' bm' tk' σ' o,Q o σ'/\Inv M' bm' σ' tk' pr w'/\Later M bm pr w M' bm' w'/\OutOK M' bm' w' tk' o e
theorem HP.mono{C:Cx}{f:FuncId}{pre post:List V}{T k:Nat}{rows:LLD}{σ:LLV}{Q Q':Out->LLV->Prop}(h:HP C f pre T k rows post σ Q)(hq:∀o σ',Q o σ'->Q' o σ'):HP C f pre T k rows post σ Q':=
 ⟨h.1,fun M bm tk pr w vs hG hI hl hr ho=>(h.2 M bm tk pr w vs hG hI hl hr ho).mono fun e w' ⟨M',bm',tk',σ',o,h1,h2⟩=>⟨M',bm',tk',σ',o,hq _ _ h1,h2⟩⟩
def V.plain:V->Option D
 | .d x=>some x
 | .own _ _ rows=>some (.sl rows)
 | .nil=>some (.sl [])
 | _=>none
def io:List V->Option (List D)
 | []=>some []
 | x::r=>match x.plain,io r with|some d,some l=>some (d::l)|_,_=>none
def dh:List V->Option LLD
 | []=>some []
 | x::r=>match io x.cells,dh r with|some d,some l=>some (d::l)|_,_=>none
def putd(ρ:ac):Option Nat->V->ac
 | none,_=>ρ
 | some d,v=>put ρ d v
def tyT(v:V)(K:Int->Prop):Prop:=match v with
 | .agg [.d (.lit (.pointer none)),.nil,.d (.lit (.int .i64 k))]=>K k
 | _=>False
def V.boxable:V->Bool
 | .tup _=>false
 | .junk=>false
 | _=>true
def cw(C:Cx)(op:OP)(dst:Option Nat)(ρ:ac)(σ:LLV)(K:ac->LLV->Prop)(Q:AEx->ac->LLV->Prop):Prop:=
 match op with
 | .call f args=>Fun C f (args.map fun x=>(ev C ρ x).lend) σ fun o σ'=>match o with
  | .ret v=>K (putd ρ dst v) σ'
  | .panic v=>Q (.panic v) ρ σ'
 | .callv x args=>match ev C ρ x with
  | .fn f cap=>Fun C f ((args.map fun x=>(ev C ρ x).lend)++cap) σ fun o σ'=>match o with
   | .ret v=>K (putd ρ dst v) σ'
   | .panic v=>Q (.panic v) ρ σ'
  | .bnd f first=>Fun C f (first++args.map fun x=>(ev C ρ x).lend) σ fun o σ'=>match o with
   | .ret v=>K (putd ρ dst v) σ'
   | .panic v=>Q (.panic v) ρ σ'
  | _=>False
 | .calln f args=>Fun C f (args.map fun x=>(ev C ρ x).copy) σ fun o σ'=>match o with
  | .ret v=>K (putd ρ dst v) σ'
  | .panic v=>Q (.panic v) ρ σ'
 | .new _ cs=>K (putd ρ dst (.ptr σ.length 0)) (σ++[cs])
 | .box _ x=>(ev C ρ x).boxable=true/\K (putd ρ dst (.ptr σ.length 0)) (σ++[(ev C ρ x).cells])
 | .boxt T x=>tyT (ev C ρ x) fun k=>K (putd ρ dst (.ptr σ.length 0)) (σ++[tyc T k])
 | .sto k x y=>match ev C ρ x with
  | .ptr i o=>match σ[i]? with
   | some cs=>((ev C ρ y).boxable=true/\(ev C ρ y).cells.length=k/\o+k≤cs.length/\bT cs=true)/\K ρ (σ.set i (over cs o (ev C ρ y).cells))
   | none=>False
  | _=>False
 | .stoo x t=>match ev C ρ x,get ρ t with
  | .ptr i o,.own T k rows=>match σ[i]? with
   | some cs=>(o<cs.length/\bT cs=true)/\K (put ρ t (.d (.sl rows))) (σ.set i (over cs o [.own T k rows]))
   | none=>False
  | _,_=>False
 | .ldo x=>match ev C ρ x with
  | .ptr i o=>match σ[i]? with
   | some cs=>match cs[o]? with
    | some (.own T k rows)=>K (putd ρ dst (.own T k rows)) (σ.set i (cs.set o (.d (.sl rows))))
    | _=>False
   | none=>False
  | _=>False
 | .mvo t=>match get ρ t with
  | .own T k rows=>K (putd (put ρ t (.d (.sl rows))) dst (.own T k rows)) σ
  | _=>False
 | .nilo T k=>K (putd ρ dst (.own T k [])) σ
 | .app T k bytes t y=>match get ρ t,eC (ev C ρ y)with
  | .own T' k' rows,some rows2=>(T'=T/\k'=k/\rows2.all (fun r=>r.length==k)=true/\(rows.length+rows2.length)*bytes≤140737488355328)/\K (putd (put ρ t (.d (.sl rows))) dst (.own T k (rows++rows2))) σ
  | _,_=>False
 | .mks _ k xs=>match dh (xs.map (ev C ρ))with
  | some rows=>rows.all (fun r=>r.length==k)=true/\K (putd ρ dst (.d (.sl rows))) σ
  | none=>False
 | .mkso T k xs=>match dh (xs.map (ev C ρ))with
  | some rows=>rows.all (fun r=>r.length==k)=true/\K (putd ρ dst (.own T k rows)) σ
  | none=>False
 | .mkc T k bytes x=>match ev C ρ x with
  | .d (.lit (.int _ n))=>(0≤n/\n*bytes≤140737488355328)/\K (putd ρ dst (.own T k [])) σ
  | _=>False
 | .appv _ bytes z t y=>match nB (ev C ρ y)with
  | some src=>(0<src.length/\src.length=z.length)/\iB σ (get ρ t) src bytes z fun v σ'=>K (putd ρ dst v) σ'
  | none=>False
 | .mmk st=>K (putd ρ dst (.mp σ.length)) (σ++[[.mapc st []]])
 | .mst st x k v=>match jo st σ (ev C ρ x),nU st (ev C ρ k)with
  | some kv,some key=>K ρ (um σ st (nZ key (ev C ρ v).copy kv) (ev C ρ x))
  | _,_=>False
 | .pan x=>match ev C ρ x with
  | .iface t v=>Q (.panic (.iface t v)) ρ σ
  | _=>False
 | op=>match pv C op ρ σ with
  | some v=>K (putd ρ dst v) σ
  | none=>False
structure O where
 dst:Option Nat
 op:OP
 g:Option (Nat×Bool):=none
def bM(C:Cx):List O->ac->LLV->(AEx->ac->LLV->Prop)->Prop
 | [],ρ,σ,Q=>Q .normal ρ σ
 | o::r,ρ,σ,Q=>match o.g with
  | none=>cw C o.op o.dst ρ σ (fun ρ' σ'=>bM C r ρ' σ' Q) Q
  | some (t,want)=>match get ρ t with
   | .d (.lit (.bool b))=>(b=want->cw C o.op o.dst (put ρ t (.d (.lit (.bool want)))) σ (fun ρ' σ'=>bM C r ρ' σ' Q) Q)/\(b≠want->bM C r (putd (put ρ t (.d (.lit (.bool (!want))))) o.dst (.tup [])) σ Q)
   | .tup []=>bM C r (putd ρ o.dst (.tup [])) σ Q
   | _=>False
def ry:Nat->List X->List (Nat×Operand)->Bool
 | _,[],[]=>true
 | i,x::xs,(j,o)::r=>i==j&&okX x o&&ry (i+1) xs r
 | _,_,_=>false
def Tab.one(tab:Tab)(t:TypeId):Bool:=match tab t with|some i=>i.sz==1 && !i.agg|none=>false
def GN(tab:Tab)(op:OP)(dst:Option Nat)(o:Op):Bool:=
 match op,o with
 | .call f args,.call {callee:=.value (.func g),args:=args',argTypes:=_}=>f==g&&nr args args'.toList
 | .callv x args,.call {callee:=.value y,args:=args',argTypes:=_}=>okX x y&&nr args args'.toList
 | .calln f args,.call {callee:=.value (.func g),args:=args',argTypes:=_}=>f==g&&nr args args'.toList
 | .new T cs,.alloc T'=>T==T'&&(match tab T with|some i=>ux cs i.z.cells.toList|none=>false)&&dst.isSome
 | .box T x,.box T' y=>T==T'&&okX x y&&dst.isSome
 | .boxt T x,.box T' y=>T==T'&&okX x y&&dst.isSome
 | .sto k x y,.store t x' y'=>okX x x'&&okX y y'&&tab.sz t==some k&&dst.isNone
 | .stoo x t,.store t' x' y'=>okX x x'&&okX (.t t) y'&&tab.sz t'==some 1&&dst.isNone
 | .ldo x,.load t y=>okX x y&&tab.one t&&dst.isSome
 | .mvo t,.move y=>okX (.t t) y&&dst != some t&&dst.isSome
 | .mvo t,.assign y=>okX (.t t) y&&dst != some t&&dst.isSome
 | .nilo _ _,.move y=>okX (.k .nil) y
 | .nilo _ _,.assign y=>okX (.k .nil) y
 | .app T k bytes t y,.call {callee:=.builtin .append,args,argTypes}=>(match args.toList,argTypes.toList with
  | [s,y'],[t1,t2]=>okX (.t t) s&&okX y y'&&t1==t2&&tab.sliceOf t1==some T&&dst != some t&&dst.isSome&&(match tab T with|some i=>i.sz==k&&i.bytes==bytes&&decide (0<k)&&decide (0<bytes)|none=>false)
  | _,_=>false)
 | .mks T k xs,.buildSlice t len parts=>tab.sliceOf t==some T&&(match tab T with|some i=>i.sz==k&&decide (0<k)|none=>false)&&len==xs.length&&ry 0 xs parts.toList&&decide (len*k≤2^24)
 | .mkso T k xs,.buildSlice t len parts=>tab.sliceOf t==some T&&(match tab T with|some i=>i.sz==k&&decide (0<k)|none=>false)&&len==xs.length&&ry 0 xs parts.toList&&decide (len*k≤2^24)&&dst.isSome
 | .mkc T k bytes x,.makeSlice t (.const (.int _ 0)) y=>tab.sliceOf t==some T&&(match tab T with|some i=>i.sz==k&&i.bytes==bytes&&decide (0<bytes)|none=>false)&&okX x y&&dst.isSome
 | .appv T bytes z t y,.call {callee:=.builtin .append,args,argTypes}=>(match args.toList,argTypes.toList with
  | [s,y'],[t1,t2]=>okX (.t t) s&&(okX y y'&&(t1==t2&&(tab.sliceOf t1==some T&&(dst.isSome&&(z.all (fun x=>!x.isOwn)&&(match tab T with|some i=>i.sz==z.length&&(i.bytes==bytes&&(decide (0<bytes)&&ux z i.z.cells.toList))|none=>false))))))
  | _,_=>false)
 | .mmk _,.makeMap _ none=>dst.isSome
 | .mst st x k v,.mapUpdate t x' k' v'=>(okX x x'&&okX k k')&&(okX v v'&&(tab.mapK t st&&dst.isNone))
 | .mst st x k v,.insert t x' k' v'=>(okX x x'&&okX k k')&&(okX v v'&&(tab.mapK t st&&dst.isNone))
 | .pan x,.panic y=>okX x y
 | _,_=>false
def ba:OP->Bool
 | .mks .. | .mkso .. | .mkc .. | .mvo .. | .nilo .. | .app .. | .ldo .. | .new .. | .box .. | .boxt .. | .sto .. | .stoo .. | .call .. | .callv .. | .calln .. | .pan .. | .appv .. | .mmk .. | .mst .. => false
 | _=>true
def okO(tab:Tab)(n:Nat)(ops:Array Oper)(o:O)(o':Oper):Bool:=
 (if ba o.op then wC tab o.op o'.op o'.type&&o'.dst.isSome else GN tab o.op o'.dst o'.op)&&o.dst==o'.dst&&(match o'.dst with|some d=>decide (d<n)|none=>true) &&
   (match o.g,o'.guard with
   | none,none=>true
   | some (t,b),some (j,b')=>b==b'&&(match ops[j]? with|some q=>q.dst==some t|none=>false)
   | _,_=>false)
def eX(tab:Tab)(n:Nat)(ops:Array Oper):List O->List Oper->Bool
 | [],[]=>true
 | o::r,o'::r'=>okO tab n ops o o'&&eX tab n ops r r'
 | _,_=>false
inductive ExOK(M:ao)(bm:List Nat):AEx->Exit->Prop
 | normal:ExOK M bm .normal .normal
 | ret:ExOK M bm .ret .ret
 | exit (id:Nat):ExOK M bm (.exit id) (.exit id)
 | panic {v:V} {u:Value} (h:Rep M bm v u):ExOK M bm (.panic v) (.panic [{v:=u,recovered:=false}])
def g8(M:ao)(bm:List Nat)(pr:Prot)(w:World)(n:Nat)(K:ac->LLV->Prop)(a':Act)(w':World):Prop:=
 ∃M' bm' tk' ρ' σ',K ρ' σ'/\SRel M' bm' tk' pr ρ' σ' n a' w'/\Later M bm pr w M' bm' w'
def aY(M:ao)(bm:List Nat)(pr:Prot)(w:World)(n:Nat)(Q:AEx->ac->LLV->Prop)(e:Exit)(a':Act)(w':World):Prop:=
 ∃M' bm' tk' ρ' σ' x,Q x ρ' σ'/\ExOK M' bm' x e/\SRel M' bm' tk' pr ρ' σ' n a' w'/\Later M bm pr w M' bm' w'
theorem aY.trans{M M':ao}{bm bm':List Nat}{pr:Prot}{w w':World}{n:Nat}{Q:AEx->ac->LLV->Prop}{e:Exit}{a':Act}{w'':World}(hl:Later M bm pr w M' bm' w')(h:aY M' bm' pr w' n Q e a' w''):aY M bm pr w n Q e a' w'':=by
 obtain⟨M2,bm2,tk2,ρ2,σ2,x,h1,h2,h3,h4⟩:=h;exact⟨M2,bm2,tk2,ρ2,σ2,x,h1,h2,h3,hl.trans h4 (fun _ h=>h)⟩
section
variable {C : Cx} {M : ao} {bm : List Nat} {tk : be} {pr : Prot} {ρ : ac} {σ : LLV} {n : Nat} {a : Act} {w : World} {K : ac -> LLV -> Prop} {Q : AEx -> ac -> LLV -> Prop}
theorem cB{P:Program}{o:Oper}{a:Act}{w w':World}{v:Value}{next:Act->World->Prop}{R:Exit->Act->World->Prop}(h:(execOp a.eval o).run P w=.ok (.value v) w')(hn:next (a.put o.dst v) w'):o.wp P a w next R:=by
 unfold Oper.wp;rw[h];exact hn
theorem SRel.putd(h:SRel M bm tk pr ρ σ n a w){dst:Option Nat}(hd:∀d,dst=some d->d<n){x:V}{v:Value}(hv:Rep M bm x v)(hx:∀T k rows,x≠.own T k rows):SRel M bm tk pr (putd ρ dst x) σ n (a.put dst v) w:=by
 cases dst with
 | none=>exact h
 | some d=>exact h.puts (hd d rfl) hv hx
def prot(tk:be)(pr:Nat->Prop)(b:Nat):Prop:=pr b\/∃t,tk none t=some b
def noSlots(tk:be):be:=fun i j=>match i with|none=>none|some i=>tk (some i) j
theorem SRel.callee(h:SRel M bm tk pr ρ σ n a w):Inv M bm σ (noSlots tk) (prot tk pr) w:=by
 refine⟨h.inv.facts,h.inv.len,h.inv.box,fun b hb=>⟨(h.inv.free b hb).1,fun hp=>?_⟩,h.inv.bmnd,fun i j g hg=>?_,fun i j i' j' g h1 h2=>?_,fun b hb=>?_⟩
 .rcases hp with hp|⟨t,ht⟩
  .exact(h.inv.free b hb).2 hp
  .exact(h.inv.tok _ _ _ ht).2.1 hb
 .cases i with
  | none=>cases hg
  | some i=>
   obtain⟨k1,k2,k3⟩:=h.inv.tok (some i) j g hg;refine⟨k1,k2,fun hp=>?_⟩;rcases hp with hp|⟨t,ht⟩
   .exact k3 hp
   .have:=h.inv.inj _ _ _ _ _ hg ht;simp at this
 .cases i with
  | none=>cases h1
  | some i=>cases i' with
   | none=>cases h2
   | some i'=>exact h.inv.inj _ _ _ _ _ h1 h2
 .rcases hb with hb|⟨t,ht⟩
  .exact h.inv.prlt b hb
  .exact(h.inv.tok _ _ _ ht).1
theorem SRel.called{M':ao}{bm':List Nat}{tk':be}{σ':LLV}{w':World}(h:SRel M bm tk pr ρ σ n a w)(hi:Inv M' bm' σ' tk' (prot tk pr) w')(hl:Later M bm (prot tk pr) w M' bm' w'):
 (∃tk2,SRel M' bm' tk2 pr ρ σ' n a w')/\(∀{dst:Option Nat} {v:V} {u:Value},(∀d,dst=some d->d<n)->CellOK M' bm' w' v u (tk' none 0)->∃tk2,SRel M' bm' tk2 pr (Go.Proofs.YtnhphlmblenapaaGreatDoor.putd ρ dst v) σ' n (a.put dst u) w')/\Later M bm pr w M' bm' w':=by
 have hl2:Later M bm pr w M' bm' w':=⟨hl.le,hl.pre,fun b hb=>hl.keep b (.inl hb),fun b hb=>hl.facts b (.inl hb),hl.os,hl.tape,hl.output,hl.size⟩
 have hkeep:∀t,CellOK M' bm' w' (get ρ t) (a.tmps.getD t undef) (tk none t):=fun t=>⟨hl.rep (h.slots t).rep,fun T k rows e=>((h.slots t).own T k rows e).keep fun g hg=>⟨hl.keep g (.inr ⟨t,hg⟩),hl.facts g (.inr ⟨t,hg⟩)⟩⟩
 have main:∀(q:Nat->Option Nat),(∀t g,q t=some g->tk none t=some g\/(tk' none 0=some g))->(∀t t' g,q t=some g->q t'=some g->t=t')->
  Inv M' bm' σ' (fun i j=>match i with|none=>q j|some i=>tk' (some i) j) pr w':=by
  intro q hq hqi
  have tokg:∀t g,q t=some g->g<w'.heap.size/\g∉bm'/\¬pr g/\∀i j,tk' (some i) j≠some g:=by
   intro t g hg;rcases hq t g hg with h1|h1
   .refine⟨P5 (h.inv.tok _ _ _ h1).1 hl.size,fun hb=>(hi.free g hb).2 (.inr ⟨t,h1⟩),(h.inv.tok _ _ _ h1).2.2,fun i j hij=>(hi.tok _ _ _ hij).2.2 (.inr ⟨t,h1⟩)⟩
   .obtain⟨k1,k2,k3⟩:=hi.tok _ _ _ h1;exact⟨k1,k2,fun hp=>k3 (.inl hp),fun i j hij=>by have:=hi.inj _ _ _ _ _ hij h1;simp at this⟩
  refine⟨hi.facts,hi.len,hi.box,fun b hb=>⟨(hi.free b hb).1,fun hp=>(hi.free b hb).2 (.inl hp)⟩,hi.bmnd,fun i j g hg=>?_,fun i j i' j' g h1 h2=>?_,fun b hb=>hi.prlt b (.inl hb)⟩
  .cases i with
   | none=>obtain⟨k1,k2,k3,-⟩:=tokg j g hg;exact⟨k1,k2,k3⟩
   | some i=>obtain⟨k1,k2,k3⟩:=hi.tok (some i) j g hg;exact⟨k1,k2,fun hp=>k3 (.inl hp)⟩
  .cases i with
   | none=>cases i' with
    | none=>exact⟨rfl,hqi _ _ _ h1 h2⟩
    | some i'=>exact absurd h2 ((tokg j g h1).2.2.2 i' j')
   | some i=>cases i' with
    | none=>exact absurd h1 ((tokg j' g h2).2.2.2 i j)
    | some i'=>exact hi.inj _ _ _ _ _ h1 h2
 have slotinj:∀t t' g,tk none t=some g->tk none t'=some g->t=t':=fun t t' g h1 h2=>(h.inv.inj _ _ _ _ _ h1 h2).2
 have old:SRel M' bm' (fun i j=>match i with|none=>tk none j|some i=>tk' (some i) j) pr ρ σ' n a w':=
  ⟨main (tk none) (fun t g hg=>.inl hg) slotinj,h.defers,h.size,hkeep⟩
 refine⟨⟨_,old⟩,fun{dst v u} hd hv=>?_,hl2⟩;cases dst with
 | none=>exact⟨_,old⟩
 | some d=>
  have hnot:∀t g,tk none t=some g->tk' none 0≠some g:=fun t g h1 h2=>(hi.tok _ _ _ h2).2.2 (.inr ⟨t,h1⟩);refine⟨_,main (fun t=>if t=d then tk' none 0 else tk none t) (fun t g hg=>?_) (fun t t' g h1 h2=>?_),h.defers,by simp[Act.put,h.size],fun t=>?_⟩
  .split at hg
   .exact .inr hg
   .exact .inl hg
  .split at h1<;>split at h2
   .omega
   .exact absurd h1 (hnot _ _ h2)
   .exact absurd h2 (hnot _ _ h1)
   .exact slotinj _ _ _ h1 h2
  .unfold Go.Proofs.YtnhphlmblenapaaGreatDoor.putd;simp only;rw[bg,f5 _ _ _ _ (by rw[h.size];exact hd d rfl)];split
   .exact hv
   .exact hkeep t
theorem pB{xs:List X}{os:List Operand}(hG:C.glob M pr w)(h:SRel M bm tk pr ρ σ n a w)(hx:nr xs os=true):(os.map a.eval).length=(xs.map fun x=>(ev C ρ x).lend).length/\
 ∀i (h:i<(xs.map fun x=>(ev C ρ x).lend).length) (h':i<(os.map a.eval).length),Rep M bm (xs.map fun x=>(ev C ρ x).lend)[i] (os.map a.eval)[i]:=by
 obtain⟨h1,h2⟩:=eW hG h hx;refine⟨by simpa using h1,fun i h3 h4=>?_⟩;have:=h2 i (by simpa using h3) h4;simp only[Px]at this ⊢;exact this.lend
theorem i8{f:FuncId}{args:List V}{vs:List Value}{o:Oper}(hG:C.glob M pr w)(h:SRel M bm tk pr ρ σ n a w)(hd:∀d,o.dst=some d->d<n)(hl:vs.length=args.length)(hr:∀i (h:i<args.length) (h':i<vs.length),Rep M bm args[i] vs[i])
 (hf:Fun C f args σ fun o' σ'=>match o' with | .ret v=>K (putd ρ o.dst v) σ' | .panic v=>Q (.panic v) ρ σ')(he:∀(w:World),(execOp a.eval o).run C.P w=(callFunc f vs.toArray).run C.P w):
 o.wp C.P a w (g8 M bm pr w n K) (aY M bm pr w n Q):=by
 unfold Oper.wp;rw[he,hf.1];simp only[Oper.upon_enter];refine(hf.2 M bm (noSlots tk) (prot tk pr) w vs (hG.prot fun _ hb=>.inl hb) h.callee (fun _=>rfl) hl hr).mono ?_;rintro e w' ⟨M',bm',tk',σ',out,hq,hi,hla,hout⟩;obtain⟨⟨tk2,h2⟩,h3,h4⟩:=h.called hi hla;cases out with
 | ret v=>
  obtain⟨u,rfl,hc⟩:=hout.ret v rfl;obtain⟨tk3,h5⟩:=h3 hd hc;exact⟨M',bm',tk3,_,σ',hq,h5,h4⟩
 | panic v=>
  obtain⟨u,rfl,hc⟩:=hout.panic v rfl;exact⟨M',bm',tk2,ρ,σ',_,hq,.panic hc,h2,h4⟩
theorem DK{xs:List X}{os:List Operand}(hG:C.glob M pr w)(h:SRel M bm tk pr ρ σ n a w)(hx:nr xs os=true):(os.map a.eval).length=(xs.map fun x=>(ev C ρ x).copy).length/\
 ∀i (h:i<(xs.map fun x=>(ev C ρ x).copy).length) (h':i<(os.map a.eval).length),Rep M bm (xs.map fun x=>(ev C ρ x).copy)[i] (os.map a.eval)[i]:=by
 obtain⟨h1,h2⟩:=eW hG h hx;refine⟨by simpa using h1,fun i h3 h4=>?_⟩;have:=h2 i (by simpa using h3) h4;simp only[Px]at this ⊢;exact this.copy
end
end Go.Proofs.YtnhphlmblenapaaGreatDoor
namespace Go.Proofs.YtnhphlmblenapaaGreatDoor
open Go.RowKit
section
variable {C : Cx} {M : ao} {bm : List Nat} {tk : be} {pr : Prot} {ρ : ac} {σ : LLV} {n : Nat} {a : Act} {w : World} {K : ac -> LLV -> Prop} {Q : AEx -> ac -> LLV -> Prop}
theorem sW{x:V}{y:D}(hy:x.plain=some y){v:Value}(hx:Rep M bm x v):DRep M y v:=by
 unfold V.plain at hy;split at hy
 .cases hy;cases hx with|d h=>exact h
 .cases hy;cases hx with|own h=>exact h
 .cases hy;cases hx with|nil=>exact DRep.nil M
 .cases hy
theorem mi:∀{xs:List V} {ds:List D} {vs:List Value},io xs=some ds->vs.length=xs.length->(∀i (h:i<xs.length) (h':i<vs.length),Rep M bm xs[i] vs[i])->ds.length=xs.length/\∀i (h:i<ds.length) (h':i<vs.length),DRep M ds[i] vs[i]
 | [],ds,vs,h,hl,hr=>by cases h;exact⟨rfl,fun i h=>by simp at h⟩
 | x::xs,ds,v::vs,h,hl,hr=>by
  unfold io at h;split at h
  .rename_i d l hd hl2;cases h;obtain⟨h1,h2⟩:=mi hl2 (by simpa using hl) (fun i h3 h4=>hr (i+1) (by simpa using h3) (by simpa using h4));refine⟨by simp[h1],fun i h3 h4=>?_⟩;cases i with
   | zero=>exact sW hd (hr 0 (by simp) (by simp))
   | succ i=>exact h2 i (by simpa using h3) (by simpa using h4)
  .cases h
 | _::_,_,[],_,hl,_=>by simp at hl
theorem mC:∀{xs:List V} {rows:LLD} {vs:List Value} {k:Nat},dh xs=some rows->vs.length=xs.length->(∀i (h:i<xs.length) (h':i<vs.length),Rep M bm xs[i] vs[i])->(∀r∈rows,r.length=k)->
 rows.length=xs.length/\(∀v∈vs,v.cells.size=k)/\(∀v∈vs,∀u∈v.cells,u.oneCell'=true)/\∀i j (hi:i<rows.length) (hj:j<rows[i].length) (hv:i<vs.length) (hc:j<vs[i].cells.size),DRep M rows[i][j] vs[i].cells[j]
 | [],rows,vs,k,h,hl,hr,hk=>by
  cases h;have:vs=[]:=List.eq_nil_of_length_eq_zero (by simpa using hl);subst this;exact⟨rfl,by simp,by simp,fun i j hi=>by simp at hi⟩
 | x::xs,rows,v::vs,k,h,hl,hr,hk=>by
  unfold dh at h;split at h
  .rename_i d l hd hl2;cases h;obtain⟨h1,h2,h3,h4⟩:=mC hl2 (by simpa using hl) (fun i h3 h4=>hr (i+1) (by simpa using h3) (by simpa using h4)) (fun r hr=>hk r (by simp[hr]));have hx:=hr 0 (by simp) (by simp);simp only[Pu]at hx;have hnt:∀vs,x≠.tup vs:=fun vs e=>by subst e;simp[V.cells,V.copy,io,V.plain]at hd
   have hnj:x≠.junk:=fun e=>by subst e;simp[V.cells,V.copy,io,V.plain]at hd
   obtain⟨c1,c2⟩:=hx.cells hnt hnj;obtain⟨p1,p2⟩:=mi (vs:=v.cells.toList) hd (by simpa using c1) (fun i g1 g2=>by simpa using(c2 i g1 (by simpa using g2)).1);refine⟨by simp[h1],fun u hu=>?_,fun u hu=>?_,fun i j hi hj hv hc=>?_⟩
   .rcases List.mem_cons.1 hu with rfl|hu
    .have:=hk d (by simp);omega
    .exact h2 u hu
   .rcases List.mem_cons.1 hu with rfl|hu
    .intro y hy;obtain⟨i,hi,rfl⟩:=Array.getElem_of_mem hy;exact(c2 i (by omega) hi).2.1
    .exact h3 u hu
   .cases i with
    | zero=>have:=p2 j hj (by simpa using hc);simpa using this
    | succ i=>exact h4 i j (by simpa using hi) hj (by simpa using hv) hc
  .cases h
 | _::_,_,[],_,_,hl,_,_=>by simp at hl
theorem tF(k:Nat):∀(vs:List Value) (i:Nat) (cs:List Value),(∀v∈vs,v.cells.size=k)->(i+vs.length)*k≤cs.length->
 Instr.fill (fun i=>some (i*k,k)) cs.toArray (vs.zipIdx i |>.map fun(v,i)=>(i,v))=some (cs.take (i*k)++(vs.map fun v=>v.cells.toList).flatten++cs.drop ((i+vs.length)*k)).toArray
 | [],i,cs,_,_=>by simp[Instr.fill]
 | v::vs,i,cs,hk,hl=>by
  have hv:=hk v (by simp)
  have hle:i*k+k≤cs.length:=by
   have:(i+1)*k≤(i+(v::vs).length)*k:=P3 _ (by simp);rw[P7,Qc]at this;omega
  simp only[PW,Pz,Instr.fill];rw[if_neg (by simp[hv];omega)];have hf:=nh v.cells.toList cs.toArray (i*k) 0 (by simp[hv];omega)
  have hz:(v.cells.zipIdx.foldl (fun cs (p:Value×Nat)=>cs.setIfInBounds (i*k+p.2) p.1) cs.toArray)=(cs.take (i*k)++v.cells.toList++cs.drop (i*k+k)).toArray:=by
   rw[<-Pj,Pi,hf];simp[hv]
  have hbig:(i+1+vs.length)*k≤(cs.take (i*k)++v.cells.toList++cs.drop (i*k+k)).length:=by
   have e1:i+(v::vs).length=i+1+vs.length:=by simp;omega
   rw[e1]at hl;simp[hv];omega
  rw[hz,tF k vs (i+1) _ (fun u hu=>hk u (by simp[hu])) hbig];congr 2;have e1:(i+1)*k=i*k+k:=by rw[P7,Qc]
  have e2:i+1+vs.length=i+(v::vs).length:=by simp;omega
  have hlen:(cs.take (i*k)++v.cells.toList).length=i*k+k:=by simp[hv];omega
  rw[e1,e2,List.take_append_of_le_length (by omega),PM (by omega),List.drop_append]
  have e3:List.drop ((i+(v::vs).length)*k) (cs.take (i*k)++v.cells.toList)=[]:=List.drop_of_length_le (by
   rw[hlen,<-e1];exact P3 _ (by simp))
  rw[e3,hlen,List.drop_drop,List.nil_append]
  have e4:i*k+k+((i+(v::vs).length)*k-(i*k+k))=(i+(v::vs).length)*k:=by
   rw[<-e1];have:(i+1)*k≤(i+(v::vs).length)*k:=P3 _ (by simp);omega
  rw[e4];simp
theorem nN(hG:C.glob M pr w)(h:SRel M bm tk pr ρ σ n a w):∀{i:Nat} {xs:List X} {qs:List (Nat×Operand)},ry i xs qs=true->
 ∃os:List Operand,nr xs os=true/\(qs.map fun(i,x)=>(i,a.eval x))=((os.map a.eval).zipIdx i).map fun(v,i)=>(i,v)
 | _,[],[],_=>⟨[],rfl,rfl⟩
 | i,x::xs,(j,o)::qs,hx=>by
  simp only[ry,Pl,beq_iff_eq]at hx;obtain⟨⟨rfl,h1⟩,h2⟩:=hx;obtain⟨os,h3,h4⟩:=nN hG h h2;exact⟨o::os,by simp[nr,h1,h3],by simp[h4]⟩
 | _,[],_::_,hx=>by cases hx
 | _,_::_,[],hx=>by cases hx
theorem rg(hG:C.glob M pr w)(h:SRel M bm tk pr ρ σ n a w){T k t len:Nat}{xs:List X}{parts:Array (Nat×Operand)}{rows:LLD}(ht:C.tab.sliceOf t=some T)(hT:(match C.tab T with|some i=>i.sz==k&&decide (0<k)|none=>false)=true)
 (hlen:len=xs.length)(hs:ry 0 xs parts.toList=true)(hb:len*k≤2^24)(hr:dh (xs.map (ev C ρ))=some rows)(hk:∀r∈rows,r.length=k):
 ∃v w' M',(Instr.buildSlice t len (parts.map fun(i,x)=>(i,a.eval x))).run C.P w=.ok v w'/\DRep M' (.sl rows) v/\SRel M' bm tk pr ρ σ n a w'/\Later M bm pr w M' bm w'/\
  v.ownBlock=some w.heap.size/\w.heap.size<w'.heap.size/\(∃xs,w'.ownsRow 0 T k v rows.length xs)/\∀o x,M' w.heap.size o=some x->o<rows.length*k:=by
 obtain⟨os,ho,hq⟩:=nN hG h hs;obtain⟨l1,l2⟩:=eW hG h ho;obtain⟨r1,r2,r3,r4⟩:=mC hr l1 l2 hk;split at hT
 .rename_i i hi;simp only[Pl,beq_iff_eq,decide_eq_true_eq]at hT;obtain⟨rfl,hk0⟩:=hT;obtain⟨-,inf,hinf,hsz,-,hz,hzc⟩:=C.ok T i hi;have hu:=Tab.slice_sound ht;have hvl:(os.map a.eval).length=len:=by rw[l1,hlen];simp
  have hrl:rows.length=len:=by rw[r1,hlen];simp
  have hrun:(Instr.buildSlice t len (parts.map fun(i,x)=>(i,a.eval x))).run C.P w=.ok (.slice (some ⟨w.heap.size,0,none⟩) len len) (w.alloc (.cells ((os.map a.eval).map fun v=>v.cells.toList).flatten.toArray T)):=by
   have hfill:∀z:Array Value,z.size=len*i.sz->Instr.fill (fun j=>some (j*i.sz,i.sz)) z (parts.map fun(i,x)=>(i,a.eval x)).toList=some ((os.map a.eval).map fun v=>v.cells.toList).flatten.toArray:=by
    intro z hzl;have:=tF i.sz (os.map a.eval) 0 z.toList r2 (by rw[hvl,P4];simp;omega);rw[Pf,hq];rw[Array.toArray_toList]at this;rw[this,hvl,P4,<-hzl];simp
   generalize parts.map (fun(i,x)=>(i,a.eval x))=ps at hfill ⊢;generalize (((os.map a.eval).map fun v=>v.cells.toList).flatten.toArray)=out at hfill ⊢;have hnb:¬(len*i.sz>2^24):=by omega
   have hsize:(sizeOf T).run C.P w=.ok i.sz w:=by simp[sizeOf,typeInfo,hinf,hsz]
   have hzero:(zeroValue T).run C.P w=.ok i.z w:=by simp[zeroValue,typeInfo,hinf,hz]
   unfold Instr.buildSlice;simp only[Sem.run_bind,run_underlying hu,Result.andThen_ok,hsize];rw[if_neg hnb];by_cases h0:len*i.sz=0
   .rw[if_pos h0];simp only[Sem.run_bind,Sem.run_pure,Result.andThen_ok];rw[hfill _ (by simp)];rfl
   .rw[if_neg h0];simp only[Sem.run_bind,hzero,Sem.run_pure,Result.andThen_ok];rw[hfill _ (by simp)];rfl
  have hx:=cO.alloc w (.cells ((os.map a.eval).map fun v=>v.cells.toList).flatten.toArray T);have hnew:=heap_alloc_new w (.cells ((os.map a.eval).map fun v=>v.cells.toList).flatten.toArray T);generalize hws:(os.map a.eval).map (fun v=>v.cells.toList)=ws at hrun hx hnew
  have hwl:∀c∈ws,c.length=i.sz:=fun c hc=>by
   rw[<-hws]at hc;obtain⟨v,hv,rfl⟩:=List.mem_map.1 hc;simpa using r2 v hv
  have hwn:ws.length=rows.length:=by rw[<-hws];simp;rw[r1];simpa using l1
  have hM':∃M':ao,M'=fun b o=>if b=w.heap.size then ws.flatten[o]? else M b o:=⟨_,rfl⟩
  obtain⟨M',hM'⟩:=hM';have hat:∀o,M' w.heap.size o=ws.flatten[o]? := fun o=>by rw[hM'];simp
  have hoth:∀b,b≠w.heap.size->∀o,M' b o=M b o:=fun b hb o=>by rw[hM'];simp[hb]
  have hle:M.le M':=fun b o x hx=>by rw[hoth b (fun e=>by have:=h.inv.facts.lt hx;omega)];exact hx
  obtain⟨g1,g2⟩:=h.grow (M':=M') hx hle (fun b o x hm=>by
   by_cases e:b=w.heap.size
   .subst e;rw[hat]at hm;unfold World.cell?;simp only;rw[hnew];simpa using hm
   .rw[hoth b e]at hm;have:=h.inv.facts b o x hm;rw[World.cell?_of_block (w:=w) (hx.block b (fP this))];exact this) (fun b hb o=>hoth b (by omega) o)
  have hml:len≤maxLen:=by unfold maxLen;have:len*1≤len*i.sz:=P8 _ hk0;omega
  have hfl:ws.flatten.length=rows.length*i.sz:=by
   rw[List.length_flatten,<-hwn];clear hM' hat hoth hle g1 g2 hrun hx hnew hws hwn
   induction ws with
   | nil=>simp
   | cons c r ih=>simp only[Pz,List.sum_cons,PY,ih (fun d hd=>hwl d (by simp[hd])),hwl c (by simp),P7];omega
  refine⟨_,_,M',hrun,?_,g1,g2,rfl,(Array.getElem?_eq_some_iff.1 hnew).1,⟨ws.flatten,hfl,.inr ⟨_,len,_,by rw[hrl],Qa _,hnew,by omega,hml,by simp only[PG];rw[hfl,hrl],by simp only[List.toList_toArray];exact PM (by omega)⟩⟩,fun o x hm=>?_⟩
  case refine_2=>
   rw[hat]at hm;have:=(List.getElem?_eq_some_iff.1 hm).1;omega
  rw[<-hrl]
  have hfa:∀(r:List (List Value)) (q j:Nat) (hq:q<r.length),(∀c∈r,c.length=i.sz)->j<i.sz->r.flatten[q*i.sz+j]? = r[q][j]? := by
   intro r
   induction r with
   | nil=>intro q j hq;simp at hq
   | cons c r ih=>
    intro q j hq hc hj;have hcl:=hc c (by simp);cases q with
    | zero=>rw[PV,Qe,P4,Pp (by omega)];rfl
    | succ q=>
     rw[PV,Pq (by rw[hcl,P7];omega),hcl,show(q+1)*i.sz+j-i.sz=q*i.sz+j by rw[P7];omega];exact ih q j (by simpa using hq) (fun d hd=>hc d (by simp[hd])) hj
  refine oQ hk ws.flatten hfl (fun j u hu=>by rw[P4,hat];exact hu) (fun q j hq hj hv=>?_) (P6 _) (by unfold maxLen;rw[hrl];have:len*1≤len*i.sz:=P8 _ hk0;omega);have hjk:j<i.sz:=by rw[<-hk _ (Pr hq)];exact hj
  have hqw:q<ws.length:=by omega
  have e1:=hfa ws q j hqw hwl hjk;rw[Po hv]at e1;have hqv:q<(os.map a.eval).length:=by rw[hvl];omega
  have hcj:j<((os.map a.eval)[q]).cells.size:=by rw[r2 _ (Pr hqv)];exact hjk
  have e2:ws[q][j]? = some ((os.map a.eval)[q]).cells[j]:=by
   have:ws[q]=((os.map a.eval)[q]).cells.toList:=by subst hws;simp
   rw[this,Pd,Pb hcj]
  rw[e2]at e1;rw[Option.some.inj e1];exact(r4 q j hq hj hqv hcj).mono hle
 .cases hT
theorem SRel.lift(h:SRel M bm tk pr ρ σ n a w)(hK:K ρ σ):g8 M bm pr w n K a w:=⟨M,bm,tk,ρ,σ,hK,h,Later.refl _ _ _ _⟩
theorem SRel.putNil(h:SRel M bm tk pr ρ σ n a w){d:Nat}(hd:d<n){T k:Nat}:SRel M bm tk pr (put ρ d (.own T k [])) σ n (a.put (some d) (.slice none 0 0)) w:=by
 refine⟨h.inv,h.defers,by simp[Act.put,h.size],fun t=>?_⟩;rw[bg,f5 _ _ _ _ (by rw[h.size];exact hd)];split
 .exact⟨.own (DRep.nil M),fun T k rows e=>by cases e;exact .inl ⟨rfl,rfl⟩⟩
 .exact h.slots t
theorem SRel.ownNew{M':ao}{w':World}(h0:SRel M bm tk pr ρ σ n a w)(h:SRel M' bm tk pr ρ σ n a w'){d:Nat}(hd:d<n){T k:Nat}{rows:LLD}{v:Value}(hg:v.ownBlock=some w.heap.size)(hlt:w.heap.size<w'.heap.size)
 (hrep:DRep M' (.sl rows) v)(hr:∀r∈rows,r.length=k)(ho:∃xs,w'.ownsRow 0 T k v rows.length xs)(hf:∀o x,M' w.heap.size o=some x->o<rows.length*k):
 ∃tk',SRel M' bm tk' pr (put ρ d (.own T k rows)) σ n (a.put (some d) v) w':=by
 have old:∀i j g,tk i j=some g->g<w.heap.size:=fun i j g hij=>(h0.inv.tok _ _ _ hij).1;refine⟨fun i j=>if i=none/\j=d then some w.heap.size else tk i j,⟨h.inv.facts,h.inv.len,fun i b cs hi hc=>?_,h.inv.free,h.inv.bmnd,fun i j g hij=>?_,fun i j i' j' g h3 h4=>?_,h.inv.prlt⟩,h.defers,by simp[Act.put,h.size],fun t=>?_⟩
 .rcases h.inv.box i b cs hi hc with⟨vs,T',q1,q2,q3⟩|q1;case inr=>exact .inr q1
  exact .inl ⟨vs,T',q1,q2,fun j k1 k2=>by simpa using q3 j k1 k2⟩
 .split at hij
  .cases hij;exact⟨hlt,fun hb=>by have:=h0.inv.bm_lt _ hb;omega,fun hp=>by have:=h0.inv.prlt _ hp;omega⟩
  .exact h.inv.tok _ _ _ hij
 .split at h3<;>split at h4
  .rename_i e1 e2;exact⟨by rw[e1.1,e2.1],by rw[e1.2,e2.2]⟩
  .cases h3;have:=old _ _ _ h4;omega
  .cases h4;have:=old _ _ _ h3;omega
  .exact h.inv.inj _ _ _ _ _ h3 h4
 .rw[bg,f5 _ _ _ _ (by rw[h.size];exact hd)];by_cases e:t=d
  .subst e;simp only[if_true,true_and];obtain⟨xs,ho⟩:=ho;exact⟨.own hrep,fun T2 k2 rows2 e=>by cases e;exact .inr ⟨_,xs,rfl,hg,hr,ho,hf⟩⟩
  .simp only[e,and_false,if_false];exact h.slots t
theorem bO(hG:C.glob M pr w)(h:SRel M bm tk pr ρ σ n a w){ops:Array Oper}{o:O}{o':Oper}(hok:okO C.tab n ops o o'=true)(hr:cw C o.op o.dst ρ σ K Q):
 o'.wp C.P a w (g8 M bm pr w n K) (aY M bm pr w n Q):=by
 unfold okO at hok;simp only[Pl,beq_iff_eq]at hok;obtain⟨⟨⟨hop,hdst⟩,hdn⟩,-⟩:=hok;rw[hdst]at hr;have hd:∀d,o'.dst=some d->d<n:=fun d e=>by rw[e]at hdn;simpa using hdn
 by_cases hp:ba o.op=true
 .rw[if_pos hp]at hop;simp only[Pl]at hop
  obtain⟨v,hpv,hK⟩:∃v,pv C o.op ρ σ=some v/\K (Go.Proofs.YtnhphlmblenapaaGreatDoor.putd ρ o'.dst v) σ:=by
   unfold cw at hr;cases hop':o.op<;>rw[hop']at hp hr<;>first|(cases hp;done)|skip
   all_goals
    simp only at hr;split at hr
    .rename_i v hv;exact⟨v,hv,hr⟩
    .exact hr.elim
  obtain⟨u,h1,h2,h3⟩:=C2 hG h hop.1 hpv;exact cB h1 ((h.putd hd h2 h3).lift hK)
 .rw[if_neg hp]at hop;clear hdn hdst;obtain⟨dst,oo,type,pos,after,guard⟩:=o';simp only at hop hr hd;generalize o.op=op at hop hr hp;unfold GN at hop;split at hop;all_goals unfold cw at hr
  all_goals simp only at hr
  all_goals try simp only[Pl,beq_iff_eq]at hop
  .rename_i f args g args' ty;obtain⟨rfl,h1⟩:=hop;obtain⟨l1,l2⟩:=pB hG h h1;refine i8 hG h hd l1 l2 hr (fun w=>?_);have e9:(args'.toList.map a.eval).toArray=args'.map a.eval:=by rw[<-Pf]
   rw[e9];simp[execOp,resolve,Deferred.ofValue,invoke,Act.eval]
  .rename_i x args y args' ty;obtain⟨h0,h1⟩:=hop;have hx:=ay hG h h0;generalize ev C ρ x=z at hr hx;cases z<;>simp only at hr<;>first|exact hr.elim|skip
   .rename_i f cap;generalize hv:a.eval y=v at hx;cases hx with
    | @fn _ _ vs hl hh=>
    obtain⟨l1,l2⟩:=pB hG h h1;refine i8 (vs:=args'.toList.map a.eval++vs) hG h hd (by simp only[Pt,l1,hl]) (fun i g1 g2=>?_) hr (fun w=>?_)
    .by_cases hi:i<(args.map fun x=>(ev C ρ x).lend).length
     .simp only[Pw hi,Pw (show i<(args'.toList.map a.eval).length by rw[l1];exact hi)];exact l2 i hi (by rw[l1];exact hi)
     .have hi':(args.map fun x=>(ev C ρ x).lend).length≤i:=by omega
      simp only[Pv hi',Pv (show(args'.toList.map a.eval).length≤i by rw[l1];exact hi'),l1];exact hh _ _ _
    .have e9:(args'.toList.map a.eval++vs).toArray=args'.map a.eval++vs.toArray:=by rw[<-Pa];simp
     rw[e9];simp[execOp,resolve,hv,Deferred.ofValue,invoke]
   .rename_i f first
    generalize hv:a.eval y=v at hx;cases hx with
    | @bnd _ _ vs hl hh=>
    obtain⟨l1,l2⟩:=pB hG h h1;refine i8 (vs:=vs++args'.toList.map a.eval) hG h hd (by simp only[Pt,l1,hl]) (fun i g1 g2=>?_) hr (fun w=>?_)
    .by_cases hi:i<first.length
     .simp only[Pw hi,Pw (show i<vs.length by rw[hl];exact hi)];exact hh i hi (by rw[hl];exact hi)
     .have hi':first.length≤i:=by omega
      simp only[Pv hi',Pv (show vs.length≤i by rw[hl];exact hi'),hl];exact l2 _ _ _
    .have e9:(vs++args'.toList.map a.eval).toArray=vs.toArray++args'.map a.eval:=by rw[<-Pa];simp
     rw[e9];simp[execOp,resolve,hv,Deferred.ofValue,invoke]
  .rename_i f args g args' ty;obtain⟨rfl,h1⟩:=hop;obtain⟨l1,l2⟩:=DK hG h h1;refine i8 hG h hd l1 l2 hr (fun w=>?_);have e9:(args'.toList.map a.eval).toArray=args'.map a.eval:=by rw[<-Pf]
   rw[e9];simp[execOp,resolve,Deferred.ofValue,invoke,Act.eval]
  .rename_i T cs T';obtain⟨⟨rfl,h1⟩,h2⟩:=hop;obtain⟨d,rfl⟩:=Option.isSome_iff_exists.1 h2;split at h1
   .rename_i i hi;obtain⟨-,inf,hinf,hs,-,hz,-⟩:=C.ok T i hi;obtain⟨z1,z2⟩:=gZ (M:=M) (bm:=bm) h1;obtain⟨g1,g2⟩:=h.push (d:=d) (hd d rfl) (T:=T) (vs:=i.z.cells) (cs:=cs) (by simpa using z1) (fun j k1 k2=>by have:=z2 j k1 (by simpa using k2);rw[Pe]at this;exact this);refine cB (v:=.pointer (some ⟨w.heap.size,0,none⟩)) (w':=w.alloc (.cells i.z.cells T)) ?_ ⟨M,_,tk,_,_,hr,g1,g2⟩;have hzero:(zeroValue T).run C.P w=.ok i.z w:=by simp[zeroValue,typeInfo,hinf,hz]
    simp[execOp,Instr.alloc,hzero,newVar,newRow]
   .cases h1
  .rename_i T x T' y;obtain⟨⟨rfl,h1⟩,h2⟩:=hop;obtain⟨d,rfl⟩:=Option.isSome_iff_exists.1 h2;obtain⟨hb,hr⟩:=hr;have hx:=ay hG h h1;have hnt:∀vs,ev C ρ x≠.tup vs:=fun vs e=>by rw[e]at hb;cases hb
   have hnj:ev C ρ x≠.junk:=fun e=>by rw[e]at hb;cases hb
   obtain⟨c1,c2⟩:=hx.cells hnt hnj;obtain⟨g1,g2⟩:=h.push (d:=d) (hd d rfl) (T:=T) c1 (fun j k1 k2=>⟨(c2 j k1 k2).1,(c2 j k1 k2).2.1,fun T k rows e=>absurd e ((c2 j k1 k2).2.2 T k rows)⟩);refine cB (v:=.pointer (some ⟨w.heap.size,0,none⟩)) (w':=w.alloc (.cells (a.eval y).cells T)) ?_ ⟨M,_,tk,_,_,hr,g1,g2⟩;simp[execOp,Instr.box,newVar,newRow]
  .rename_i T x T' y;obtain⟨⟨rfl,h1⟩,h2⟩:=hop;obtain⟨d,rfl⟩:=Option.isSome_iff_exists.1 h2;have hx:=ay hG h h1;unfold tyT at hr;split at hr
   .rename_i k e;rw[e]at hx
    obtain⟨hv,hf⟩:a.eval y=.agg #[.pointer none,.slice none 0 0,.int .i64 k]/\c7 (.int .i64 k):=by
     generalize a.eval y=v at hx;cases hx with
     | @agg _ vs hl hh _=>
     match vs,hl with
     | [v0,v1,v2],_=>
     have g0:=hh 0 (by simp) (by simp);have g1:=hh 1 (by simp) (by simp);have g2:=hh 2 (by simp) (by simp);simp only[Pu,List.getElem_cons_succ]at g0 g1 g2;obtain⟨rfl,hf⟩:=Rep.int_inv g2;cases g0 with
     | d g0=>cases g0;cases g1;exact⟨rfl,hf⟩
    obtain⟨g1,g2⟩:=h.pushTy T hf (d:=d) (hd d rfl);refine cB (v:=.pointer (some ⟨w.heap.size,0,none⟩)) (w':=w.alloc (.cells #[.pointer none,.slice none 0 0,.int .i64 k] T)) ?_ ⟨M,_,tk,_,_,hr,g1,g2⟩;simp[execOp,Instr.box,newVar,newRow,hv,Value.cells]
   .cases hr
  .rename_i k x y t x' y';obtain⟨⟨⟨h1,h2⟩,h3⟩,h4⟩:=hop;have hx:=ay hG h h1;have hy:=ay hG h h2;generalize ev C ρ x=z at hr hx;cases z<;>simp only at hr<;>first|exact hr.elim|skip
   rename_i i off;split at hr
   .rename_i cs hcs;obtain⟨⟨b1,b2,b3,bn⟩,hr⟩:=hr;have hnt:∀vs,ev C ρ y≠.tup vs:=fun vs e=>by rw[e]at b1;cases b1
    have hnj:ev C ρ y≠.junk:=fun e=>by rw[e]at b1;cases b1
    obtain⟨c1,c2⟩:=hy.cells hnt hnj;generalize hva:a.eval x'=va at hx;cases hx with
    | @ptr _ _ b hb=>
    obtain⟨w',s1,s2,s3⟩:=h.store (P:=C.P) hb hcs bn (off:=off) (xs:=(ev C ρ y).cells) (vs:=(a.eval y').cells.toList) (by simpa using c1) (by omega)
     (fun j k1 k2=>by have:=c2 j k1 (by simpa using k2);rw[<-Pe]at this;exact this)
    obtain⟨it,hit,hsz⟩:=Option.map_eq_some_iff.1 h3;obtain⟨-,inf,hinf,hs,-⟩:=C.ok t it hit;unfold Oper.wp;have hsize:(sizeOf t).run C.P w=.ok k w:=by simp[sizeOf,typeInfo,hinf,hs,hsz]
    have hne:¬((a.eval y').cells.size≠k):=by omega
    have hrun:(Instr.storeAt t (.pointer (some ⟨b,off,none⟩)) (a.eval y')).run C.P w=.ok () w':=by
     unfold Instr.storeAt Instr.sureAddr storeVar;simp only[Sem.run_bind,Sem.run_pure,Result.andThen_ok,hsize];rw[if_neg hne];exact s1
    have hdn:dst=none:=by simpa using h4
    subst hdn;simp only[execOp,hva,Sem.run_bind,hrun,Result.andThen_ok,Sem.run_pure,Oper.upon_skip];exact⟨M,bm,tk,_,_,hr,s2,s3⟩
   .exact hr.elim
  .rename_i x t t' x' y';obtain⟨⟨⟨h1,h2⟩,h3⟩,h4⟩:=hop;have hx:=ay hG h h1;have hy:=xV h h2;subst hy;split at hr
   .rename_i i off T k rows e1 hg;rw[e1]at hx;split at hr
    .rename_i cs hcs;obtain⟨⟨b1,bn⟩,hr⟩:=hr;generalize hva:a.eval x'=va at hx;cases hx with
     | @ptr _ _ b hb=>
     obtain⟨w',s1,s2,s3⟩:=h.storeOwn (P:=C.P) hb hcs bn b1 hg;obtain⟨it,hit,hsz⟩:=Option.map_eq_some_iff.1 h3;obtain⟨-,inf,hinf,hs,-⟩:=C.ok t' it hit;unfold Oper.wp;have hsize:(sizeOf t').run C.P w=.ok 1 w:=by simp[sizeOf,typeInfo,hinf,hs,hsz]
     have hone:(a.tmps.getD t undef).cells = #[a.tmps.getD t undef]:=by
      have hk:=(h.slots t).rep;rw[hg]at hk;cases hk with
      | own hk=>
      have:=hk.one;generalize a.tmps.getD t undef=v at this ⊢;cases v<;>first|rfl|cases this
     have hrun:(Instr.storeAt t' (.pointer (some ⟨b,off,none⟩)) (a.eval (.tmp t))).run C.P w=.ok () w':=by
      unfold Instr.storeAt Instr.sureAddr storeVar;have e9:a.eval (.tmp t)=a.tmps.getD t undef:=rfl;simp only[Sem.run_bind,Sem.run_pure,Result.andThen_ok,hsize,e9,hone];rw[if_neg (by simp)];exact s1
     have hdn:dst=none:=by simpa using h4
     subst hdn;simp only[execOp,hva,Sem.run_bind,hrun,Result.andThen_ok,Sem.run_pure,Oper.upon_skip];exact⟨M,bm,_,_,_,hr,s2,s3⟩
    .exact hr.elim
   .exact hr.elim
  .rename_i x t y;obtain⟨⟨h1,h2⟩,h3⟩:=hop;obtain⟨d,rfl⟩:=Option.isSome_iff_exists.1 h3;have hx:=ay hG h h1;generalize ev C ρ x=z at hr hx;cases z<;>simp only at hr<;>first|exact hr.elim|skip
   rename_i i off;split at hr
   .rename_i cs hcs;split at hr
    .rename_i T k rows hco;generalize hva:a.eval y=va at hx;cases hx with
     | @ptr _ _ b hb=>
     obtain⟨v,l1,l2⟩:=h.loadOwn (d:=d) (hd d rfl) hb hcs hco;unfold Tab.one at h2;split at h2
     .rename_i it hit;obtain⟨hu,-⟩:=C.ok t it hit;simp only[Pl,beq_iff_eq,Pn]at h2
      have hisagg:(isAgg t).run C.P w=.ok it.agg w:=by
       unfold isAgg;simp only[Sem.run_bind,run_underlying hu,Result.andThen_ok];unfold TI.agg;cases it.d<;>rfl
      rw[h2.2]at hisagg;exact cB (by simp[execOp,Instr.loadAt,hva,Instr.sureAddr,loadVar,hisagg,l1]) ⟨M,bm,_,_,_,hr,l2,Later.refl _ _ _ _⟩
     .cases h2
    .exact hr.elim
   .exact hr.elim
  .rename_i t y;obtain⟨⟨h1,h2⟩,h3⟩:=hop;obtain⟨d,rfl⟩:=Option.isSome_iff_exists.1 h3;have hy:=xV h h1;subst hy;split at hr
   .rename_i T k rows hg;exact cB (v:=a.tmps.getD t undef) rfl ⟨M,bm,_,_,_,hr,h.give (hd d rfl) (by simpa using h2) hg,Later.refl _ _ _ _⟩
   .exact hr.elim
  .rename_i t y;obtain⟨⟨h1,h2⟩,h3⟩:=hop;obtain⟨d,rfl⟩:=Option.isSome_iff_exists.1 h3;have hy:=xV h h1;subst hy;split at hr
   .rename_i T k rows hg;exact cB (v:=a.tmps.getD t undef) rfl ⟨M,bm,_,_,_,hr,h.give (hd d rfl) (by simpa using h2) hg,Later.refl _ _ _ _⟩
   .exact hr.elim
  .rename_i T k y;have hx:=ay hG h hop;cases hd2:dst with
   | none=>subst hd2;exact cB rfl ⟨M,bm,_,_,_,hr,h,Later.refl _ _ _ _⟩
   | some d=>
    subst hd2;refine cB (v:=a.eval y) rfl ⟨M,bm,tk,_,_,hr,?_,Later.refl _ _ _ _⟩;generalize a.eval y=v at hx ⊢;cases hx with
    | nil=>exact h.putNil (hd d rfl)
  .rename_i T k y;have hx:=ay hG h hop;cases hd2:dst with
   | none=>subst hd2;exact cB rfl ⟨M,bm,_,_,_,hr,h,Later.refl _ _ _ _⟩
   | some d=>
    subst hd2;refine cB (v:=a.eval y) rfl ⟨M,bm,tk,_,_,hr,?_,Later.refl _ _ _ _⟩;generalize a.eval y=v at hx ⊢;cases hx with
    | nil=>exact h.putNil (hd d rfl)
  .rename_i T k bytes t y args argTypes;split at hop
   .rename_i s y' t1 t2 e1 e2;simp only[Pl,beq_iff_eq]at hop;obtain⟨⟨⟨⟨⟨⟨h1,h2⟩,rfl⟩,h4⟩,h5⟩,h6⟩,h7⟩:=hop;obtain⟨d,rfl⟩:=Option.isSome_iff_exists.1 h6;have ha:args = #[s,y']:=by rw[<-Pa,e1]
    have hb:argTypes = #[t1,t1]:=by rw[<-Pa,e2]
    subst ha;subst hb;have hy:=xV h h1;subst hy;split at hr
    .rename_i T' k' rows rows2 hg hrows;obtain⟨⟨rfl,rfl,r3,r4⟩,hr⟩:=hr;split at h7
     .rename_i i hi;simp only[Pl,beq_iff_eq,decide_eq_true_eq]at h7;obtain⟨⟨⟨s1,s2⟩,s3⟩,s4⟩:=h7;obtain⟨-,inf,hinf,hs,hby,hz,hzc⟩:=C.ok _ i hi;have hyr:=jb hrows (ay hG h h2)
      have hb0:(rows.length+rows2.length)≤maxLen:=by
       have:(rows.length+rows2.length)*1≤(rows.length+rows2.length)*bytes:=P8 _ s4;unfold maxLen;omega
      obtain⟨v',w',M',tk',q1,q2,q3⟩:=h.app (P:=C.P) (hd d rfl) (by simpa using h5) hg t1 type inf i.z bytes (Tab.slice_sound h4) hinf hz (by rw[hs,s1]) (by rw[hby,s2]) (by rw[hzc,s1]) s3 hyr
       (fun r hr'=>by have:=List.all_eq_true.1 r3 r hr';simpa using this) hb0 r4
      have e9:a.eval (.tmp t)=a.tmps.getD t undef:=rfl;exact cB (by simp only[execOp,resolve,Sem.run_bind,Sem.run_pure,Result.andThen_ok,invoke,builtin,PX,Pz,P2,e9,q1]) ⟨M',bm,tk',_,_,hr,q2,q3⟩
     .cases h7
    .exact hr.elim
   .cases hop
  .rename_i T k xs t len parts;obtain⟨⟨⟨⟨h1,h2⟩,h3⟩,h4⟩,h5⟩:=hop;split at hr
   .rename_i rows hrows;obtain⟨hk,hr⟩:=hr;obtain⟨v,w',M',q1,q2,q3,q4,-⟩:=rg hG h h1 h2 h3 h4 (by simpa using h5) hrows (fun r hr'=>by have:=List.all_eq_true.1 hk r hr';simpa using this);exact cB (by simp only[execOp,Sem.run_bind,q1,Result.andThen_ok,Sem.run_pure]) ⟨M',bm,tk,_,_,hr,q3.putd hd (.d q2) (by simp),q4⟩
   .exact hr.elim
  .rename_i T k xs t len parts;obtain⟨⟨⟨⟨⟨h1,h2⟩,h3⟩,h4⟩,h5⟩,h6⟩:=hop;obtain⟨d,rfl⟩:=Option.isSome_iff_exists.1 h6;split at hr
   .rename_i rows hrows;obtain⟨hk,hr⟩:=hr;have hk':∀r∈rows,r.length=k:=fun r hr'=>by have:=List.all_eq_true.1 hk r hr';simpa using this
    obtain⟨v,w',M',q1,q2,q3,q4,q5,q6,q7,q8⟩:=rg hG h h1 h2 h3 h4 (by simpa using h5) hrows hk';obtain⟨tk',q9⟩:=h.ownNew q3 (hd d rfl) q5 q6 q2 hk' q7 q8;exact cB (by simp only[execOp,Sem.run_bind,q1,Result.andThen_ok,Sem.run_pure]) ⟨M',bm,tk',_,_,hr,q9,q4⟩
   .exact hr.elim
  .rename_i T k bytes x t kl y;obtain⟨⟨⟨h1,h2⟩,h3⟩,h4⟩:=hop;obtain⟨d,rfl⟩:=Option.isSome_iff_exists.1 h4;have hx:=ay hG h h3;generalize ev C ρ x=z at hr hx;split at hr
   .rename_i kc nn;obtain⟨⟨n0,nb⟩,hr⟩:=hr;obtain⟨c,rfl⟩:=Int.eq_ofNat_of_zero_le n0;split at h2
    .rename_i i hi;simp only[Pl,beq_iff_eq,decide_eq_true_eq]at h2;obtain⟨⟨e1,e2⟩,e3⟩:=h2;obtain⟨-,inf,hinf,hs,hby,hz,-⟩:=C.ok _ i hi;obtain⟨ev1,-⟩:=int_sound hx
     have hcb:c*bytes≤140737488355328:=by
      have:((c*bytes:Nat):Int)≤140737488355328:=by rw[Int.natCast_mul];exact nb
      omega
     have hc1:c*1≤c*bytes:=P8 _ e3;obtain⟨w',q1,q2,q3⟩:=run_make_own (P:=C.P) w 0 t T inf i.z k (Tab.slice_sound h1) hinf hz (by rw[hs,e1]) kl kc c (by rw[hby,e2,Qd];omega) (by unfold maxLen;omega) (Qa _);have hgw:cO w w':=⟨q3.os,q3.tape,q3.output,q3.size,fun b hb=>q3.block b hb (by simp)⟩
     obtain⟨g1,g2⟩:=h.grow (M':=M) hgw (.refl M) (fun b o x hm=>by
      have:=h.inv.facts b o x hm;rw[World.cell?_of_block (w:=w) (hgw.block b (fP this))];exact this) (fun _ _ _=>rfl)
     obtain⟨tk',q9⟩:=h.ownNew (rows:=[]) (k:=k) g1 (hd d rfl) rfl (q2.lt _ rfl).2 (.sl [] k (some ⟨w.heap.size,0,none⟩) c (fun _ _=>.nilIface) (by simp) (fun i j hi=>by simp at hi) (fun i hi=>by simp at hi) (Qa _) (by unfold maxLen;omega)) (by simp) ⟨[],q2⟩
      (fun o x hm=>by rw[h.inv.facts.fresh (P6 _) o]at hm;cases hm)
     exact cB (by
      have ek:a.eval (.const (.int kl 0))=.int kl 0:=rfl;simp only[execOp,Sem.run_bind,ev1,ek,q1,Result.andThen_ok,Sem.run_pure];rfl) ⟨M,bm,tk',_,_,hr,q9,g2⟩
    .cases h2
   .exact hr.elim
  .rename_i T bytes z t y args argTypes;split at hop
   .rename_i s y' t1 t2 e1 e2;simp only[Pl,beq_iff_eq,Pn]at hop;obtain⟨h1,h2,rfl,h4,h6,h7,h8⟩:=hop;obtain⟨d,rfl⟩:=Option.isSome_iff_exists.1 h6;have ha:args = #[s,y']:=by rw[<-Pa,e1]
    have hb:argTypes = #[t1,t1]:=by rw[<-Pa,e2]
    subst ha;subst hb;have hx:=ay hG h h1;split at hr
    .rename_i src hsrc;obtain⟨h0,hr⟩:=hr;split at h8
     .rename_i i hi;simp only[Pl,beq_iff_eq,decide_eq_true_eq]at h8;obtain⟨s1,s2,s3,s4⟩:=h8;obtain⟨v',w',M',bm',tk',ρ',σ',q1,q2,q3,q4⟩:=vN (ty:=type) h (hd d rfl) h4 hi s1 s2 s4 h7 hsrc (ay hG h h2) h0 hx hr s3;exact cB (by simp only[execOp,resolve,Sem.run_bind,Sem.run_pure,Result.andThen_ok,invoke,builtin,PX,Pz,P2,q1]) ⟨M',bm',tk',ρ',σ',q2,q3,q4⟩
     .cases h8
    .exact hr.elim
   .cases hop
  .rename_i st t;obtain⟨d,rfl⟩:=Option.isSome_iff_exists.1 hop;obtain⟨g1,g2⟩:=h.pushMap st (hd d rfl)
   exact cB (v:=.map (some w.heap.size)) (w':=w.alloc (.map #[] 0)) (by
    have:(Instr.makeMap t none).run C.P w=.ok (.map (some w.heap.size)) (w.alloc (.map #[] 0)):=rfl;simp[execOp,this]) ⟨M,_,tk,_,_,hr,g1,g2⟩
  .rename_i st x k v t x' k' v';obtain⟨⟨h1,h2⟩,h3,h4,h5⟩:=hop;have hdn:dst=none:=by simpa using h5
   subst hdn;split at hr
   .rename_i kv key e1 e2;obtain⟨w',s1,s2,s3⟩:=rx h h4 e1 e2 (ay hG h h1) (ay hG h h2) (ay hG h h3);unfold Oper.wp;simp only[execOp,Sem.run_bind,s1,Result.andThen_ok,Sem.run_pure,Oper.upon_skip];exact⟨M,bm,tk,_,_,hr,s2,s3⟩
   .exact hr.elim
  .rename_i st x k v t x' k' v';obtain⟨⟨h1,h2⟩,h3,h4,h5⟩:=hop;have hdn:dst=none:=by simpa using h5
   subst hdn;split at hr
   .rename_i kv key e1 e2;obtain⟨w',s1,s2,s3⟩:=rx h h4 e1 e2 (ay hG h h1) (ay hG h h2) (ay hG h h3);unfold Oper.wp;simp only[execOp,Sem.run_bind,s1,Result.andThen_ok,Sem.run_pure,Oper.upon_skip];exact⟨M,bm,tk,_,_,hr,s2,s3⟩
   .exact hr.elim
  .rename_i x y;have hx:=ay hG h hop;split at hr
   .rename_i t v e1;rw[e1]at hx;generalize hva:a.eval y=va at hx;cases hx with
    | @iface _ _ u hv=>
    unfold Oper.wp
    have hrun:(execOp a.eval ⟨dst,.panic y,type,pos,after,guard⟩).run C.P w=.halt (.panic (.iface t u)) w:=by
     simp[execOp,hva,Instr.panic,goPanic]
    rw[hrun,Oper.upon_panic];exact⟨M,bm,tk,ρ,σ,_,hr,.panic (.iface hv),h,Later.refl _ _ _ _⟩
   .exact hr.elim
  .cases hop
end
end Go.Proofs.YtnhphlmblenapaaGreatDoor
