import Derived.Test.YthoebpnbhgmoiaaGreatDoorRefs8
import Derived.Test.YthoebpnbhgmoiaaGreatDoorK2
set_option linter.unusedVariables false
set_option linter.unusedSimpArgs false
set_option linter.unusedSectionVars false
open And renaming intro→JH
open List renaming length_append→JI,length_cons→JJ,length_take→JK,take→JL
open Nat renaming le_trans→JM,lt_of_lt_of_le→JO,min_eq_left→JP
namespace Go.Proofs.YthoebpnbhgmoiaaGreatDoor
open Go.RowKit
theorem vB(w:World)(vs:Array Value)(T:TypeId)(j:Nat)(u:Value)(h:vs.toList[j]? = some u):((w.alloc (.cells vs T)).drew).cell? (Addr.add ⟨w.heap.size,0,none⟩ j)=some u:=by
 have e:Addr.add ⟨w.heap.size,0,none⟩ j=⟨w.heap.size,0+j,none⟩:=by unfold Addr.add;split<;>simp_all
 rw[e];show(w.alloc (.cells vs T)).cell? _=_;rw[World.cell?_alloc_new];simpa using h
structure Grew3(w:World)(e:TypeId)(size:Nat)(v:Value)(n:Nat)(xs:List Value)(g cap:Nat)(w':World):Prop where
 row:w'.ownsRow 0 e size (.slice (some ⟨g,0,none⟩) n cap) n xs
 grown:(v.ownBlock=some g∧w.grownBy w' (some g))∨(w.heap.size≤g∧cH w w')
theorem Grew3.block{w w':World}{e:TypeId}{size n g cap:Nat}{v:Value}{xs:List Value}(h:Grew3 w e size v n xs g cap w'){b:Nat}(hb:b<w.heap.size)(hg:b≠g):w'.heap[b]? = w.heap[b]? := by
 rcases h.grown with⟨-,h1⟩|⟨-,h1⟩
 ·exact h1.block b hb (by simpa using hg)
 ·exact h1.block b hb
theorem Grew3.rest{w w':World}{e:TypeId}{size n g cap:Nat}{v:Value}{xs:List Value}(h:Grew3 w e size v n xs g cap w'):w.heap.size≤w'.heap.size∧w'.os=w.os∧w'.tape=w.tape∧w'.output=w.output:=by
 rcases h.grown with⟨-,h1⟩|⟨-,h1⟩
 ·exact⟨h1.size,h1.os,h1.tape,h1.output⟩
 ·exact⟨h1.size,h1.os,h1.tape,h1.output⟩
theorem pE{P:Program}{ops:Array Oper}{o:Oper}{a:Act}{w:World}{K:Act→World→Prop}{Q:Exit→Act→World→Prop}{E:Prop}
 (hg:o.guard=none)(s x:Operand)(t:TypeId)(hop:o.op=Op.call {callee:=Callee.builtin Builtin.append,args := #[s,x],argTypes := #[t,t]})
 (e:TypeId)(i:TypeInfo)(z:Value)(size bytes:Nat)(h1:P.underlying t=some (.slice e))(h2:P.info? e=some i)(h3:i.zero=some z)(h4:i.size=size)(h5:i.bytes=bytes)(h6:z.cells.size=size)(h7:0<size)
 (v:Value)(n:Nat)(xs:List Value)(hs:a.eval s=v)(hown:w.ownsRow 0 e size v n xs)
 (ad:Addr)(m c:Nat)(news:List Value)(hx:a.eval x=.slice (some ad) m c)(hn:news.length=m*size)(hc:∀j u,news[j]? = some u→w.cell? (ad.add j)=some u)(h1c:∀u∈news,u.oneCell'=true)
 (b1:n+m≤maxLen)(b2:(n+m)*bytes≤140737488355328)(hm:0<m)
 (hK:∀g cap w',Grew3 w e size v (n+m) (xs++news) g cap w'→K (a.put o.dst (.slice (some ⟨g,0,none⟩) (n+m) cap)) w'):
 if Region.wanted o (yielded ops a.tmps)=true then Oper.wp P o a w K Q else E:=by
 have hw:Region.wanted o (yielded ops a.tmps)=true:=by simp[Region.wanted,hg]
 rw[if_pos hw];obtain⟨g,cap,w',hr,r2,r3⟩:=lu (P:=P) w t o.type e i z size bytes h1 h2 h3 h4 h5 h6 h7 v n xs hown ad m c news hn hc h1c b1 b2 hm;unfold Oper.wp execOp;simp only[hop,resolve,invoke,builtin,Sem.run_bind,Sem.run_pure,Result.andThen_ok,List.map_toArray,List.map_cons,List.map_nil,hs,hx,hr];exact hK g cap w' ⟨r2,r3⟩
def puts(w:World)(g:Nat):List Value→Nat→World
 | [],_=>w
 | v::r,o=>puts (w.setCell ⟨g,o,none⟩ v) g r (o+1)
theorem gI(w:World)(g o:Nat)(v:Value){b:Nat}(h:b≠g):(w.setCell ⟨g,o,none⟩ v).heap[b]? = w.heap[b]? := by
 unfold World.setCell;simp only[Array.getElem?_modify];rw[if_neg (Ne.symm h)]
theorem pG(w:World)(g o:Nat)(v:Value){cur:Array Value}{T:TypeId}(h:w.heap[g]? = some (.cells cur T (0,0))):(w.setCell ⟨g,o,none⟩ v).heap[g]? = some (.cells (cur.setIfInBounds o v) T (0,0)):=by
 unfold World.setCell;simp only[Array.getElem?_modify];rw[if_pos trivial,h];rfl
theorem nc(w:World)(g o:Nat)(v:Value):(w.setCell ⟨g,o,none⟩ v).heap.size=w.heap.size∧(w.setCell ⟨g,o,none⟩ v).os=w.os∧(w.setCell ⟨g,o,none⟩ v).tape=w.tape∧(w.setCell ⟨g,o,none⟩ v).output=w.output:=⟨by simp[World.setCell],rfl,rfl,rfl⟩
theorem fN(g:Nat):∀(vs:List Value) (o:Nat) (w:World) {b:Nat},b≠g→(puts w g vs o).heap[b]? = w.heap[b]?
 | [],_,_,_,_=>rfl
 | v::r,o,w,_,h=>by rw[puts,fN g r _ _ h,gI _ _ _ _ h]
theorem kU(g:Nat):∀(vs:List Value) (o:Nat) (w:World),(puts w g vs o).heap.size=w.heap.size∧(puts w g vs o).os=w.os∧(puts w g vs o).tape=w.tape∧(puts w g vs o).output=w.output
 | [],_,_=>⟨rfl,rfl,rfl,rfl⟩
 | v::r,o,w=>by
  obtain⟨h1,h2,h3,h4⟩:=kU g r (o+1) (w.setCell ⟨g,o,none⟩ v);obtain⟨k1,k2,k3,k4⟩:=nc w g o v;rw[puts];exact⟨h1.trans k1,h2.trans k2,h3.trans k3,h4.trans k4⟩
theorem pC(g:Nat)(T:TypeId):∀(vs:List Value) (o:Nat) (w:World) (cur:Array Value),w.heap[g]? = some (.cells cur T (0,0))→o+vs.length≤cur.size→
 (puts w g vs o).heap[g]? = some (.cells (cur.toList.take o++vs++cur.toList.drop (o+vs.length)).toArray T (0,0))
 | [],o,w,cur,h,hl=>by rw[puts,h];simp
 | v::r,o,w,cur,h,hl=>by
  have hlt:o<cur.size:=by simp only[JJ]at hl;omega
  rw[puts,pC g T r (o+1) _ _ (pG w g o v h) (by simp only[JJ,Array.size_setIfInBounds]at hl ⊢;omega)];congr 3;have hlt':o<cur.toList.length:=by simpa using hlt
  rw[Array.toList_setIfInBounds]
  have e1:(cur.toList.set o v).take (o+1)=cur.toList.take o++[v]:=by
   rw[List.take_set,List.take_succ_eq_append_getElem hlt',List.set_append_right _ _ (by rw[JK];exact Nat.min_le_left _ _),JK,JP (Nat.le_of_lt hlt'),Nat.sub_self];rfl
  have e2:(cur.toList.set o v).drop (o+1+r.length)=cur.toList.drop (o+(v::r).length):=by
   rw[List.drop_set_of_lt (by omega),JJ];congr 1;omega
  rw[e1,e2];simp
structure Adds(w w':World)(bx n:Nat)(v:Value)(xs ys:List Value)(g cap:Nat):Prop where
 row:w'.ownsRow 0 51 12 (.slice (some ⟨g,0,none⟩) (n+1) cap) (n+1) (xs++ys)
 box:∀cur E,w.heap[bx]? = some (.cells cur E (0,0))→w'.heap[bx]? = some (.cells (cur.setIfInBounds 1 (.slice (some ⟨g,0,none⟩) (n+1) cap)) E (0,0))
 other:∀b,b<w.heap.size→b≠bx→b≠g→w'.heap[b]? = w.heap[b]?
 new:v.ownBlock=some g∨w.heap.size≤g
 size:w.heap.size≤w'.heap.size
 os:w'.os=w.os
 tape:w'.tape=w.tape
 output:w'.output=w.output
theorem t8{w w':World}{g n cap:Nat}{xs zs ys:List Value}(hx:xs.length=n*12)(hz:zs.length=12)(hy:ys.length=12)(h1:∀u∈ys,u.oneCell'=true)(h:w.ownsRow 0 51 12 (.slice (some ⟨g,0,none⟩) (n+1) cap) (n+1) (xs++zs))
 (hw:∀cur T,w.heap[g]? = some (.cells cur T (0,0))→n*12+12≤cur.size→w'.heap[g]? = some (.cells (cur.toList.take (n*12)++ys++cur.toList.drop (n*12+ys.length)).toArray T (0,0))):
 w'.ownsRow 0 51 12 (.slice (some ⟨g,0,none⟩) (n+1) cap) (n+1) (xs++ys):=by
 obtain⟨h0,⟨e,-⟩|⟨g',cap',cur,e,h2,h3,h4,h5,h6,h7⟩⟩:=h
 ·cases e
 ·cases e;have hsz:n*12+12≤cur.size:=by rw[h6];have:(n+1)*12≤cap*12:=Nat.mul_le_mul_right _ h4;omega
  refine⟨by rw[JI,hx,hy];omega,.inr ⟨g,cap,_,rfl,h2,hw cur _ h3 hsz,h4,h5,?_,?_⟩⟩
  ·rw[←h6];simp;omega
  ·have h8:cur.toList.take (n*12)=xs:=by
    have:=congrArg (JL (n*12)) h7;rw[List.take_take,JP (by omega),List.take_left' hx]at this;exact this
   show JL ((n+1)*12) (cur.toList.take (n*12)++ys++cur.toList.drop (n*12+ys.length))=_;rw[h8,List.take_append_of_le_length (by rw[JI,hx,hy];omega),List.take_of_length_le (by rw[JI,hx,hy];omega)]
theorem BF{w w2 w':World}{bx n cap g cap1:Nat}{pp:Option Addr}{xs zs ys:List Value}{ob1 ob2:Obj}(hlt:bx<w.heap.size)(hg:g≠bx)(hx:xs.length=n*12)(hz:zs.length=12)(hy:ys.length=12)(h1:∀u∈ys,u.oneCell'=true)
 (h:Grew3 (((w.alloc ob1).alloc ob2).drew) 51 12 (.slice pp n cap) (n+1) (xs++zs) g cap1 w2)
 (hw:w'=(puts w2 g ys (n*12)).setCell ⟨bx,1,none⟩ (.slice (some ⟨g,0,none⟩) (n+1) cap1)∨w'=puts (w2.setCell ⟨bx,1,none⟩ (.slice (some ⟨g,0,none⟩) (n+1) cap1)) g ys (n*12)):
 Adds w w' bx n (.slice pp n cap) xs ys g cap1:=by
 have hW:Ext w (((w.alloc ob1).alloc ob2).drew):=(((Ext.refl w).alloc _).alloc _).drew;obtain⟨r1,r2,r3,r4⟩:=h.rest
 have hb:∀b,b<w.heap.size→b≠g→w2.heap[b]? = w.heap[b]? := fun b hb hne=>by
  rw[h.block (JO hb hW.size) hne];exact hW.block b hb
 have hp:=kU g ys (n*12) w2;have hs:=nc w2 bx 1 (.slice (some ⟨g,0,none⟩) (n+1) cap1);rcases hw with rfl|rfl
 ·have hq:=nc (puts w2 g ys (n*12)) bx 1 (.slice (some ⟨g,0,none⟩) (n+1) cap1);refine⟨t8 hx hz hy h1 h.row fun cur T hc hl=>?_,fun cur E hc=>?_,fun b h1 h2 h3=>?_,?_,?_,?_,?_,?_⟩
  ·rw[gI _ _ _ _ hg];exact pC g T ys _ w2 cur hc (by omega)
  ·refine pG _ _ _ _ ?_;rw[fN g _ _ _ (Ne.symm hg),hb bx hlt (Ne.symm hg)];exact hc
  ·rw[gI _ _ _ _ h2,fN g _ _ _ h3,hb b h1 h3]
  ·rcases h.grown with⟨e,-⟩|⟨e,-⟩
   ·exact .inl e
   ·exact .inr (JM hW.size e)
  ·rw[hq.1,hp.1];exact JM hW.size r1
  ·exact(hq.2.1.trans hp.2.1).trans (r2.trans hW.os)
  ·exact(hq.2.2.1.trans hp.2.2.1).trans (r3.trans hW.tape)
  ·exact(hq.2.2.2.trans hp.2.2.2).trans (r4.trans hW.output)
 ·have hq:=kU g ys (n*12) (w2.setCell ⟨bx,1,none⟩ (.slice (some ⟨g,0,none⟩) (n+1) cap1));refine⟨t8 hx hz hy h1 h.row fun cur T hc hl=>?_,fun cur E hc=>?_,fun b h1 h2 h3=>?_,?_,?_,?_,?_,?_⟩
  ·exact pC g T ys _ _ cur (by rw[gI _ _ _ _ hg];exact hc) (by omega)
  ·rw[fN g _ _ _ (Ne.symm hg)];refine pG _ _ _ _ ?_;rw[hb bx hlt (Ne.symm hg)];exact hc
  ·rw[fN g _ _ _ h3,gI _ _ _ _ h2,hb b h1 h3]
  ·rcases h.grown with⟨e,-⟩|⟨e,-⟩
   ·exact .inl e
   ·exact .inr (JM hW.size e)
  ·rw[hq.1,hs.1];exact JM hW.size r1
  ·exact(hq.2.1.trans hs.2.1).trans (r2.trans hW.os)
  ·exact(hq.2.2.1.trans hs.2.2.1).trans (r3.trans hW.tape)
  ·exact(hq.2.2.2.trans hs.2.2.2).trans (r4.trans hW.output)
theorem sP{w w2:World}{bx n cap g cap1:Nat}{pp:Option Addr}{mv:Value}{fl:Bool}{xs:List Value}(hne:(Value.slice pp n cap).ownBlock≠some bx)(hlt:bx<w.heap.size)(hx:xs.length=n*12)
 (c0:w.cell? ⟨bx,0,none⟩=some mv)(c1:w.cell? ⟨bx,1,none⟩=some (.slice pp n cap))(c2:w.cell? ⟨bx,2,none⟩=some (.bool fl))(f1:w.frozen? ⟨bx,1,none⟩=false)
 (h:Grew3 w 51 12 (.slice pp n cap) (n+1) (xs++[.int .i64 0,.int .i64 0,.int .i64 0,.string ⟨#[]⟩,.slice none 0 0,.string ⟨#[]⟩,.string ⟨#[]⟩,.slice none 0 0,.slice none 0 0,.slice none 0 0,.slice none 0 0,.slice none 0 0]) g cap1 w2):
 (g≠bx∧w2.cell? ⟨bx,0,none⟩=some mv∧w2.cell? ⟨bx,1,none⟩=some (.slice pp n cap)∧w2.cell? ⟨bx,2,none⟩=some (.bool fl)∧w2.frozen? ⟨bx,1,none⟩=false)∧(w2.cell? ⟨g,n*12,none⟩=some (.int .i64 0)∧w2.cell? ⟨g,n*12+1,none⟩=some (.int .i64 0)∧w2.cell? ⟨g,n*12+2,none⟩=some (.int .i64 0)∧w2.cell? ⟨g,n*12+3,none⟩=some (.string ⟨#[]⟩)∧w2.cell? ⟨g,n*12+4,none⟩=some (.slice none 0 0)∧w2.cell? ⟨g,n*12+5,none⟩=some (.string ⟨#[]⟩)∧w2.cell? ⟨g,n*12+6,none⟩=some (.string ⟨#[]⟩)∧w2.cell? ⟨g,n*12+7,none⟩=some (.slice none 0 0)∧w2.cell? ⟨g,n*12+8,none⟩=some (.slice none 0 0)∧w2.cell? ⟨g,n*12+9,none⟩=some (.slice none 0 0)∧w2.cell? ⟨g,n*12+10,none⟩=some (.slice none 0 0)∧w2.cell? ⟨g,n*12+11,none⟩=some (.slice none 0 0))∧(w2.frozen? ⟨g,n*12,none⟩=false∧w2.frozen? ⟨g,n*12+1,none⟩=false∧w2.frozen? ⟨g,n*12+2,none⟩=false∧w2.frozen? ⟨g,n*12+3,none⟩=false∧w2.frozen? ⟨g,n*12+4,none⟩=false∧w2.frozen? ⟨g,n*12+5,none⟩=false∧w2.frozen? ⟨g,n*12+6,none⟩=false∧w2.frozen? ⟨g,n*12+7,none⟩=false∧w2.frozen? ⟨g,n*12+8,none⟩=false∧w2.frozen? ⟨g,n*12+9,none⟩=false∧w2.frozen? ⟨g,n*12+10,none⟩=false∧w2.frozen? ⟨g,n*12+11,none⟩=false):=by
 have HG:g≠bx:=fun e=>by
  rcases h.grown with⟨h1,-⟩|⟨h1,-⟩
  ·exact hne (by rw[h1,e])
  ·omega
 have hb:w2.heap[bx]? = w.heap[bx]? := h.block hlt (fun e=>HG e.symm);refine⟨⟨HG,?_,?_,?_,?_⟩,?_,?_⟩
 ·rw[World.cell?_of_block (w:=w) hb];exact c0
 ·rw[World.cell?_of_block (w:=w) hb];exact c1
 ·rw[World.cell?_of_block (w:=w) hb];exact c2
 ·unfold World.frozen? at f1 ⊢;simp only at f1 ⊢;rw[hb];exact f1
 ·have hc:=h.row.cells (g:=g) rfl
  have one:∀j u,[.int .i64 0,.int .i64 0,.int .i64 0,.string ⟨#[]⟩,.slice none 0 0,.string ⟨#[]⟩,.string ⟨#[]⟩,.slice none 0 0,.slice none 0 0,.slice none 0 0,.slice none 0 0,.slice none 0 0][j]? = some u→w2.cell? ⟨g,n*12+j,none⟩=some u:=fun j u hu=>by
   have:=hc (n*12+j) u (by rw[List.getElem?_append_right (by omega),hx,Nat.add_sub_cancel_left];exact hu);have e:Addr.add ⟨g,0,none⟩ (n*12+j)=⟨g,0+(n*12+j),none⟩:=by unfold Addr.add;split<;>simp_all
   rw[e,Nat.zero_add]at this;exact this
  exact⟨one 0 _ rfl,one 1 _ rfl,one 2 _ rfl,one 3 _ rfl,one 4 _ rfl,one 5 _ rfl,one 6 _ rfl,one 7 _ rfl,one 8 _ rfl,one 9 _ rfl,one 10 _ rfl,one 11 _ rfl⟩
 ·exact⟨h.row.frozenAt _,h.row.frozenAt _,h.row.frozenAt _,h.row.frozenAt _,h.row.frozenAt _,h.row.frozenAt _,h.row.frozenAt _,h.row.frozenAt _,h.row.frozenAt _,h.row.frozenAt _,h.row.frozenAt _,h.row.frozenAt _⟩
set_option maxRecDepth 100000 in
set_option maxHeartbeats 4000000 in
theorem AW(bx:Nat)(mv:Value)(pp:Option Addr)(n cap:Nat)(xs:List Value)(fl:Bool)(a0 a1 a2:Int)(s3 s5 s6:ByteArray)(p4 p7 p8 p9 p10 p11:Option Addr)(n4 k4 n7 k7 n8 k8 n9 k9 n10 k10 n11 k11:Nat)(w:World)
 (c0:w.cell? ⟨bx,0,none⟩=some mv)(c1:w.cell? ⟨bx,1,none⟩=some (.slice pp n cap))(c2:w.cell? ⟨bx,2,none⟩=some (.bool fl))(f1:w.frozen? ⟨bx,1,none⟩=false)(f2:w.frozen? ⟨bx,2,none⟩=false)(hn:n<400)(hne:(Value.slice pp n cap).ownBlock≠some bx)
 (hown:w.ownsRow 0 51 12 (.slice pp n cap) n xs):
 Calls Tryz.prog 112 #[.pointer (some ⟨bx,0,none⟩),.agg #[.int .i64 a0,.int .i64 a1,.int .i64 a2,.string s3,.slice p4 n4 k4,.string s5,.string s6,.slice p7 n7 k7,.slice p8 n8 k8,.slice p9 n9 k9,.slice p10 n10 k10,.slice p11 n11 k11]] w fun e w'=>e=.returned (.tuple #[])∧∃g cap1,Adds w w' bx n (.slice pp n cap) xs [.int .i64 a0,.int .i64 a1,.int .i64 a2,.string s3,.slice p4 n4 k4,.string s5,.string s6,.slice p7 n7 k7,.slice p8 n8 k8,.slice p9 n9 k9,.slice p10 n10 k10,.slice p11 n11 k11] g cap1:=by
 have hlt:bx<w.heap.size:=by
  apply Classical.byContradiction;intro hh;unfold World.cell? at c1;simp only at c1;rw[Array.getElem?_eq_none (by omega)]at c1;cases c1
 have hn0:decide ((400:Int)≤n)=false:=decide_eq_false (by omega)
 obtain⟨i0,hi,hz0,hz1,hz2⟩:∃i0,Tryz.prog.info? 51=some i0∧i0.zero=some (.agg #[.int .i64 0,.int .i64 0,.int .i64 0,.string ⟨#[]⟩,.slice none 0 0,.string ⟨#[]⟩,.string ⟨#[]⟩,.slice none 0 0,.slice none 0 0,.slice none 0 0,.slice none 0 0,.slice none 0 0])∧i0.size=12∧i0.bytes=216:=by
  have h:(Tryz.prog.info? 51).map (fun i=>(i.zero,i.size,i.bytes))=some (some (.agg #[.int .i64 0,.int .i64 0,.int .i64 0,.string ⟨#[]⟩,.slice none 0 0,.string ⟨#[]⟩,.string ⟨#[]⟩,.slice none 0 0,.slice none 0 0,.slice none 0 0,.slice none 0 0,.slice none 0 0]),12,216):=by kernel_rfl
  cases hi:Tryz.prog.info? 51 with
  | none=>rw[hi]at h;cases h
  | some i0=>rw[hi]at h;simp only[Option.map_some,Option.some.injEq,Prod.mk.injEq]at h;exact⟨i0,rfl,h.1,h.2.1,h.2.2⟩
 have HO:=Lib.hid hown;clear hown;go_enter Tryz.func112,Tryz.ntmps112;go_upto_region 3 with fail
 have hI0:=Lib.hid (JH hi (JH hz0 (JH hz1 hz2)));clear hi hz0 hz1 hz2;have hi0:(0:Int)≤n:=by omega
 have hi1:(n:Int)<(n:Int)+1:=by omega
 have hxl:=Lib.hid HO.out.1;have HNE:=Lib.hid hne;clear hne;have hW:Ext w (((w.alloc (.cells #[.int .i64 a0,.int .i64 a1,.int .i64 a2,.string s3,.slice p4 n4 k4,.string s5,.string s6,.slice p7 n7 k7,.slice p8 n8 k8,.slice p9 n9 k9,.slice p10 n10 k10,.slice p11 n11 k11] 51)).alloc (.cells #[.int .i64 0,.int .i64 0,.int .i64 0,.string ⟨#[]⟩,.slice none 0 0,.string ⟨#[]⟩,.string ⟨#[]⟩,.slice none 0 0,.slice none 0 0,.slice none 0 0,.slice none 0 0,.slice none 0 0] 51)).drew):=((((Ext.refl w).alloc _).alloc _).drew)
 have hfz:World.frozen? (((w.alloc (.cells #[.int .i64 a0,.int .i64 a1,.int .i64 a2,.string s3,.slice p4 n4 k4,.string s5,.string s6,.slice p7 n7 k7,.slice p8 n8 k8,.slice p9 n9 k9,.slice p10 n10 k10,.slice p11 n11 k11] 51)).alloc (.cells #[.int .i64 0,.int .i64 0,.int .i64 0,.string ⟨#[]⟩,.slice none 0 0,.string ⟨#[]⟩,.string ⟨#[]⟩,.slice none 0 0,.slice none 0 0,.slice none 0 0,.slice none 0 0,.slice none 0 0] 51)).drew) ⟨bx,1,none⟩=false:=by
  have hb:=hW.block bx hlt;unfold World.frozen? at f1 ⊢;simp only at f1 ⊢;rw[hb];exact f1
 have hlt2:bx<((((w.alloc (.cells #[.int .i64 a0,.int .i64 a1,.int .i64 a2,.string s3,.slice p4 n4 k4,.string s5,.string s6,.slice p7 n7 k7,.slice p8 n8 k8,.slice p9 n9 k9,.slice p10 n10 k10,.slice p11 n11 k11] 51)).alloc (.cells #[.int .i64 0,.int .i64 0,.int .i64 0,.string ⟨#[]⟩,.slice none 0 0,.string ⟨#[]⟩,.string ⟨#[]⟩,.slice none 0 0,.slice none 0 0,.slice none 0 0,.slice none 0 0,.slice none 0 0] 51)).drew)).heap.size:=JO hlt hW.size;have HC:=Lib.hid (JH (hW.cell c0) (JH (hW.cell c1) (JH (hW.cell c2) (JH hfz hlt2))));clear hfz hlt2 hW
 have hcn:=Lib.hid (fun j u hu=>vB (w.alloc (.cells #[.int .i64 a0,.int .i64 a1,.int .i64 a2,.string s3,.slice p4 n4 k4,.string s5,.string s6,.slice p7 n7 k7,.slice p8 n8 k8,.slice p9 n9 k9,.slice p10 n10 k10,.slice p11 n11 k11] 51)) #[.int .i64 0,.int .i64 0,.int .i64 0,.string ⟨#[]⟩,.slice none 0 0,.string ⟨#[]⟩,.string ⟨#[]⟩,.slice none 0 0,.slice none 0 0,.slice none 0 0,.slice none 0 0,.slice none 0 0] 51 j u hu)
 go_region_law (refine pE rfl (.tmp 16) (.tmp 19) 22 rfl 51 i0 _ 12 216 Tryz.underlying22 hI0.out.1 hI0.out.2.1 hI0.out.2.2.1 hI0.out.2.2.2 rfl (by decide) (.slice pp n cap) n xs (by simp[Act.eval,Act.put]) (((HO.out.alloc _).alloc _).drewN 1) ⟨w.heap.size+1,0,none⟩ 1 1 [.int .i64 0,.int .i64 0,.int .i64 0,.string ⟨#[]⟩,.slice none 0 0,.string ⟨#[]⟩,.string ⟨#[]⟩,.slice none 0 0,.slice none 0 0,.slice none 0 0,.slice none 0 0,.slice none 0 0] (by simp[Act.eval,Act.put]) rfl (by simpa using hcn.out) (by simp[Value.oneCell']) (by unfold maxLen;omega) (by omega) (by decide) ?_;intro g cap1 w2 hgr;have HGR:=Lib.hid hgr;clear hgr;obtain⟨⟨g0,k0,k1,k2,k3⟩,⟨p0,p1,p2,p3,p4,p5,p6,p7,p8,p9,p10,p11⟩,⟨q0,q1,q2,q3,q4,q5,q6,q7,q8,q9,q10,q11⟩⟩:=sP (mv:=mv) (fl:=fl) HNE.out HC.out.2.2.2.2 hxl.out HC.out.1 HC.out.2.1 HC.out.2.2.1 HC.out.2.2.2.1 HGR.out)
 all_goals refine(show bodyPost _ _ _ .normal _ _ from⟨rfl,.tuple #[],results_none (by kernel_rfl) _ _ _,rfl,g,cap1,BF hlt g0 hxl.out rfl rfl (by simp[Value.oneCell']) HGR.out ?_⟩)
 all_goals simp only[puts,Nat.add_assoc,Nat.reduceAdd,eq_self,true_or,or_true]
end Go.Proofs.YthoebpnbhgmoiaaGreatDoor
