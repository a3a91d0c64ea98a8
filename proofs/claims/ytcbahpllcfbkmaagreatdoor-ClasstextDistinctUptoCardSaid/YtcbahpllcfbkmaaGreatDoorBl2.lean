import Derived.Test.YtcbahpllcfbkmaaGreatDoorBl0
import Derived.Test.YtcbahpllcfbkmaaGreatDoorShelf
import Derived.Test.YtcbahpllcfbkmaaGreatDoorRefs8
import Derived.Test.YtcbahpllcfbkmaaGreatDoorK
import Derived.Test.YtcbahpllcfbkmaaGreatDoorData
import Derived.Test.YtcbahpllcfbkmaaGreatDoorNames
import Derived.Test.YtcbahpllcfbkmaaGreatDoorSpan
set_option linter.unusedVariables false
set_option linter.unusedSimpArgs false
set_option linter.unusedSectionVars false
namespace Go.Proofs.YtcbahpllcfbkmaaGreatDoor
open Go.RowKit
abbrev PT:TypeId:=64
abbrev U8:TypeId:=5
theorem wW:∃i0,Tryz.prog.info? U8=some i0∧i0.zero=some (.int .u8 0)∧i0.size=1∧i0.bytes=1:=by
 have h:(Tryz.prog.info? U8).map (fun i=>(i.zero,i.size,i.bytes))=some (some (.int .u8 0),1,1):=by kernel_rfl
 cases hi:Tryz.prog.info? U8 with
 | none=>rw[hi]at h;cases h
 | some i0=>rw[hi]at h;simp only[Option.map_some,Option.some.injEq,Prod.mk.injEq]at h;exact⟨i0,rfl,h.1,h.2.1,h.2.2⟩
theorem rx:∃j,Tryz.prog.info? 62=some j∧j.size=2:=by
 have h:(Tryz.prog.info? 62).map (·.size)=some 2:=by kernel_rfl
 exact Option.map_eq_some_iff.1 h
theorem wi:liesAt Tryz.prog Tryz.prog.depth PT (3/Tryz.prog.cellsOf PT) 0 62 1=true:=by kernel_rfl
set_option maxHeartbeats 1200000 in
set_option maxRecDepth 100000 in
theorem Ca(b:Nat)(w:World)(h0:w.cell? ⟨b,0,none⟩=some (.pointer (some ⟨b,0,none⟩))):
 Calls Tryz.prog 62 #[.pointer (some ⟨b,0,none⟩)] w fun e w'=>e=.returned (.tuple #[])∧w'=w:=by
 obtain⟨j,hj,-⟩:=rx;go_enter Tryz.func62,Tryz.ntmps62;go_wp2;rw[Lib.run_neq_ptr_same w _ Tryz.underlying59 hj];go_wp2;go_end0;exact⟨rfl,rfl⟩
set_option maxHeartbeats 1200000 in
set_option maxRecDepth 100000 in
theorem DZ(b:Nat)(w:World)(h0:w.cell? ⟨b,0,none⟩=some (.pointer none))(hsh:w.shape? b=some (PT,3))(hfz:w.frozen? ⟨b,0,none⟩=false):
 Calls Tryz.prog 62 #[.pointer (some ⟨b,0,none⟩)] w fun e w'=>e=.returned (.tuple #[])∧w'=w.setCell ⟨b,0,none⟩ (.pointer (some ⟨b,0,none⟩)):=by
 obtain⟨j,hj,hjs⟩:=rx;go_enter Tryz.func62,Tryz.ntmps62;go_wp2;rw[Lib.run_to_unsafe w ⟨b,0,none⟩ Tryz.underlying59 Tryz.underlying124 hj (by rw[hjs];decide) hsh (show(0:Nat)<3 by decide)];simp only[Result.andThen];rw[Oper.upon_value];go_wp2;rw[run_callFunc_extern Tryz.func101 (by kernel_rfl) (by kernel_rfl) (by kernel_rfl) (e:=Extern.AbiNoEscape.same) (by kernel_rfl)];rw[Lib.run_noEscape];simp only[Result.andThen];rw[Oper.upon_value];go_wp2;rw[Lib.run_from_unsafe w ⟨b,0,none⟩ Tryz.underlying124 Tryz.underlying59 hj hsh wi];simp only[Result.andThen];rw[Oper.upon_value];go_wp2;go_end0;exact⟨rfl,rfl⟩
theorem Ci(b:Nat)(T:TypeId)(p0 v d0:Value)(w:World)(hb:w.heap[b]? = some (.cells #[p0,v,d0] T (0,0)))(hp:p0=.pointer (some ⟨b,0,none⟩)∨p0=.pointer none∧T=PT):
 Calls Tryz.prog 62 #[.pointer (some ⟨b,0,none⟩)] w fun e w'=>e=.returned (.tuple #[])∧w'.heap[b]? = some (.cells #[.pointer (some ⟨b,0,none⟩),v,d0] T (0,0))∧
  (∀c,c≠b→w'.heap[c]? = w.heap[c]?)∧w'.heap.size=w.heap.size∧w'.os=w.os∧w'.tape=w.tape∧w'.output=w.output:=by
 rcases hp with rfl|⟨rfl,rfl⟩
 ·refine(Ca b w (by simp[World.cell?,hb])).mono ?_;rintro e w' ⟨rfl,rfl⟩;exact⟨rfl,hb,fun _ _=>rfl,rfl,rfl,rfl,rfl⟩
 ·refine(DZ b w (by simp[World.cell?,hb]) (by simp[World.shape?,hb]) (by simp[World.frozen?,hb])).mono ?_;rintro e w' ⟨rfl,rfl⟩;obtain⟨h1,h2,h3,h4⟩:=uh w b 0 (.pointer (some ⟨b,0,none⟩));exact⟨rfl,C9 w b 0 _ hb,fun c hc=>nC w b 0 _ hc,h1,h2,h3,h4⟩
structure Wrote(w w':World)(b:Nat)(T:TypeId)(v v' d0:Value)(n:Nat)(xs:List Value):Prop where
 blk:w'.heap[b]? = some (.cells #[.pointer (some ⟨b,0,none⟩),v',d0] T (0,0))
 row:w'.ownsRow 0 U8 1 v' n xs
 other:∀c,c<w.heap.size→c≠b→v'.ownBlock≠some c→w'.heap[c]? = w.heap[c]?
 place:v'.ownBlock=none∨v'.ownBlock=v.ownBlock∨v'.ownBlock=some w.heap.size
 size:w.heap.size≤w'.heap.size
 os:w'.os=w.os
 tape:w'.tape=w.tape
 output:w'.output=w.output
set_option maxHeartbeats 2000000 in
set_option maxRecDepth 100000 in
theorem D9(b:Nat)(T:TypeId)(p0 v d0:Value)(n:Nat)(xs:List Value)(s:ByteArray)(w:World)(hb:w.heap[b]? = some (.cells #[p0,v,d0] T (0,0)))(hp:p0=.pointer (some ⟨b,0,none⟩)∨p0=.pointer none∧T=PT)
 (hown:w.ownsRow 0 U8 1 v n xs)(hne:v.ownBlock≠some b)(hlen:n+s.size≤140737488355328):
 Calls Tryz.prog 44 #[.pointer (some ⟨b,0,none⟩),.string s] w fun e w'=>e=.returned (.tuple #[.int .i64 s.size,.nilIface])∧∃v',Wrote w w' b T v v' d0 (n+s.size) (xs++Lib.strCells s):=by
 obtain⟨i0,hi,hz0,hz1,hz2⟩:=wW;have hlt:b<w.heap.size:=(Array.getElem?_eq_some_iff.1 hb).1;go_enter Tryz.func44,Tryz.ntmps44;go_wp2_with (go_at_call 62;refine(Ci b T p0 v d0 _ hb hp).mono ?_);rintro e w1 ⟨rfl,hb1,ho1,hs1,hr1,hr2,hr3⟩;have hown1:w1.ownsRow 0 U8 1 v n xs:=⟨hown.1,hown.2.imp id fun⟨g,cap,cur,e1,e2,e3,e4⟩=>⟨g,cap,cur,e1,e2,by rw[ho1 g (fun e=>hne (by rw[e1,←e];rfl))];exact e3,e4⟩⟩
 have c0:w1.cell? ⟨b,0,none⟩=some (.pointer (some ⟨b,0,none⟩)):=by rw[Lib.cell_of_heap hb1];rfl
 have c1:w1.cell? ⟨b,1,none⟩=some v:=by rw[Lib.cell_of_heap hb1];rfl
 go_wp2_with (at_builtin;refine mQ rfl _ _ 60 9 rfl U8 i0 Tryz.underlying60 Tryz.underlying9 hi hz0 hz1 hz2 v n xs rfl hown1 s rfl hlen ?_);intro v' w2 hown' hoth hplace hz1' hz2' hz3' hz4';have hrest:=And.intro hz1' (And.intro hz2' (And.intro hz3' hz4'))
 have hnb:v'.ownBlock≠some b:=by
  rcases hplace with h|h|h
  ·rw[h];exact fun e=>by cases e
  ·rw[h];exact hne
  ·rw[h];intro e;cases e;omega
 have hb2:w2.heap[b]? = some (.cells #[.pointer (some ⟨b,0,none⟩),v,d0] T (0,0)):=by rw[hoth b (by omega) hnb];exact hb1
 have d0':w2.cell? ⟨b,0,none⟩=some (.pointer (some ⟨b,0,none⟩)):=by rw[Lib.cell_of_heap hb2];rfl
 have d1:w2.cell? ⟨b,1,none⟩=some v:=by rw[Lib.cell_of_heap hb2];rfl
 have f1:w2.frozen? ⟨b,1,none⟩=false:=Lib.frozen_of_heap hb2 1
 obtain⟨ao,n',cap,rfl⟩:∃ao n' cap,v'=.slice ao n' cap:=by
  rcases hown'.2 with⟨hv,_⟩|⟨g,cap,cur,hv,_⟩
  ·exact⟨_,_,_,hv⟩
  ·exact⟨_,_,_,hv⟩
 go_wp2;go_ret2;obtain⟨q1,q2,q3,q4⟩:=uh w2 b 1 (.slice ao n' cap);refine⟨rfl,.slice ao n' cap,C9 w2 b 1 _ hb2,⟨hown'.1,hown'.2.imp id fun⟨g,cap,cur,e1,e2,e3,e4⟩=>⟨g,cap,cur,e1,e2,by rw[nC _ _ _ _ (fun e=>hnb (by rw[e1,←e];rfl))];exact e3,e4⟩⟩,fun c hc hcb hcv=>?_,?_,?_,?_,?_,?_⟩
 ·rw[nC _ _ _ _ hcb,hoth c (by omega) hcv,ho1 c hcb]
 ·first|exact hplace|(rw[←hs1];exact hplace)
 ·rw[q1];omega
 ·rw[q2,hrest.2.1]<;>first|rfl|exact hr1
 ·rw[q3,hrest.2.2.1]<;>first|rfl|exact hr2
 ·rw[q4,hrest.2.2.2]<;>first|rfl|exact hr3
set_option maxHeartbeats 1200000 in
set_option maxRecDepth 100000 in
theorem xQ(b g cap:Nat)(l:List UInt8)(w:World)(hown:w.ownsRow 0 U8 1 (.slice (some ⟨g,0,none⟩) l.length cap) l.length (Lib.byteCells l))(c1:w.drew.cell? ⟨b,1,none⟩=some (.slice (some ⟨g,0,none⟩) l.length cap))(h0:l≠[]):
 Calls Tryz.prog 33 #[.pointer (some ⟨b,0,none⟩)] w fun e w'=>e=.returned (.string ⟨l.toArray⟩)∧w'=w.drew.freeze ⟨g,0,none⟩ l.length:=by
 have hl0:l.length≠0:=by simpa using h0
 obtain⟨cur,hg,hnc,hcm,hcs⟩:∃cur,w.heap[g]? = some (.cells cur U8 (0,0))∧l.length≤cap∧cap≤maxLen∧cur.size=cap*1:=by
  rcases hown.2 with⟨e,-⟩|⟨g',cap',cur,e,r1,r2,r3,r4,r5,-⟩
  ·cases e
  ·cases e;exact⟨cur,r2,r3,r4,r5⟩
 have hcb:Tryz.prog.cellsOf U8=1:=by kernel_rfl
 have hSD:(Builtin.unsafeSliceData_ #[60] 82 #[.slice (some ⟨g,0,none⟩) l.length cap]).run Tryz.prog w.drew=.ok (.pointer (some ⟨g,0,none⟩)) w.drew:=
  Lib.run_unsafeSliceData_row _ _ _ _ _ _ (by omega)
 have hUS:(Builtin.unsafeString_ #[82,3] 9 #[.pointer (some ⟨g,0,none⟩),.int .i64 l.length]).run Tryz.prog w.drew=.ok (.string ⟨l.toArray⟩) (w.drew.freeze ⟨g,0,none⟩ l.length):=by
  refine Lib.run_unsafeString_row w.drew 82 3 9 U8 Tryz.underlying82 hcb g cur.size (by have hg':w.drew.heap[g]? = some (.cells cur U8 (0,0)):=hg;simp[World.shape?,hg']) l h0 (by omega) (by unfold maxLen at hcm;omega) ?_;intro j x hx;have:=hown.cells (g:=g) rfl j (.int .u8 x.toNat) (by simp[Lib.byteCells,hx]);exact this
 clear hown hg;go_enter Tryz.func33,Tryz.ntmps33;go_wp2;go_region;all_goals (go_wp2;go_ret;exact⟨rfl,rfl⟩)
set_option maxHeartbeats 1200000 in
set_option maxRecDepth 100000 in
theorem Ai(b:Nat)(w:World)(c1:w.drew.cell? ⟨b,1,none⟩=some (.slice none 0 0)):
 Calls Tryz.prog 33 #[.pointer (some ⟨b,0,none⟩)] w fun e w'=>e=.returned (.string ⟨#[]⟩)∧w'=w.drew:=by
 have hUS:∀(W:World) (q:Option Addr),(Builtin.unsafeString_ #[82,3] 9 #[.pointer q,.int .i64 0]).run Tryz.prog W=.ok (.string .empty) W:=fun W q=>Lib.run_unsafeString_none W _ _ _ q;have hSD:(Builtin.unsafeSliceData_ #[60] 82 #[.slice none 0 0]).run Tryz.prog w.drew=.ok (.pointer none) w.drew:=rfl;go_enter Tryz.func33,Tryz.ntmps33;go_wp2;go_region;all_goals (go_wp2;go_ret;exact⟨rfl,rfl⟩)
abbrev az(n:Int):D:=.lit (.int .i64 n)
abbrev an(s:ByteArray):D:=.lit (.string s)
def cT(l:List ByteArray):D:=.sl (l.map fun s=>[an s])
section
variable {M : av} {w : World}
theorem jX{bm:List Nat}(hM:M.hold w){l:List ByteArray}{v:Value}(h:Rep M bm (.d (cT l)) v):cG w l v:=by
 cases h with
 | d h=>
 unfold cT at h;generalize hrs:(l.map fun s=>[an s])=rows at h;have hlen:rows.length=l.length:=by rw[←hrs];simp
 cases h with
 | sl _ k p cap val hk hd hf hc hm=>
 rw[hlen];refine⟨p,cap,rfl,by omega,hm,fun i s hi=>?_⟩;have hil:=(List.getElem?_eq_some_iff.1 hi).1;have hir:i<rows.length:=by omega
 obtain⟨b,off,rfl,h6⟩:=hf i hir;have hri:rows[i]=[an s]:=by subst hrs;simp[(List.getElem?_eq_some_iff.1 hi).2]
 have hk1:k=1:=by rw[←hk _ (List.getElem_mem hir),hri];rfl
 subst hk1;refine⟨b,off,rfl,?_⟩;have h7:=h6 0 (by omega);have h8:=hd i 0 hir (by rw[hri];simp);simp only[hri,List.getElem_cons_zero,an]at h8;generalize hv:val i 0=u at h7 h8;cases h8 with|lit _ _=>
 have:=hM _ _ _ h7;simpa using this
theorem uO(hG:G.cells M)(hM:M.hold w):lk w:=by
 obtain⟨val,h1,h2⟩:=hG 1 [cT dz] (by rfl);have h3:=h2 0 (by simp);have h4:=h1 0 (by simp);simp only[List.getElem_cons_zero]at h3;exact⟨val 0,hM _ _ _ h4,jX (bm:=[]) hM (.d h3)⟩
end
theorem yT{f:FuncId}{fn:Func}{args:List V}{u:Value}{σ:List (List V)}(hf:Tryz.prog.funcs[f]? = some fn)(hn:(fn.name == "runtime.NumGoroutine")=false)(hb:fn.body.isNone=false)(hu:ce u)
 (h:∀(M:av) (bm:List Nat) (pr:Nat→Prop) (w:World) (vs:List Value),G.glob M pr w→M.hold w→vs.length=args.length→(∀i (h:i<args.length) (h':i<vs.length),Rep M bm args[i] vs[i])→Calls Tryz.prog f vs.toArray w fun e w'=>e=.returned u∧Ext w w'):
 Fun G f args σ (aZ (.d (.lit u)) σ):=by
 refine⟨ck (P:=Tryz.prog) hf hn hb,fun M bm tk pr w vs hG hI ht hl hr=>(h M bm pr w vs hG hI.facts hl hr).mono fun e w' ⟨he,hx⟩=>?_⟩;obtain⟨h1,h2⟩:=hI.ext hx;refine⟨M,bm,tk,σ,.ret (.d (.lit u)),⟨rfl,rfl⟩,h1,h2,fun v e=>?_,fun v e=>by cases e⟩;cases e;exact⟨u,he,.d (.lit u hu),fun _ _ _ e=>by cases e⟩
theorem pO{f:FuncId}{fn:Func}{a:V}{u:Value}{σ:List (List V)}(hf:Tryz.prog.funcs[f]? = some fn)(hn:(fn.name == "runtime.NumGoroutine")=false)(hb:fn.body.isNone=false)(hu:ce u)
 (h:∀(M:av) (bm:List Nat) (pr:Nat→Prop) (w:World) (v:Value),G.glob M pr w→M.hold w→Rep M bm a v→Calls Tryz.prog f #[v] w fun e w'=>e=.returned u∧Ext w w'):Fun G f [a] σ (aZ (.d (.lit u)) σ):=
 yT hf hn hb hu fun M bm pr w vs hG hM hl hr=>match vs,hl with
  | [v],_=>h M bm pr w v hG hM (hr 0 (by simp) (by simp))
theorem t7{f:FuncId}{fn:Func}{a b:V}{u:Value}{σ:List (List V)}(hf:Tryz.prog.funcs[f]? = some fn)(hn:(fn.name == "runtime.NumGoroutine")=false)(hb:fn.body.isNone=false)(hu:ce u)
 (h:∀(M:av) (bm:List Nat) (pr:Nat→Prop) (w:World) (v v':Value),G.glob M pr w→M.hold w→Rep M bm a v→Rep M bm b v'→Calls Tryz.prog f #[v,v'] w fun e w'=>e=.returned u∧Ext w w'):Fun G f [a,b] σ (aZ (.d (.lit u)) σ):=
 yT hf hn hb hu fun M bm pr w vs hG hM hl hr=>match vs,hl with
  | [v,v'],_=>h M bm pr w v v' hG hM (hr 0 (by simp) (by simp)) (hr 1 (by simp) (by simp))
def De(w w':World):av:=fun b o=>if w.heap.size≤b then w'.cell? ⟨b,o,none⟩else none
end Go.Proofs.YtcbahpllcfbkmaaGreatDoor
namespace Go.Proofs.YtcbahpllcfbkmaaGreatDoor
open Go.RowKit
def pgc(i:Nat)(t:Option (List UInt8))(k:Int):List V:=match t with|none=>tyc PT k|some t=>pgu U8 i t k
def pge(i:Nat)(t:Option (List UInt8))(k:Int):List V:=match t with|none=>tyc PT k|some _=>[.ptr i 0,.junk,.d (.lit (.int .i64 k))]
theorem uM{M:av}{bm:List Nat}{σ:List (List V)}{tk:aY}{pr:Nat→Prop}{w:World}(hI:Inv M bm σ tk pr w){i b:Nat}{k:Int}{T:TypeId}(hb0:bm[i]? = some b)(hs:σ[i]? = some (tyc T k)):
 ce (.int .i64 k)∧w.heap[b]? = some (.cells #[.pointer none,.slice none 0 0,.int .i64 k] T (0,0)):=by
 rcases hI.box i b _ hb0 hs with⟨vs,T',h1,h2,h3⟩|⟨st,kv,es,clock,e0,-⟩|⟨T',q,e0,hf,h1⟩
 ·have h4:=h3 0 (by simp[tyc]) (by simp[tyc]at h2;omega);have h5:=h4.1.rep;simp only[tyc,List.getElem_cons_zero]at h5
  obtain⟨vs',hv⟩:∃vs',vs[0]'(by simp[tyc]at h2;omega)=.tuple vs':=by
   generalize vs[0]'(by simp[tyc]at h2;omega)=u at h5;cases h5;exact⟨_,rfl⟩
  have h6:=h4.2;rw[hv]at h6;cases h6
 ·simp[tyc]at e0
 ·simp only[tyc,List.cons.injEq,V.tup.injEq,V.d.injEq,D.lit.injEq,Value.int.injEq,and_true,true_and,Int.natCast_inj]at e0;obtain⟨rfl,rfl⟩:=e0;exact⟨hf,h1⟩
theorem B8{M:av}{bm:List Nat}{σ:List (List V)}{tk:aY}{pr:Nat→Prop}{w:World}(hI:Inv M bm σ tk pr w){i b:Nat}{k:Int}{t:Option (List UInt8)}(hb0:bm[i]? = some b)(hs:σ[i]? = some (pgc i t k)):
 ∃T p0 v,w.heap[b]? = some (.cells #[p0,v,.int .i64 k] T (0,0))∧(p0=.pointer (some ⟨b,0,none⟩)∨p0=.pointer none∧T=PT)∧ce (.int .i64 k)∧w.ownsRow 0 U8 1 v (t.getD []).length (hU (t.getD []))∧v.ownBlock≠some b∧
  ((v=.slice none 0 0∧(t.getD []).length=0)∨∃g,tk (some i) 1=some g∧v.ownBlock=some g∧∀o x,M g o=some x→o<(t.getD []).length):=by
 cases t with
 | none=>
  obtain⟨hf,h1⟩:=uM hI hb0 hs;exact⟨PT,_,_,h1,.inr ⟨rfl,rfl⟩,hf,World.ownsRow_nil _ _ _ _,(fun e=>by cases e),.inl ⟨rfl,rfl⟩⟩
 | some t=>
  obtain⟨T,v,h1,h2,h3,h4,h5⟩:=hI.pgu_mem hb0 hs;exact⟨T,_,v,h1,.inl rfl,h2,h3,h4,h5⟩
theorem zn(i:Nat)(t:Option (List UInt8))(k:Int)(s:ByteArray)(hl:(t.getD []).length+s.size≤140737488355328)(σ:List (List V))(hs:σ[i]? = some (pgc i t k)):
 Fun G 44 [.ptr i 0,.d (an s)] σ (fun o σ'=>o=.ret (.tup [.d (az s.size),.d (.lit .nilIface)])∧σ'=σ.set i (pgc i (some (t.getD []++s.data.toList)) k)):=by
 refine⟨ck (P:=Tryz.prog) Tryz.func44 (by kernel_rfl) (by kernel_rfl),fun M bm tk pr w vs hG hI ht hl2 hr=>?_⟩
 match vs,hl2 with
 | [v0,v1],_=>
 have r0:Rep M bm (.ptr i 0) v0:=hr 0 (by simp) (by simp);have r1:Rep M bm (.d (an s)) v1:=hr 1 (by simp) (by simp);clear hr;obtain⟨b,hb0,rfl⟩:∃b,bm[i]? = some b∧v0=.pointer (some ⟨b,0,none⟩):=by cases r0 with|ptr h=>exact⟨_,h,rfl⟩
 obtain⟨rfl,hsm⟩:=Rep.str_inv r1;obtain⟨T,p0,v,h1,h2,h3,h4,h5,h6⟩:=B8 hI hb0 hs;refine(D9 b T p0 v (.int .i64 k) (t.getD []).length (hU (t.getD [])) s w h1 h2 h4 h5 hl).mono ?_;rintro e w' ⟨rfl,v',hW⟩;have hlen:(t.getD []++s.data.toList).length=(t.getD []).length+s.size:=by rw[List.length_append];rfl
 have hcell:hU (t.getD []++s.data.toList)=hU (t.getD [])++Lib.strCells s:=by rw[ve];exact List.map_append
 have hcl:(hU (t.getD [])).length=(t.getD []).length:=List.length_map ..;obtain⟨M',tk',g1,g2⟩:=Inv.rewr (t:=t.getD []++s.data.toList) hI hb0 (List.getElem?_eq_some_iff.1 hs).1 h3 h6 h4 (by rw[hlen];omega) (by rw[hcell,List.take_left' hcl]) hW.blk (by rw[hlen,hcell];exact hW.row) hW.other (hW.place.imp id (Or.imp id fun h=>⟨_,h,Nat.le_refl _⟩)) hW.size hW.os hW.tape hW.output;refine⟨M',bm,tk',_,.ret (.tup [.d (az s.size),.d (.lit .nilIface)]),⟨rfl,rfl⟩,g1,g2,fun x e=>?_,fun x e=>by cases e⟩;cases e;have hm:maxLen=9223372036854775807:=rfl;refine⟨_,rfl,.tup rfl fun j hj hj'=>?_,fun _ _ _ e=>by cases e⟩
 match j,hj with
 | 0,_=>exact .d (.lit _ ⟨by show(-9223372036854775808:Int)≤_;omega,by show _≤(9223372036854775807:Int);omega⟩)
 | 1,_=>exact .d (.lit _ trivial)
theorem Aa(i:Nat)(t:Option (List UInt8))(k:Int)(hne:t≠some [])(hl:(t.getD []).length≤140737488355328)(σ:List (List V))(hs:σ[i]? = some (pgc i t k)):
 Fun G 33 [.ptr i 0] σ (fun o σ'=>o=.ret (.d (an ⟨(t.getD []).toArray⟩))∧σ'=σ.set i (pge i t k)):=by
 refine⟨ck (P:=Tryz.prog) Tryz.func33 (by kernel_rfl) (by kernel_rfl),fun M bm tk pr w vs hG hI ht hl2 hr=>?_⟩
 match vs,hl2 with
 | [v0],_=>
 have r0:Rep M bm (.ptr i 0) v0:=hr 0 (by simp) (by simp);clear hr;obtain⟨b,hb0,rfl⟩:∃b,bm[i]? = some b∧v0=.pointer (some ⟨b,0,none⟩):=by cases r0 with|ptr h=>exact⟨_,h,rfl⟩
 have hm:maxLen=9223372036854775807:=rfl;cases t with
 | none=>
  obtain⟨hf,h1⟩:=uM hI hb0 hs;refine(Ai b w (by have:w.drew.heap[b]? = _:=h1;rw[Lib.cell_of_heap this];rfl)).mono ?_;rintro e w' ⟨rfl,rfl⟩;obtain⟨g1,g2⟩:=hI.setr;refine⟨M,bm,tk,σ,.ret (.d (an ⟨#[]⟩)),⟨rfl,?_⟩,g1,g2,fun x e=>?_,fun x e=>by cases e⟩
  ·apply List.ext_getElem?;intro j;by_cases e:j=i
   ·subst e;rw[List.getElem?_set_self (List.getElem?_eq_some_iff.1 hs).1,hs];rfl
   ·rw[List.getElem?_set_ne (Ne.symm e)]
  ·cases e;exact⟨_,rfl,.d (.lit _ (by show(0:Nat)≤_;omega)),fun _ _ _ e=>by cases e⟩
 | some t=>
  have ht0:t≠[]:=fun e=>hne (by rw[e]);obtain⟨T,v,h1,h2,h3,h4,h5⟩:=hI.pgu_mem hb0 hs
  obtain⟨g,cap,rfl⟩:∃g cap,v=.slice (some ⟨g,0,none⟩) t.length cap:=by
   rcases h3.2 with⟨-,hz⟩|⟨g,cap,cur,hv,-⟩
   ·exact absurd (List.eq_nil_of_length_eq_zero hz) ht0
   ·exact⟨g,cap,hv⟩
  have htk:tk (some i) 1=some g:=by
   rcases h5 with⟨e,-⟩|⟨g',e1,e2,-⟩
   ·cases e
   ·cases e2;exact e1
  refine(xQ b g cap t w h3 (by have:w.drew.heap[b]? = _:=h1;rw[Lib.cell_of_heap this];rfl) ht0).mono ?_;rintro e w' ⟨rfl,rfl⟩
  obtain⟨cur,hgc⟩:∃cur,w.heap[g]? = some (.cells cur U8 (0,0)):=by
   rcases h3.2 with⟨e,-⟩|⟨g',cap',cur,e,r1,r2,-⟩
   ·cases e
   ·cases e;exact⟨cur,r2⟩
  obtain⟨k1,k2,k3⟩:=vZ w.drew g t.length;obtain⟨g1,g2⟩:=hI.lose hs (w':=w.drew.freeze ⟨g,0,none⟩ t.length) (fun c _ hc=>k1 c fun e=>hc (by rw[e];exact htk)) k2 (by rw[k3.1];exact Nat.le_refl _) k3.2.1 k3.2.2.1 k3.2.2.2;refine⟨M,bm,tk,_,.ret (.d (an ⟨t.toArray⟩)),⟨rfl,rfl⟩,g1,g2,fun x e=>?_,fun x e=>by cases e⟩;cases e;exact⟨_,rfl,.d (.lit _ (by show t.length≤_;simp only[Option.getD_some]at hl;omega)),fun _ _ _ e=>by cases e⟩
end Go.Proofs.YtcbahpllcfbkmaaGreatDoor
