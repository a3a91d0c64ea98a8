import Derived.Test.YtcbahpllcfbkmaaGreatDoorBl0
import Derived.Test.YtcbahpllcfbkmaaGreatDoorShelf
import Derived.Test.YtcbahpllcfbkmaaGreatDoorRefs8
set_option linter.unusedVariables false
set_option linter.unusedSimpArgs false
set_option linter.unusedSectionVars false
namespace Go.Proofs.YtcbahpllcfbkmaaGreatDoor
open Go.RowKit
abbrev PT:TypeId:=64
abbrev U8:TypeId:=5
theorem qL:∃i0,Tryz.prog.info? U8=some i0∧i0.zero=some (.int .u8 0)∧i0.size=1∧i0.bytes=1:=by
 have h:(Tryz.prog.info? U8).map (fun i=>(i.zero,i.size,i.bytes))=some (some (.int .u8 0),1,1):=by kernel_rfl
 cases hi:Tryz.prog.info? U8 with
 | none=>rw[hi]at h;cases h
 | some i0=>rw[hi]at h;simp only[Option.map_some,Option.some.injEq,Prod.mk.injEq]at h;exact⟨i0,rfl,h.1,h.2.1,h.2.2⟩
theorem n8:∃j,Tryz.prog.info? 62=some j∧j.size=2:=by
 have h:(Tryz.prog.info? 62).map (·.size)=some 2:=by kernel_rfl
 exact Option.map_eq_some_iff.1 h
theorem rn:liesAt Tryz.prog Tryz.prog.depth PT (3/Tryz.prog.cellsOf PT) 0 62 1=true:=by kernel_rfl
set_option maxHeartbeats 1200000 in
set_option maxRecDepth 100000 in
theorem yE(b:Nat)(w:World)(h0:w.cell? ⟨b,0,none⟩=some (.pointer (some ⟨b,0,none⟩))):
 Calls Tryz.prog 62 #[.pointer (some ⟨b,0,none⟩)] w fun e w'=>e=.returned (.tuple #[])∧w'=w:=by
 obtain⟨j,hj,-⟩:=n8;go_enter Tryz.func62,Tryz.ntmps62;go_wp2;rw[Lib.run_neq_ptr_same w _ Tryz.underlying59 hj];go_wp2;go_end0;exact⟨rfl,rfl⟩
set_option maxHeartbeats 1200000 in
set_option maxRecDepth 100000 in
theorem zO(b:Nat)(w:World)(h0:w.cell? ⟨b,0,none⟩=some (.pointer none))(hsh:w.shape? b=some (PT,3))(hfz:w.frozen? ⟨b,0,none⟩=false):
 Calls Tryz.prog 62 #[.pointer (some ⟨b,0,none⟩)] w fun e w'=>e=.returned (.tuple #[])∧w'=w.setCell ⟨b,0,none⟩ (.pointer (some ⟨b,0,none⟩)):=by
 obtain⟨j,hj,hjs⟩:=n8;go_enter Tryz.func62,Tryz.ntmps62;go_wp2;rw[Lib.run_to_unsafe w ⟨b,0,none⟩ Tryz.underlying59 Tryz.underlying124 hj (by rw[hjs];decide) hsh (show(0:Nat)<3 by decide)];simp only[Result.andThen];rw[Oper.upon_value];go_wp2;rw[run_callFunc_extern Tryz.func101 (by kernel_rfl) (by kernel_rfl) (by kernel_rfl) (e:=Extern.AbiNoEscape.same) (by kernel_rfl)];rw[Lib.run_noEscape];simp only[Result.andThen];rw[Oper.upon_value];go_wp2;rw[Lib.run_from_unsafe w ⟨b,0,none⟩ Tryz.underlying124 Tryz.underlying59 hj hsh rn];simp only[Result.andThen];rw[Oper.upon_value];go_wp2;go_end0;exact⟨rfl,rfl⟩
theorem yr(b:Nat)(T:TypeId)(p0 v d0:Value)(w:World)(hb:w.heap[b]? = some (.cells #[p0,v,d0] T (0,0)))(hp:p0=.pointer (some ⟨b,0,none⟩)∨p0=.pointer none∧T=PT):
 Calls Tryz.prog 62 #[.pointer (some ⟨b,0,none⟩)] w fun e w'=>e=.returned (.tuple #[])∧w'.heap[b]? = some (.cells #[.pointer (some ⟨b,0,none⟩),v,d0] T (0,0))∧
  (∀c,c≠b→w'.heap[c]? = w.heap[c]?)∧w'.heap.size=w.heap.size∧w'.os=w.os∧w'.tape=w.tape∧w'.output=w.output:=by
 rcases hp with rfl|⟨rfl,rfl⟩
 ·refine(yE b w (by simp[World.cell?,hb])).mono ?_;rintro e w' ⟨rfl,rfl⟩;exact⟨rfl,hb,fun _ _=>rfl,rfl,rfl,rfl,rfl⟩
 ·refine(zO b w (by simp[World.cell?,hb]) (by simp[World.shape?,hb]) (by simp[World.frozen?,hb])).mono ?_;rintro e w' ⟨rfl,rfl⟩;obtain⟨h1,h2,h3,h4⟩:=qD w b 0 (.pointer (some ⟨b,0,none⟩));exact⟨rfl,yH w b 0 _ hb,fun c hc=>ko w b 0 _ hc,h1,h2,h3,h4⟩
structure Wrote(w w':World)(b:Nat)(T:TypeId)(v v' d0:Value)(n:Nat)(xs:List Value):Prop where
 blk:w'.heap[b]? = some (.cells #[.pointer (some ⟨b,0,none⟩),v',d0] T (0,0))
 row:w'.ownsRow 0 U8 1 v' n xs
 other:∀c,c<w.heap.size→c≠b→v'.ownBlock≠some c→w'.heap[c]? = w.heap[c]?
 place:v'.ownBlock=none∨v'.ownBlock=v.ownBlock∨v'.ownBlock=some w.heap.size
 size:w.heap.size≤w'.heap.size
 os:w'.os=w.os
 tape:w'.tape=w.tape
 output:w'.output=w.output
set_option maxHeartbeats 2000000 in
set_option maxRecDepth 100000 in
theorem zu(b:Nat)(T:TypeId)(p0 v d0:Value)(n:Nat)(xs:List Value)(s:ByteArray)(w:World)(hb:w.heap[b]? = some (.cells #[p0,v,d0] T (0,0)))(hp:p0=.pointer (some ⟨b,0,none⟩)∨p0=.pointer none∧T=PT)
 (hown:w.ownsRow 0 U8 1 v n xs)(hne:v.ownBlock≠some b)(hlen:n+s.size≤140737488355328):
 Calls Tryz.prog 44 #[.pointer (some ⟨b,0,none⟩),.string s] w fun e w'=>e=.returned (.tuple #[.int .i64 s.size,.nilIface])∧∃v',Wrote w w' b T v v' d0 (n+s.size) (xs++Lib.strCells s):=by
 obtain⟨i0,hi,hz0,hz1,hz2⟩:=qL;have hlt:b<w.heap.size:=(Array.getElem?_eq_some_iff.1 hb).1;go_enter Tryz.func44,Tryz.ntmps44;go_wp2_with (go_at_call 62;refine(yr b T p0 v d0 _ hb hp).mono ?_);rintro e w1 ⟨rfl,hb1,ho1,hs1,hr1,hr2,hr3⟩;have hown1:w1.ownsRow 0 U8 1 v n xs:=⟨hown.1,hown.2.imp id fun⟨g,cap,cur,e1,e2,e3,e4⟩=>⟨g,cap,cur,e1,e2,by rw[ho1 g (fun e=>hne (by rw[e1,←e];rfl))];exact e3,e4⟩⟩
 have c0:w1.cell? ⟨b,0,none⟩=some (.pointer (some ⟨b,0,none⟩)):=by rw[Lib.cell_of_heap hb1];rfl
 have c1:w1.cell? ⟨b,1,none⟩=some v:=by rw[Lib.cell_of_heap hb1];rfl
 go_wp2_with (at_builtin;refine la rfl _ _ 60 9 rfl U8 i0 Tryz.underlying60 Tryz.underlying9 hi hz0 hz1 hz2 v n xs rfl hown1 s rfl hlen ?_);intro v' w2 hown' hoth hplace hz1' hz2' hz3' hz4';have hrest:=And.intro hz1' (And.intro hz2' (And.intro hz3' hz4'))
 have hnb:v'.ownBlock≠some b:=by
  rcases hplace with h|h|h
  ·rw[h];exact fun e=>by cases e
  ·rw[h];exact hne
  ·rw[h];intro e;cases e;omega
 have hb2:w2.heap[b]? = some (.cells #[.pointer (some ⟨b,0,none⟩),v,d0] T (0,0)):=by rw[hoth b (by omega) hnb];exact hb1
 have d0':w2.cell? ⟨b,0,none⟩=some (.pointer (some ⟨b,0,none⟩)):=by rw[Lib.cell_of_heap hb2];rfl
 have d1:w2.cell? ⟨b,1,none⟩=some v:=by rw[Lib.cell_of_heap hb2];rfl
 have f1:w2.frozen? ⟨b,1,none⟩=false:=Lib.frozen_of_heap hb2 1
 obtain⟨ao,n',cap,rfl⟩:∃ao n' cap,v'=.slice ao n' cap:=by
  rcases hown'.2 with⟨hv,_⟩|⟨g,cap,cur,hv,_⟩
  ·exact⟨_,_,_,hv⟩
  ·exact⟨_,_,_,hv⟩
 go_wp2;go_ret2;obtain⟨q1,q2,q3,q4⟩:=qD w2 b 1 (.slice ao n' cap);refine⟨rfl,.slice ao n' cap,yH w2 b 1 _ hb2,⟨hown'.1,hown'.2.imp id fun⟨g,cap,cur,e1,e2,e3,e4⟩=>⟨g,cap,cur,e1,e2,by rw[ko _ _ _ _ (fun e=>hnb (by rw[e1,←e];rfl))];exact e3,e4⟩⟩,fun c hc hcb hcv=>?_,?_,?_,?_,?_,?_⟩
 ·rw[ko _ _ _ _ hcb,hoth c (by omega) hcv,ho1 c hcb]
 ·first|exact hplace|(rw[←hs1];exact hplace)
 ·rw[q1];omega
 ·rw[q2,hrest.2.1]<;>first|rfl|exact hr1
 ·rw[q3,hrest.2.2.1]<;>first|rfl|exact hr2
 ·rw[q4,hrest.2.2.2]<;>first|rfl|exact hr3
set_option maxHeartbeats 1200000 in
set_option maxRecDepth 100000 in
theorem vt(b g cap:Nat)(l:List UInt8)(w:World)(hown:w.ownsRow 0 U8 1 (.slice (some ⟨g,0,none⟩) l.length cap) l.length (Lib.byteCells l))(c1:w.drew.cell? ⟨b,1,none⟩=some (.slice (some ⟨g,0,none⟩) l.length cap))(h0:l≠[]):
 Calls Tryz.prog 33 #[.pointer (some ⟨b,0,none⟩)] w fun e w'=>e=.returned (.string ⟨l.toArray⟩)∧w'=w.drew.freeze ⟨g,0,none⟩ l.length:=by
 have hl0:l.length≠0:=by simpa using h0
 obtain⟨cur,hg,hnc,hcm,hcs⟩:∃cur,w.heap[g]? = some (.cells cur U8 (0,0))∧l.length≤cap∧cap≤maxLen∧cur.size=cap*1:=by
  rcases hown.2 with⟨e,-⟩|⟨g',cap',cur,e,r1,r2,r3,r4,r5,-⟩
  ·cases e
  ·cases e;exact⟨cur,r2,r3,r4,r5⟩
 have hcb:Tryz.prog.cellsOf U8=1:=by kernel_rfl
 have hSD:(Builtin.unsafeSliceData_ #[60] 82 #[.slice (some ⟨g,0,none⟩) l.length cap]).run Tryz.prog w.drew=.ok (.pointer (some ⟨g,0,none⟩)) w.drew:=
  Lib.run_unsafeSliceData_row _ _ _ _ _ _ (by omega)
 have hUS:(Builtin.unsafeString_ #[82,3] 9 #[.pointer (some ⟨g,0,none⟩),.int .i64 l.length]).run Tryz.prog w.drew=.ok (.string ⟨l.toArray⟩) (w.drew.freeze ⟨g,0,none⟩ l.length):=by
  refine Lib.run_unsafeString_row w.drew 82 3 9 U8 Tryz.underlying82 hcb g cur.size (by have hg':w.drew.heap[g]? = some (.cells cur U8 (0,0)):=hg;simp[World.shape?,hg']) l h0 (by omega) (by unfold maxLen at hcm;omega) ?_;intro j x hx;have:=hown.cells (g:=g) rfl j (.int .u8 x.toNat) (by simp[Lib.byteCells,hx]);exact this
 clear hown hg;go_enter Tryz.func33,Tryz.ntmps33;go_wp2;go_region;all_goals (go_wp2;go_ret;exact⟨rfl,rfl⟩)
set_option maxHeartbeats 1200000 in
set_option maxRecDepth 100000 in
theorem tC(b:Nat)(w:World)(c1:w.drew.cell? ⟨b,1,none⟩=some (.slice none 0 0)):
 Calls Tryz.prog 33 #[.pointer (some ⟨b,0,none⟩)] w fun e w'=>e=.returned (.string ⟨#[]⟩)∧w'=w.drew:=by
 have hUS:∀(W:World) (q:Option Addr),(Builtin.unsafeString_ #[82,3] 9 #[.pointer q,.int .i64 0]).run Tryz.prog W=.ok (.string .empty) W:=fun W q=>Lib.run_unsafeString_none W _ _ _ q;have hSD:(Builtin.unsafeSliceData_ #[60] 82 #[.slice none 0 0]).run Tryz.prog w.drew=.ok (.pointer none) w.drew:=rfl;go_enter Tryz.func33,Tryz.ntmps33;go_wp2;go_region;all_goals (go_wp2;go_ret;exact⟨rfl,rfl⟩)
end Go.Proofs.YtcbahpllcfbkmaaGreatDoor
