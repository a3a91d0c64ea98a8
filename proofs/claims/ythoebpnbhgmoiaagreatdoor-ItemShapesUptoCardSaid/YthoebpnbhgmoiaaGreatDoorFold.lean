import Derived.Test.YthoebpnbhgmoiaaGreatDoorData
import Derived.Test.YthoebpnbhgmoiaaGreatDoorNames2
import Derived.Laws.ResultCell
import Derived.Test.YthoebpnbhgmoiaaGreatDoorEval
set_option linter.unusedVariables false
set_option linter.unusedSimpArgs false
set_option linter.unusedSectionVars false
open List renaming getElem_append_right→JH,getElem_append_left→JI
namespace Go.Proofs.YthoebpnbhgmoiaaGreatDoor
open Go.RowKit
structure Built(D0:Nat→Prop)(B:Nat)(rs:List Ex)(u:Value)(css:List (List Value))(w:World):Prop where
 row:w.ownsRow 0 38 4 u css.length css.flatten
 len:css.length=rs.length
 els:∀k (h:k<css.length) (h':k<rs.length),ExIn (fun b=>D0 b∨(B≤b∧u.ownBlock≠some b)) w rs[k] css[k]
 new:∀k,u.ownBlock=some k→B≤k
theorem Built.nil(D0:Nat→Prop)(B:Nat)(w:World):Built D0 B [] (.slice none 0 0) [] w:=
 ⟨World.ownsRow_nil _ _ _ _,rfl,fun k h=>by simp at h,by simp[Value.ownBlock]⟩
theorem Built.four{D0:Nat→Prop}{B:Nat}{rs:List Ex}{u:Value}{css:List (List Value)}{w:World}(h:Built D0 B rs u css w):∀cs,cs∈css→cs.length=4:=by
 intro cs hcs;obtain⟨k,hk,rfl⟩:=List.getElem_of_mem hcs;exact(h.els k hk (by rw[←h.len];exact hk)).len
theorem Built.ext{D0:Nat→Prop}{B:Nat}{rs:List Ex}{u:Value}{css:List (List Value)}{w w':World}(hx:Ext w w')(h:Built D0 B rs u css w):Built D0 B rs u css w':=
 ⟨AG hx h.row,h.len,fun k h1 h2=>(h.els k h1 h2).ext hx,h.new⟩
theorem Built.step{D0:Nat→Prop}{B:Nat}(hD0:∀k,D0 k→k<B){rs:List Ex}{u:Value}{css:List (List Value)}{wr w1 w3:World}(h:Built D0 B rs u css wr)(hB:B≤wr.heap.size){r:Ex}{cs:List Value}
 (hx:Ext wr w1)(hcs:ExIn (fun k=>D0 k∨wr.heap.size≤k) w1 r cs){g cap:Nat}(hg:Grew w1 38 4 u (css.length+1) (css.flatten++cs) g cap w3):
 Built D0 B (rs++[r]) (.slice (some ⟨g,0,none⟩) (css.length+1) cap) (css++[cs]) w3:=by
 have hk:Keep (fun k=>u.ownBlock=some k) w1 w3:=(Keep.refl _ w1).grown hg.grown (fun k hk=>.inl hk);have hgB:B≤g:=hg.new.elim (h.new g) (fun hh=>Nat.le_trans hB (Nat.le_trans hx.size hh));have hog:∀k,u.ownBlock=some k→k<wr.heap.size:=fun k hk=>(h.row.lt k hk).2;refine⟨?_,by simp[h.len],?_,fun k hk=>by simp[Value.ownBlock]at hk;omega⟩
 ·simpa using hg.row
 ·intro k h1 h2;by_cases hkl:k<css.length
  ·have hkr:k<rs.length:=by rw[←h.len];exact hkl
   have h9:=((h.els k hkl hkr).mono (D':=fun b=>D0 b∨(B≤b∧u.ownBlock≠some b∧b<wr.heap.size)) (fun b hb hlt=>hb.imp id (fun hh=>⟨hh.1,hh.2,hlt⟩))).ext hx
   have h10:=h9.keep hk (fun b hb ho=>by
    rcases hb with hb|hb
    ·have:=hD0 b hb;have:=h.new b ho;omega
    ·exact hb.2.1 ho)
   simp only[JI hkl,JI hkr];refine h10.mono (fun b hb _=>hb.imp id (fun hh=>⟨hh.1,fun e=>?_⟩));simp[Value.ownBlock]at e;subst e;rcases hg.new with h11|h11
   ·exact hh.2.1 h11
   ·have:=hx.size;omega
  ·have hkc:k=css.length:=by simp at h1;omega
   subst hkc;have hrl:rs.length=css.length:=h.len.symm;simp only[JH (Nat.le_refl _),JH (Nat.le_of_eq hrl),hrl,Nat.sub_self,List.getElem_cons_zero]
   have h9:=(hcs.mono (D':=fun b=>D0 b∨(wr.heap.size≤b∧b<w1.heap.size)) (fun b hb hlt=>hb.imp id (fun hh=>⟨hh,hlt⟩))).keep hk (fun b hb ho=>by
    have:=hog b ho;rcases hb with hb|hb
    ·have:=hD0 b hb;have:=h.new b ho;omega
    ·omega)
   refine h9.mono (fun b hb _=>hb.imp id (fun hh=>⟨by omega,fun e=>?_⟩));simp[Value.ownBlock]at e;subst e;rcases hg.new with h11|h11
   ·have:=hog g h11;omega
   ·omega
theorem Built.slice{D0:Nat→Prop}{B:Nat}{rs:List Ex}{u:Value}{css:List (List Value)}{w:World}(h:Built D0 B rs u css w):qv (fun b=>D0 b∨B≤b) w 4 u css:=
 xd h.row h.four (fun k hk=>.inr (h.new k hk))
theorem Built.expr{D0:Nat→Prop}{B:Nat}{rs:List Ex}{u:Value}{css:List (List Value)}{w:World}(h:Built D0 B rs u css w){o n:Int}{s:ByteArray}
 (ho : -9223372036854775808≤o∧o≤9223372036854775807)(hn : -9223372036854775808≤n∧n≤9223372036854775807)(hs:s.size≤maxLen):
 ExIn (fun b=>D0 b∨B≤b) w (.mk o n s rs) [.int .i64 o,.int .i64 n,.string s,u]:=
 .mk o n s rs u css h.len (fun i h1 h2=>(h.els i h2 h1).mono (fun b hb _=>hb.imp id (·.1))) h.slice ho hn hs
theorem Tryz.infoE:(Tryz.prog.info? 38).map (fun i=>(i.zero,i.size,i.bytes))=some (some (.agg #[.int .i64 0,.int .i64 0,.string ⟨#[]⟩,.slice none 0 0]),4,56):=by kernel_rfl
def By(F:FuncId)(cap:Array Value)(D0:Nat→Prop)(f:Ex→Ex)(w0:World)(l:List Ex):Prop:=
 ∀a,a∈l→∀(v:Value) (w:World),Ext w0 w→dh w0 a v→Calls Tryz.prog F (#[v]++cap) w (gy D0 (f a) w)
set_option maxRecDepth 100000 in
set_option maxHeartbeats 2000000 in
theorem lB{F:FuncId}{cap:Array Value}(f:Ex→Ex)(hF:∀args w,(callFunc F args).run Tryz.prog w=.ok (.enter F args) w)(D0:Nat→Prop)(w0:World)
 (hD0:∀k,D0 k→k<w0.heap.size)(e:Ex)(hby:By F cap D0 f w0 e.args)(hlen:e.args.length≤1000000000)(v:Value)(w:World)(h0:Ext w0 w)(hv:dh w0 e v):
 Calls Tryz.prog 162 #[v,.func (.func F) #[] cap] w (gy D0 (.mk e.op e.num e.name (e.args.map f)) w):=by
 obtain⟨q,cp,rfl,hl,h1,h2,hbo,hbn,hbs⟩:=cE hv;cases e with
 | mk o m nm l=>
 simp only[Ex.op,Ex.num,Ex.name,Ex.args]at *;have HBO:=Lib.hid (And.intro hbo (And.intro hbn hbs));clear hbo hbn hbs;have HB:=Lib.hid hby;clear hby;have HL:=Lib.hid hl;clear hl;have H0:=Lib.hid h0;clear h0;have HD:=Lib.hid hD0;clear hD0;clear hv;obtain⟨i0,hi,hz0,hz1,hz2⟩:=info_parts Tryz.infoE;have HF:=Lib.hid hF;go_enter Tryz.func162,Tryz.ntmps162;go_wp2_with fail;go_loopw [5,11,7] (fun u i _ wr=>∃(j:Nat) (css:List (List Value)),i=.int .i64 j∧j≤l.length∧Built D0 (w.heap.size+2) ((l.take j).map f) u css wr∧Ext ((w.alloc (.cells #[.int .i64 o,.int .i64 m,.string nm,.slice q l.length cp] 38)).alloc (.cells #[.int .i64 0,.int .i64 0,.string ⟨#[]⟩,.slice none 0 0] 38)) wr) (fun _ i _ _=>l.length-(intOf i).toNat);case atStart=>exact⟨0,[],rfl,Nat.zero_le _,Built.nil _ _ _,Ext.refl _⟩
 case round=>
  obtain⟨j,css,rfl,hj,hbuilt,hext⟩:=hrel;have hsz:w.heap.size+2≤wr.heap.size:=by have:=hext.size;simp at this;omega
  have hcl:css.length=j:=by have:=hbuilt.len;simp at this;omega
  have HBU:=Lib.hid hbuilt;clear hbuilt;have HX:=Lib.hid hext;clear hext;have HCL:=Lib.hid hcl;clear hcl;have h0r:Ext w0 wr:=H0.out.trans HX.out.past.past;have H0R:=Lib.hid h0r;clear h0r;by_cases hlt:j<l.length
  ·obtain⟨b,off,cs,rfl,hr,hc⟩:=nj HL.out hlt;obtain⟨sv,gv,gl,q2,q3,q4,q5⟩:=m8 hr hc;obtain⟨p',cp',rfl,-,-⟩:=gq gl;have r2:=H0R.out.cell q2;have r3:=H0R.out.cell q3;have r4:=H0R.out.cell q4;have r5:=H0R.out.cell q5;clear q2 q3 q4 q5 hr hc gl;have GV:=Lib.hid gv;clear gv;have hcon:=fun w' hx=>HB.out (l[j]'hlt) (List.getElem_mem hlt) (.agg #[.int .i64 (l[j]'hlt).op,.int .i64 (l[j]'hlt).num,.string (l[j]'hlt).name,.slice p' (l[j]'hlt).args.length cp']) w' hx GV.out;have HCON:=Lib.hid hcon;clear hcon;go_wp2_with fail;refine(HCON.out _ (H0R.out.alloc _)).mono ?_;rintro en w2 ⟨cs2,rfl,hcs2,hy⟩;obtain⟨k0,k1,k2,k3,k4,k5,rfl⟩:=ke hcs2;have hxy:Ext wr w2:=((Ext.refl wr).alloc _).trans hy;have hbu2:=HBU.out.ext (hxy.alloc (.cells #[.int .i64 k0,.int .i64 k1,.string k2,.slice k3 k4 k5] 38));have HBU2:=Lib.hid hbu2;clear hbu2
   have HCS:=Lib.hid (ExIn.ext ((Ext.refl w2).alloc (.cells #[.int .i64 k0,.int .i64 k1,.string k2,.slice k3 k4 k5] 38)) (hcs2.mono (D':=fun k=>D0 k∨wr.heap.size≤k) (fun b hb _=>hb.imp id (fun h=>by simp at h;omega))));clear hcs2;have HXY:=Lib.hid hxy;clear hxy;clear hy;go_wp2_with (at_builtin;refine nS _ rfl (.tmp 15) (.tmp 19) 36 rfl 38 i0 (.agg #[.int .i64 0,.int .i64 0,.string ⟨#[]⟩,.slice none 0 0]) 4 56 Tryz.underlying36 hi hz0 hz1 hz2 rfl (by decide) u5 css.length css.flatten rfl HBU2.out.row ⟨w2.heap.size,0,none⟩ 1 1 [.int .i64 k0,.int .i64 k1,.string k2,.slice k3 k4 k5] rfl rfl ?c1 ?c2 ?c3 ?c4 (by decide) ?_);case c1=>exact yg _ _ _ _ _ _
   case c2=>intro u hu;simp at hu;rcases hu with rfl|rfl|rfl|rfl<;>rfl
   case c3=>unfold maxLen;have:=HCL.out;omega
   case c4=>have:=HCL.out;omega
   intro g cap1 w3 hgr;have hst:=HBU.out.step (fun k hk=>by have:=HD.out k hk;have:=H0.out.size;omega) (by omega) (HXY.out.alloc _) HCS.out hgr;have hx3:=((((Keep.of_ext (O:=fun k=>u5.ownBlock=some k) (HX.out.trans HXY.out)).alloc _).grown hgr.grown (fun k hk=>.inl hk))).ext (Ext.refl _) (fun x hx=>by have:=HBU.out.new x hx;simp;omega);have HST:=Lib.hid hst;clear hst;have HX3:=Lib.hid hx3;clear hx3;clear hgr;go_wp2_with fail;go_roundw
   case rel=>
    refine⟨j+1,css++[[.int .i64 k0,.int .i64 k1,.string k2,.slice k3 k4 k5]],by go_num,by omega,?_,HX3.out⟩;have h9:=HST.out;rw[List.take_succ_eq_append_getElem hlt,List.map_append];exact h9
   case measure=>simp[intOf];omega
  ·have:j=l.length:=by omega
   subst this;have hsl:=HBU.out.slice;obtain⟨pu,cu,hu,-,-,-⟩:=hsl;subst hu;obtain⟨hs1,hs2⟩:=HX.out.two4;obtain⟨c0,c1,c2,c3⟩:=St4.cells hs1;obtain⟨f0,f1,f2,f3⟩:=St4.frozen hs1;obtain⟨d0,d1,d2,d3⟩:=St4.cells hs2;obtain⟨g0,g1,g2,g3⟩:=St4.frozen hs2;clear hs1 hs2;go_wp2_with fail
   have hk:Keep (fun k=>w.heap.size≤k∧k<w.heap.size+2) wr (((((wr.setCell {block:=w.heap.size,off:=3} (Value.slice pu css.length cu)).setCell {block:=w.heap.size+1,off:=0} (Value.int IntKind.i64 o)).setCell {block:=w.heap.size+1,off:=1} (Value.int IntKind.i64 m)).setCell {block:=w.heap.size+1,off:=2} (Value.string nm)).setCell {block:=w.heap.size+1,off:=3} (Value.slice pu css.length cu)):=by
    refine Keep.setCell (Keep.setCell (Keep.setCell (Keep.setCell (Keep.setCell (Keep.refl _ _) (.inl ?_) _) (.inl ?_) _) (.inl ?_) _) (.inl ?_) _) (.inl ?_) _<;>(constructor<;>simp only[]<;>omega)
   have hext:=hk.ext HX.out.past.past (fun x hx=>hx.1)
   have hex:=(HBU.out.expr HBO.out.1 HBO.out.2.1 HBO.out.2.2).keep hk (fun b hb ho=>by rcases hb with hb|hb;· have:=HD.out b hb;have:=H0.out.size;omega
                                                                                       ·omega)
   rw[List.take_length]at hex;refine bodyPost_ret (v:=.agg #[.int .i64 o,.int .i64 m,.string nm,.slice pu css.length cu]) (by simp[results,Tryz.results162,go_sem,d0,d1,d2,d3]) rfl ?_;exact⟨_,rfl,hex.mono (fun b hb _=>hb.imp id (fun h=>by omega)),hext⟩
mutual
def ki:Ex→Prop
 | .mk _ _ _ l=>l.length≤1000000000∧lq l
def lq:List Ex→Prop
 | []=>True
 | a::r=>ki a∧lq r
end
theorem lq.mem{l:List Ex}(h:lq l){a:Ex}(ha:a∈l):ki a:=by
 induction l with
 | nil=>cases ha
 | cons b r ih=>
  rw[lq]at h;rcases List.mem_cons.1 ha with rfl|ha
  ·exact h.1
  ·exact ih h.2 ha
theorem ki.len{e:Ex}(h:ki e):e.args.length≤1000000000:=by cases e;rw[ki]at h;exact h.1
theorem ki.mem{e:Ex}(h:ki e){a:Ex}(ha:a∈e.args):ki a:=by cases e;rw[ki]at h;exact h.2.mem ha
theorem gy.end4{D0 D1:Nat→Prop}{e:Ex}{w w2:World}{B N:Nat}{x y z t:Value}(hx:Ext w w2)(h:ExIn (fun k=>D1 k∨N≤k) w2 e [x,y,z,t])(hw:w.heap.size≤B)(hB:B<N)(hd:∀k,D1 k→D0 k∧k<w.heap.size):
 gy D0 e w (.returned (.agg #[x,y,z,t])) ((((w2.setCell ⟨B,0,none⟩ x).setCell ⟨B,1,none⟩ y).setCell ⟨B,2,none⟩ z).setCell ⟨B,3,none⟩ t):=by
 have hk:Keep (fun k=>k=B) w2 ((((w2.setCell ⟨B,0,none⟩ x).setCell ⟨B,1,none⟩ y).setCell ⟨B,2,none⟩ z).setCell ⟨B,3,none⟩ t):=
  Keep.setCell (p:=⟨B,3,none⟩) (Keep.setCell (p:=⟨B,2,none⟩) (Keep.setCell (p:=⟨B,1,none⟩) (Keep.setCell (p:=⟨B,0,none⟩) (Keep.refl (fun k=>k=B) w2) (.inl rfl) _) (.inl rfl) _) (.inl rfl) _) (.inl rfl) _
 refine⟨_,rfl,(h.keep hk (fun b hb ho=>?_)).mono (fun b hb _=>hb.imp (fun h=>(hd b h).1) (fun h=>by omega)),hk.ext hx (fun x hx=>by omega)⟩;rcases hb with hb|hb
 ·have:=(hd b hb).2;omega
 ·omega
theorem Tryz.copiedF:∀args w,(callFunc 161 args).run Tryz.prog w=.ok (.enter 161 args) w:=eD Tryz.func161 (by kernel_rfl) (by kernel_rfl)
set_option maxRecDepth 100000 in
theorem sc(e:Ex):ki e→∀(v:Value) (w:World),dh w e v→Calls Tryz.prog 161 #[v] w (gy (fun _=>False) e w):=by
 induction e using Ex.ind with
 | h o m s l ih=>
 intro hs v w hv;have IH:=Lib.hid ih;clear ih;have HS:=Lib.hid hs;clear hs
 have hc:∀w1,Ext w w1→Calls Tryz.prog 162 #[v,.func (.func 161) #[] #[]] w1 (gy (fun _=>False) (.mk o m s l) w1):=by
  intro w1 hx;have:=lB (cap := #[]) id Tryz.copiedF (fun _=>False) w1 (fun _ h=>h.elim) (.mk o m s l) (fun a ha v w h0 hv=>IH.out a ha (HS.out.mem ha) v w (hv.ext h0)) HS.out.len v w1 (Ext.refl _) (hv.ext hx);simpa only[Ex.op,Ex.num,Ex.name,Ex.args,List.map_id_fun,id_eq]using this
 obtain⟨p,cp,rfl,hl,h1,h2,-,-,-⟩:=cE hv;have HC:=Lib.hid hc;clear hc;clear hv hl;simp only[Ex.op,Ex.num,Ex.name,Ex.args]at *;go_enter Tryz.func161,Tryz.ntmps161;go_wp2_with fail;refine(HC.out _ (((Ext.refl w).alloc _).alloc _)).mono ?_;rintro en w2 ⟨cs2,rfl,hcs2,hy⟩;obtain⟨k0,k1,k2,k3,k4,k5,rfl⟩:=ke hcs2;obtain⟨hs1,hs2⟩:=hy.two4;obtain⟨d0,d1,d2,d3⟩:=St4.cells hs2;obtain⟨g0,g1,g2,g3⟩:=St4.frozen hs2;clear hs1 hs2;have HCS:=Lib.hid hcs2;clear hcs2;have HX:=Lib.hid hy;clear hy;go_wp2_with fail;refine bodyPost_ret (v:=.agg #[.int .i64 k0,.int .i64 k1,.string k2,.slice k3 k4 k5]) (by simp[results,Tryz.results161,go_sem,d0,d1,d2,d3]) rfl ?_;exact gy.end4 HX.out.past.past HCS.out (by omega) (by simp) (fun _ h=>h.elim)
mutual
def fy(nm:ByteArray)(b:Ex):Ex→Ex
 | .mk o m s l=>if(o==2&&decide (s=nm))then b else .mk o m s (pi nm b l)
def pi(nm:ByteArray)(b:Ex):List Ex→List Ex
 | []=>[]
 | a::r=>fy nm b a::pi nm b r
end
theorem i5(nm:ByteArray)(b:Ex)(l:List Ex):pi nm b l=l.map (fy nm b):=by
 induction l with
 | nil=>rw[pi];rfl
 | cons a r ih=>rw[pi,ih];rfl
theorem Tryz.subst1F:∀args w,(callFunc 163 args).run Tryz.prog w=.ok (.enter 163 args) w:=eD Tryz.func163 (by kernel_rfl) (by kernel_rfl)
def Cz(nm:ByteArray)(b:Ex)(e:Ex):Prop:=
 ∀(v vb:Value) (w:World),dh w e v→dh w b vb→Calls Tryz.prog 141 #[v,.string nm,vb] w (gy (fun _=>False) (fy nm b e) w)
set_option maxRecDepth 100000 in
theorem tv{nm:ByteArray}{b e:Ex}(h:Cz nm b e)(v:Value)(w:World)(hv:dh w e v)(b1 b2:Nat)(q:Option Addr)(cq:Nat)(hb:dh w b (.agg #[.int .i64 b.op,.int .i64 b.num,.string b.name,.slice q b.args.length cq]))
 (h1:w.cell? ⟨b1,0,none⟩=some (.string nm))(h2:St4 b2 38 (.int .i64 b.op) (.int .i64 b.num) (.string b.name) (.slice q b.args.length cq) w):
 Calls Tryz.prog 163 #[v,.pointer (some ⟨b1,0,none⟩),.pointer (some ⟨b2,0,none⟩)] w (gy (fun _=>False) (fy nm b e) w):=by
 obtain⟨p,cp,rfl,hl,hh1,hh2,-,-,-⟩:=cE hv;obtain⟨c0,c1,c2,c3⟩:=St4.cells h2;have l1:=pA h1;have l2:=pA c0;have hc:=fun w1 (hx:Ext w w1)=>h _ _ w1 (hv.ext hx) (hb.ext hx);have HC:=Lib.hid hc;clear hc;clear hv hl h2 hb h;go_enter Tryz.func163,Tryz.ntmps163;go_wp2_with fail;refine(HC.out _ (((Ext.refl w).alloc _).alloc _)).mono ?_;rintro en w2 ⟨cs2,rfl,hcs2,hy⟩;obtain⟨k0,k1,k2,k3,k4,k5,rfl⟩:=ke hcs2;obtain⟨hs1,hs2⟩:=hy.two4;obtain⟨d0,d1,d2,d3⟩:=St4.cells hs2;obtain⟨g0,g1,g2,g3⟩:=St4.frozen hs2;clear hs1 hs2;have HCS:=Lib.hid hcs2;clear hcs2;have HX:=Lib.hid hy;clear hy;go_wp2_with fail;refine bodyPost_ret (v:=.agg #[.int .i64 k0,.int .i64 k1,.string k2,.slice k3 k4 k5]) (by simp[results,Tryz.results163,go_sem,d0,d1,d2,d3]) rfl ?_;exact gy.end4 HX.out.past.past HCS.out (by omega) (by simp) (fun _ h=>h.elim)
theorem CE(w:World)(T T1:TypeId)(a0 a1 a2 a3 n b0 b1 b2 b3 z0 z1 z2 z3:Value){w':World}
 (h:Ext ((((w.alloc (.cells #[a0,a1,a2,a3] T)).alloc (.cells #[n] T1)).alloc (.cells #[b0,b1,b2,b3] T)).alloc (.cells #[z0,z1,z2,z3] T)) w'):
 St4 w.heap.size T a0 a1 a2 a3 w'∧One (w.heap.size+1) T1 n w'∧St4 (w.heap.size+1+1) T b0 b1 b2 b3 w'∧St4 (w.heap.size+1+1+1) T z0 z1 z2 z3 w':=by
 have hs:w'.heap.size≥w.heap.size+4:=by have:=h.size;simp at this;omega
 have q0:(w.alloc (.cells #[a0,a1,a2,a3] T)).heap[w.heap.size]? = some (.cells #[a0,a1,a2,a3] T (0,0)):=heap_alloc_new _ _
 have q1:((w.alloc (.cells #[a0,a1,a2,a3] T)).alloc (.cells #[n] T1)).heap[w.heap.size+1]? = some (.cells #[n] T1 (0,0)):=by
  have:=heap_alloc_new (w.alloc (.cells #[a0,a1,a2,a3] T)) (.cells #[n] T1);simpa only[World.size_alloc]using this
 have q2:(((w.alloc (.cells #[a0,a1,a2,a3] T)).alloc (.cells #[n] T1)).alloc (.cells #[b0,b1,b2,b3] T)).heap[w.heap.size+2]? = some (.cells #[b0,b1,b2,b3] T (0,0)):=by
  have:=heap_alloc_new ((w.alloc (.cells #[a0,a1,a2,a3] T)).alloc (.cells #[n] T1)) (.cells #[b0,b1,b2,b3] T);simpa only[World.size_alloc,Nat.add_assoc]using this
 have q3:((((w.alloc (.cells #[a0,a1,a2,a3] T)).alloc (.cells #[n] T1)).alloc (.cells #[b0,b1,b2,b3] T)).alloc (.cells #[z0,z1,z2,z3] T)).heap[w.heap.size+3]? = some (.cells #[z0,z1,z2,z3] T (0,0)):=by
  have:=heap_alloc_new (((w.alloc (.cells #[a0,a1,a2,a3] T)).alloc (.cells #[n] T1)).alloc (.cells #[b0,b1,b2,b3] T)) (.cells #[z0,z1,z2,z3] T);simpa only[World.size_alloc,Nat.add_assoc]using this
 have x3:=h;have x2:=x3.past;have x1:=x2.past;have x0:=x1.past;exact⟨(x0.same (by simp)).trans q0,(x1.same (by simp)).trans q1,(x2.same (by simp)).trans q2,(x3.same (by simp)).trans q3⟩
set_option maxRecDepth 100000 in
theorem wg(nm:ByteArray)(b:Ex)(hb:ki b)(e:Ex):ki e→Cz nm b e:=by
 induction e using Ex.ind with
 | h o m s l ih=>
 intro hs v vb w hv hvb;have IH:=Lib.hid ih;clear ih;have HS:=Lib.hid hs;clear hs;obtain⟨q,cq,rfl,-,q1,q2,-,-,-⟩:=cE hvb;cases b with
 | mk bo bm bs bl=>
 simp only[Ex.op,Ex.num,Ex.name,Ex.args]at *
 have hc:∀w1 b1 b2,Ext w w1→One b1 9 (.string nm) w1→St4 b2 38 (.int .i64 bo) (.int .i64 bm) (.string bs) (.slice q bl.length cq) w1→
  Calls Tryz.prog 162 #[v,.func (.func 163) #[] #[.pointer (some ⟨b1,0,none⟩),.pointer (some ⟨b2,0,none⟩)]] w1 (gy (fun _=>False) (.mk o m s (l.map (fy nm (.mk bo bm bs bl)))) w1):=by
  intro w1 b1 b2 hx ho hs4
  have:=lB (cap := #[.pointer (some ⟨b1,0,none⟩),.pointer (some ⟨b2,0,none⟩)]) (fy nm (.mk bo bm bs bl)) Tryz.subst1F (fun _=>False) w1 (fun _ h=>h.elim) (.mk o m s l)
   (fun a ha v w2 h0 hv=>tv (IH.out a ha (HS.out.mem ha)) v w2 (hv.ext h0) b1 b2 q cq ((hvb.ext hx).ext h0) (h0.cell ho.cell) (by unfold St4 at *;exact(h0.same (Array.getElem?_eq_some_iff.1 hs4).1).trans hs4)) HS.out.len v w1 (Ext.refl _) (hv.ext hx)
  simpa only[Ex.op,Ex.num,Ex.name,Ex.args]using this
 have hd:∀w1,Ext w w1→Calls Tryz.prog 161 #[.agg #[.int .i64 bo,.int .i64 bm,.string bs,.slice q bl.length cq]] w1 (gy (fun _=>False) (.mk bo bm bs bl) w1):=fun w1 hx=>sc _ hb _ w1 (hvb.ext hx);obtain⟨p,cp,rfl,hl,h1,h2,-,-,-⟩:=cE hv;have HC:=Lib.hid hc;clear hc;have HD:=Lib.hid hd;clear hd;clear hv hl hvb;simp only[Ex.op,Ex.num,Ex.name,Ex.args]at *;have hw:Ext w ((((w.alloc (.cells #[.int .i64 o,.int .i64 m,.string s,.slice p l.length cp] 38)).alloc (.cells #[.string nm] 9)).alloc (.cells #[.int .i64 bo,.int .i64 bm,.string bs,.slice q bl.length cq] 38)).alloc (.cells #[.int .i64 0,.int .i64 0,.string ⟨#[]⟩,.slice none 0 0] 38)):=((((Ext.refl w).alloc _).alloc _).alloc _).alloc _
 obtain⟨-,ho,ht,-⟩:=CE w 38 9 _ _ _ _ _ _ _ _ _ _ _ _ _ (Ext.refl ((((w.alloc (.cells #[.int .i64 o,.int .i64 m,.string s,.slice p l.length cp] 38)).alloc (.cells #[.string nm] 9)).alloc (.cells #[.int .i64 bo,.int .i64 bm,.string bs,.slice q bl.length cq] 38)).alloc (.cells #[.int .i64 0,.int .i64 0,.string ⟨#[]⟩,.slice none 0 0] 38)));have HO:=HC.out _ _ _ hw ho ht;clear ho ht;have HB:=HD.out _ hw;clear hw HC HD;go_enter Tryz.func141,Tryz.ntmps141;by_cases ho:(o==2)=true;all_goals (go_wp2_with fail)
 all_goals (
  first
  | (refine HB.mono ?_;clear HB HO IH HS;have he:fy nm (.mk bo bm bs bl) (.mk o m s l)=.mk bo bm bs bl:=(by rw[fy];(try simp only[gO]at *);simp_all))
  | (refine HO.mono ?_;clear HB HO IH HS;have he:fy nm (.mk bo bm bs bl) (.mk o m s l)=.mk o m s (l.map (fy nm (.mk bo bm bs bl))):=(by rw[fy,i5];(try simp only[gO]at *);simp_all)))
 all_goals (
  rintro en w2 ⟨cs2,rfl,hcs2,hy⟩;obtain⟨k0,k1,k2,k3,k4,k5,rfl⟩:=ke hcs2;obtain⟨-,-,-,hs2⟩:=CE w 38 9 _ _ _ _ _ _ _ _ _ _ _ _ _ hy;obtain⟨d0,d1,d2,d3⟩:=St4.cells hs2;obtain⟨g0,g1,g2,g3⟩:=St4.frozen hs2;clear hs2;rw[←he]at hcs2;have HCS:=Lib.hid hcs2;clear hcs2;have HX:=Lib.hid hy;clear hy;clear he;go_wp2_with fail;refine bodyPost_ret (v:=.agg #[.int .i64 k0,.int .i64 k1,.string k2,.slice k3 k4 k5]) (by simp[results,Tryz.results141,go_sem,d0,d1,d2,d3]) rfl ?_;exact gy.end4 HX.out.past.past.past.past HCS.out (by omega) (by simp) (fun _ h=>h.elim))
end Go.Proofs.YthoebpnbhgmoiaaGreatDoor
