import Derived.Test.YtcbahpllcfbkmaaGreatDoorK
import Derived.Test.YtcbahpllcfbkmaaGreatDoorData
import Derived.Test.YtcbahpllcfbkmaaGreatDoorNames
import Derived.Test.YtcbahpllcfbkmaaGreatDoorSpan
import Derived.Test.YtcbahpllcfbkmaaGreatDoorBl1
set_option linter.unusedVariables false
set_option linter.unusedSimpArgs false
set_option linter.unusedSectionVars false
namespace Go.Proofs.YtcbahpllcfbkmaaGreatDoor
open Go.RowKit
abbrev ay(n:Int):D:=.lit (.int .i64 n)
abbrev am(s:ByteArray):D:=.lit (.string s)
def cx(l:List ByteArray):D:=.sl (l.map fun s=>[am s])
section
variable {M : au} {w : World}
theorem gX{bm:List Nat}(hM:M.hold w){l:List ByteArray}{v:Value}(h:Rep M bm (.d (cx l)) v):ck w l v:=by
 cases h with
 | d h=>
 unfold cx at h;generalize hrs:(l.map fun s=>[am s])=rows at h;have hlen:rows.length=l.length:=by rw[←hrs];simp
 cases h with
 | sl _ k p cap val hk hd hf hc hm=>
 rw[hlen];refine⟨p,cap,rfl,by omega,hm,fun i s hi=>?_⟩;have hil:=(List.getElem?_eq_some_iff.1 hi).1;have hir:i<rows.length:=by omega
 obtain⟨b,off,rfl,h6⟩:=hf i hir;have hri:rows[i]=[am s]:=by subst hrs;simp[(List.getElem?_eq_some_iff.1 hi).2]
 have hk1:k=1:=by rw[←hk _ (List.getElem_mem hir),hri];rfl
 subst hk1;refine⟨b,off,rfl,?_⟩;have h7:=h6 0 (by omega);have h8:=hd i 0 hir (by rw[hri];simp);simp only[hri,List.getElem_cons_zero,am]at h8;generalize hv:val i 0=u at h7 h8;cases h8 with|lit _ _=>
 have:=hM _ _ _ h7;simpa using this
theorem qA(hG:G.cells M)(hM:M.hold w):iW w:=by
 obtain⟨val,h1,h2⟩:=hG 1 [cx cV] (by rfl);have h3:=h2 0 (by simp);have h4:=h1 0 (by simp);simp only[List.getElem_cons_zero]at h3;exact⟨val 0,hM _ _ _ h4,gX (bm:=[]) hM (.d h3)⟩
end
theorem uo{f:FuncId}{fn:Func}{args:List V}{u:Value}{σ:List (List V)}(hf:Tryz.prog.funcs[f]? = some fn)(hn:(fn.name == "runtime.NumGoroutine")=false)(hb:fn.body.isNone=false)(hu:bP u)
 (h:∀(M:au) (bm:List Nat) (pr:Nat→Prop) (w:World) (vs:List Value),G.glob M pr w→M.hold w→vs.length=args.length→(∀i (h:i<args.length) (h':i<vs.length),Rep M bm args[i] vs[i])→Calls Tryz.prog f vs.toArray w fun e w'=>e=.returned u∧Ext w w'):
 Fun G f args σ (a7 (.d (.lit u)) σ):=by
 refine⟨bU (P:=Tryz.prog) hf hn hb,fun M bm tk pr w vs hG hI ht hl hr=>(h M bm pr w vs hG hI.facts hl hr).mono fun e w' ⟨he,hx⟩=>?_⟩;obtain⟨h1,h2⟩:=hI.ext hx;refine⟨M,bm,tk,σ,.ret (.d (.lit u)),⟨rfl,rfl⟩,h1,h2,fun v e=>?_,fun v e=>by cases e⟩;cases e;exact⟨u,he,.d (.lit u hu),fun _ _ _ e=>by cases e⟩
theorem mI{f:FuncId}{fn:Func}{a:V}{u:Value}{σ:List (List V)}(hf:Tryz.prog.funcs[f]? = some fn)(hn:(fn.name == "runtime.NumGoroutine")=false)(hb:fn.body.isNone=false)(hu:bP u)
 (h:∀(M:au) (bm:List Nat) (pr:Nat→Prop) (w:World) (v:Value),G.glob M pr w→M.hold w→Rep M bm a v→Calls Tryz.prog f #[v] w fun e w'=>e=.returned u∧Ext w w'):Fun G f [a] σ (a7 (.d (.lit u)) σ):=
 uo hf hn hb hu fun M bm pr w vs hG hM hl hr=>match vs,hl with
  | [v],_=>h M bm pr w v hG hM (hr 0 (by simp) (by simp))
theorem p7{f:FuncId}{fn:Func}{a b:V}{u:Value}{σ:List (List V)}(hf:Tryz.prog.funcs[f]? = some fn)(hn:(fn.name == "runtime.NumGoroutine")=false)(hb:fn.body.isNone=false)(hu:bP u)
 (h:∀(M:au) (bm:List Nat) (pr:Nat→Prop) (w:World) (v v':Value),G.glob M pr w→M.hold w→Rep M bm a v→Rep M bm b v'→Calls Tryz.prog f #[v,v'] w fun e w'=>e=.returned u∧Ext w w'):Fun G f [a,b] σ (a7 (.d (.lit u)) σ):=
 uo hf hn hb hu fun M bm pr w vs hG hM hl hr=>match vs,hl with
  | [v,v'],_=>h M bm pr w v v' hG hM (hr 0 (by simp) (by simp)) (hr 1 (by simp) (by simp))
def yM(w w':World):au:=fun b o=>if w.heap.size≤b then w'.cell? ⟨b,o,none⟩else none
end Go.Proofs.YtcbahpllcfbkmaaGreatDoor
namespace Go.Proofs.YtcbahpllcfbkmaaGreatDoor
open Go.RowKit
def pgc(i:Nat)(t:Option (List UInt8))(k:Int):List V:=match t with|none=>tyc PT k|some t=>pgu U8 i t k
def pge(i:Nat)(t:Option (List UInt8))(k:Int):List V:=match t with|none=>tyc PT k|some _=>[.ptr i 0,.junk,.d (.lit (.int .i64 k))]
theorem qB{M:au}{bm:List Nat}{σ:List (List V)}{tk:aU}{pr:Nat→Prop}{w:World}(hI:Inv M bm σ tk pr w){i b:Nat}{k:Int}{T:TypeId}(hb0:bm[i]? = some b)(hs:σ[i]? = some (tyc T k)):
 bP (.int .i64 k)∧w.heap[b]? = some (.cells #[.pointer none,.slice none 0 0,.int .i64 k] T (0,0)):=by
 rcases hI.box i b _ hb0 hs with⟨vs,T',h1,h2,h3⟩|⟨st,kv,es,clock,e0,-⟩|⟨T',q,e0,hf,h1⟩
 ·have h4:=h3 0 (by simp[tyc]) (by simp[tyc]at h2;omega);have h5:=h4.1.rep;simp only[tyc,List.getElem_cons_zero]at h5
  obtain⟨vs',hv⟩:∃vs',vs[0]'(by simp[tyc]at h2;omega)=.tuple vs':=by
   generalize vs[0]'(by simp[tyc]at h2;omega)=u at h5;cases h5;exact⟨_,rfl⟩
  have h6:=h4.2;rw[hv]at h6;cases h6
 ·simp[tyc]at e0
 ·simp only[tyc,List.cons.injEq,V.tup.injEq,V.d.injEq,D.lit.injEq,Value.int.injEq,and_true,true_and,Int.natCast_inj]at e0;obtain⟨rfl,rfl⟩:=e0;exact⟨hf,h1⟩
theorem xr{M:au}{bm:List Nat}{σ:List (List V)}{tk:aU}{pr:Nat→Prop}{w:World}(hI:Inv M bm σ tk pr w){i b:Nat}{k:Int}{t:Option (List UInt8)}(hb0:bm[i]? = some b)(hs:σ[i]? = some (pgc i t k)):
 ∃T p0 v,w.heap[b]? = some (.cells #[p0,v,.int .i64 k] T (0,0))∧(p0=.pointer (some ⟨b,0,none⟩)∨p0=.pointer none∧T=PT)∧bP (.int .i64 k)∧w.ownsRow 0 U8 1 v (t.getD []).length (fD (t.getD []))∧v.ownBlock≠some b∧
  ((v=.slice none 0 0∧(t.getD []).length=0)∨∃g,tk (some i) 1=some g∧v.ownBlock=some g∧∀o x,M g o=some x→o<(t.getD []).length):=by
 cases t with
 | none=>
  obtain⟨hf,h1⟩:=qB hI hb0 hs;exact⟨PT,_,_,h1,.inr ⟨rfl,rfl⟩,hf,World.ownsRow_nil _ _ _ _,(fun e=>by cases e),.inl ⟨rfl,rfl⟩⟩
 | some t=>
  obtain⟨T,v,h1,h2,h3,h4,h5⟩:=hI.pgu_mem hb0 hs;exact⟨T,_,v,h1,.inl rfl,h2,h3,h4,h5⟩
theorem vO(i:Nat)(t:Option (List UInt8))(k:Int)(s:ByteArray)(hl:(t.getD []).length+s.size≤140737488355328)(σ:List (List V))(hs:σ[i]? = some (pgc i t k)):
 Fun G 44 [.ptr i 0,.d (am s)] σ (fun o σ'=>o=.ret (.tup [.d (ay s.size),.d (.lit .nilIface)])∧σ'=σ.set i (pgc i (some (t.getD []++s.data.toList)) k)):=by
 refine⟨bU (P:=Tryz.prog) Tryz.func44 (by kernel_rfl) (by kernel_rfl),fun M bm tk pr w vs hG hI ht hl2 hr=>?_⟩
 match vs,hl2 with
 | [v0,v1],_=>
 have r0:Rep M bm (.ptr i 0) v0:=hr 0 (by simp) (by simp);have r1:Rep M bm (.d (am s)) v1:=hr 1 (by simp) (by simp);clear hr;obtain⟨b,hb0,rfl⟩:∃b,bm[i]? = some b∧v0=.pointer (some ⟨b,0,none⟩):=by cases r0 with|ptr h=>exact⟨_,h,rfl⟩
 obtain⟨rfl,hsm⟩:=Rep.str_inv r1;obtain⟨T,p0,v,h1,h2,h3,h4,h5,h6⟩:=xr hI hb0 hs;refine(zu b T p0 v (.int .i64 k) (t.getD []).length (fD (t.getD [])) s w h1 h2 h4 h5 hl).mono ?_;rintro e w' ⟨rfl,v',hW⟩;have hlen:(t.getD []++s.data.toList).length=(t.getD []).length+s.size:=by rw[List.length_append];rfl
 have hcell:fD (t.getD []++s.data.toList)=fD (t.getD [])++Lib.strCells s:=by rw[rE];exact List.map_append
 have hcl:(fD (t.getD [])).length=(t.getD []).length:=List.length_map ..;obtain⟨M',tk',g1,g2⟩:=Inv.rewr (t:=t.getD []++s.data.toList) hI hb0 (List.getElem?_eq_some_iff.1 hs).1 h3 h6 h4 (by rw[hlen];omega) (by rw[hcell,List.take_left' hcl]) hW.blk (by rw[hlen,hcell];exact hW.row) hW.other (hW.place.imp id (Or.imp id fun h=>⟨_,h,Nat.le_refl _⟩)) hW.size hW.os hW.tape hW.output;refine⟨M',bm,tk',_,.ret (.tup [.d (ay s.size),.d (.lit .nilIface)]),⟨rfl,rfl⟩,g1,g2,fun x e=>?_,fun x e=>by cases e⟩;cases e;have hm:maxLen=9223372036854775807:=rfl;refine⟨_,rfl,.tup rfl fun j hj hj'=>?_,fun _ _ _ e=>by cases e⟩
 match j,hj with
 | 0,_=>exact .d (.lit _ ⟨by show(-9223372036854775808:Int)≤_;omega,by show _≤(9223372036854775807:Int);omega⟩)
 | 1,_=>exact .d (.lit _ trivial)
theorem nC(i:Nat)(t:Option (List UInt8))(k:Int)(hne:t≠some [])(hl:(t.getD []).length≤140737488355328)(σ:List (List V))(hs:σ[i]? = some (pgc i t k)):
 Fun G 33 [.ptr i 0] σ (fun o σ'=>o=.ret (.d (am ⟨(t.getD []).toArray⟩))∧σ'=σ.set i (pge i t k)):=by
 refine⟨bU (P:=Tryz.prog) Tryz.func33 (by kernel_rfl) (by kernel_rfl),fun M bm tk pr w vs hG hI ht hl2 hr=>?_⟩
 match vs,hl2 with
 | [v0],_=>
 have r0:Rep M bm (.ptr i 0) v0:=hr 0 (by simp) (by simp);clear hr;obtain⟨b,hb0,rfl⟩:∃b,bm[i]? = some b∧v0=.pointer (some ⟨b,0,none⟩):=by cases r0 with|ptr h=>exact⟨_,h,rfl⟩
 have hm:maxLen=9223372036854775807:=rfl;cases t with
 | none=>
  obtain⟨hf,h1⟩:=qB hI hb0 hs;refine(tC b w (by have:w.drew.heap[b]? = _:=h1;rw[Lib.cell_of_heap this];rfl)).mono ?_;rintro e w' ⟨rfl,rfl⟩;obtain⟨g1,g2⟩:=hI.setr;refine⟨M,bm,tk,σ,.ret (.d (am ⟨#[]⟩)),⟨rfl,?_⟩,g1,g2,fun x e=>?_,fun x e=>by cases e⟩
  ·apply List.ext_getElem?;intro j;by_cases e:j=i
   ·subst e;rw[List.getElem?_set_self (List.getElem?_eq_some_iff.1 hs).1,hs];rfl
   ·rw[List.getElem?_set_ne (Ne.symm e)]
  ·cases e;exact⟨_,rfl,.d (.lit _ (by show(0:Nat)≤_;omega)),fun _ _ _ e=>by cases e⟩
 | some t=>
  have ht0:t≠[]:=fun e=>hne (by rw[e]);obtain⟨T,v,h1,h2,h3,h4,h5⟩:=hI.pgu_mem hb0 hs
  obtain⟨g,cap,rfl⟩:∃g cap,v=.slice (some ⟨g,0,none⟩) t.length cap:=by
   rcases h3.2 with⟨-,hz⟩|⟨g,cap,cur,hv,-⟩
   ·exact absurd (List.eq_nil_of_length_eq_zero hz) ht0
   ·exact⟨g,cap,hv⟩
  have htk:tk (some i) 1=some g:=by
   rcases h5 with⟨e,-⟩|⟨g',e1,e2,-⟩
   ·cases e
   ·cases e2;exact e1
  refine(vt b g cap t w h3 (by have:w.drew.heap[b]? = _:=h1;rw[Lib.cell_of_heap this];rfl) ht0).mono ?_;rintro e w' ⟨rfl,rfl⟩
  obtain⟨cur,hgc⟩:∃cur,w.heap[g]? = some (.cells cur U8 (0,0)):=by
   rcases h3.2 with⟨e,-⟩|⟨g',cap',cur,e,r1,r2,-⟩
   ·cases e
   ·cases e;exact⟨cur,r2⟩
  obtain⟨k1,k2,k3⟩:=rZ w.drew g t.length;obtain⟨g1,g2⟩:=hI.lose hs (w':=w.drew.freeze ⟨g,0,none⟩ t.length) (fun c _ hc=>k1 c fun e=>hc (by rw[e];exact htk)) k2 (by rw[k3.1];exact Nat.le_refl _) k3.2.1 k3.2.2.1 k3.2.2.2;refine⟨M,bm,tk,_,.ret (.d (am ⟨t.toArray⟩)),⟨rfl,rfl⟩,g1,g2,fun x e=>?_,fun x e=>by cases e⟩;cases e;exact⟨_,rfl,.d (.lit _ (by show t.length≤_;simp only[Option.getD_some]at hl;omega)),fun _ _ _ e=>by cases e⟩
end Go.Proofs.YtcbahpllcfbkmaaGreatDoor
