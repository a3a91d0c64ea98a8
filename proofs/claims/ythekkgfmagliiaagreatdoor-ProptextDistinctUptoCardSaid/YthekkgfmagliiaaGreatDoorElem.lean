import Derived.Test.YthekkgfmagliiaaGreatDoorBs
import Derived.Lib.ParseIntB
import Derived.Lib.ParseIntBCases
import Derived.Test.YthekkgfmagliiaaGreatDoorK2
import Derived.Test.YthekkgfmagliiaaGreatDoorData
import Derived.Test.YthekkgfmagliiaaGreatDoorNames
import Derived.Lib.Bytealg
import Derived.Deep.RegionHeld3
import Derived.BigRegion
import Derived.Laws.Externs
import Derived.Deep.Light
import Derived.Lib.IndexLaws
set_option linter.unusedVariables false
set_option linter.unusedSimpArgs false
set_option linter.unusedSectionVars false
namespace Go.Proofs.YthekkgfmagliiaaGreatDoor
open Go.RowKit
def dig(x:UInt8):Bool:=d6 x.toNat
structure ByteP(q:UInt8→Bool)(p:Int→Bool):Prop where
 low:∀b:UInt8,b.toNat<128→p b.toNat=q b
 high:∃v,(∀c:Int,128≤c→p c=v)∧∀b:UInt8,128≤b.toNat→q b=v
theorem BN(s:ByteArray)(k:Nat)(h:k<s.size):s.get! k=s[k]'h:=by
 simp[ByteArray.get!,getElem!_pos,h];rfl
theorem gH(s:ByteArray)(k:Nat)(h:k<s.size):s.data.toList[k]? = some (s[k]'h):=by
 have h1:s.data.toList.length=s.size:=Lib.size_eq s;rw[List.getElem?_eq_getElem (by omega)];rfl
theorem t8(s:ByteArray)(pos:Nat)(h:pos<s.size)(ha:128≤(s[pos]'h).toNat):1≤(Utf8.decode s pos).2∧∀k,k<(Utf8.decode s pos).2→∃hk:pos+k<s.size,128≤(s[pos+k]'hk).toNat:=by
 have e0:s.get! (pos+0)=s[pos]'h:=BN s pos h;have e2:¬(s[pos]'h).toNat<128:=by omega
 have one:∀k,k<1→∃hk:pos+k<s.size,128≤(s[pos+k]'hk).toNat:=fun k hk=>by
  have:k=0:=by omega
  subst this;exact⟨h,ha⟩
 have cont:∀k,(decide (pos+k<s.size)&&((s.get! (pos+k)).toNat/64==2))=true→∃hk:pos+k<s.size,128≤(s[pos+k]'hk).toNat:=fun k hk=>by
  simp only[Bool.and_eq_true,decide_eq_true_eq,beq_iff_eq]at hk;refine⟨hk.1,?_⟩;have:=hk.2;rw[BN s _ hk.1]at this;omega
 simp only[Utf8.decode,e0,e2,if_false];split
 ·rename_i h1;simp only[Bool.and_eq_true]at h1;split
  ·refine⟨by omega,fun k hk=>?_⟩;have:k=0∨k=1:=by simp only at hk;omega
   rcases this with rfl|rfl
   ·exact⟨h,ha⟩
   ·exact cont 1 (by simpa using h1.2)
  ·exact⟨by omega,one⟩
 ·split
  ·rename_i h1;simp only[Bool.and_eq_true]at h1;split
   ·refine⟨by omega,fun k hk=>?_⟩;have:k=0∨k=1∨k=2:=by simp only at hk;omega
    rcases this with rfl|rfl|rfl
    ·exact⟨h,ha⟩
    ·exact cont 1 (by simpa using h1.1.2)
    ·exact cont 2 (by simpa using h1.2)
   ·exact⟨by omega,one⟩
  ·split
   ·rename_i h1;simp only[Bool.and_eq_true]at h1;split
    ·refine⟨by omega,fun k hk=>?_⟩;have:k=0∨k=1∨k=2∨k=3:=by simp only at hk;omega
     rcases this with rfl|rfl|rfl|rfl
     ·exact⟨h,ha⟩
     ·exact cont 1 (by simpa using h1.1.1.2)
     ·exact cont 2 (by simpa using h1.1.2)
     ·exact cont 3 (by simpa using h1.2)
    ·exact⟨by omega,one⟩
   ·exact⟨by omega,one⟩
theorem CK(q:UInt8→Bool):∀(n:Nat) (l:Bs),(∀k,k<n→∃b,l[k]? = some b∧q b=true)→(l.takeWhile q).length=n+((l.drop n).takeWhile q).length
 | 0,l,_=>by simp
 | n+1,[],h=>by obtain⟨b,h1,-⟩:=h 0 (by omega);simp at h1
 | n+1,a::l,h=>by
  obtain⟨b,h1,h2⟩:=h 0 (by omega);simp only[List.getElem?_cons_zero,Option.some.injEq]at h1;subst h1;have:=CK q n l (fun k hk=>by obtain⟨b,h3,h4⟩:=h (k+1) (by omega);exact⟨b,by simpa using h3,h4⟩);rw[List.takeWhile_cons_of_pos h2,List.drop_succ_cons,List.length_cons,this];omega
set_option maxRecDepth 100000 in
theorem CE(F:FuncId)(cap:Array Value)(q:UInt8→Bool)(p:Int→Bool)(hq:ByteP q p)(hF:∀args w,(callFunc F args).run Tryz.prog w=.ok (.enter F args) w)
 (H:∀(c:Int) (w:World),Calls Tryz.prog F (#[.int .i32 c]++cap) w fun e w'=>e=.returned (.bool (p c))∧w=w')(s:ByteArray)(w:World)(hs:s.size≤9223372036854775807):
 Calls Tryz.prog 112 #[.string s,.func (.func F) #[] cap] w fun e w'=>e=.returned (.int .i64 (s.data.toList.takeWhile q).length)∧Ext w w':=by
 have HH:=Lib.hid H;clear H;obtain⟨N,hN⟩:∃N,N=(s.data.toList.takeWhile q).length:=⟨_,rfl⟩
 rw[←hN];have HN:=Lib.hid hN;clear hN;have HQ:=Lib.hid hq;clear hq;go_enter Tryz.func112,Tryz.ntmps112;go_wp2_with fail;go_loopw [5,6] (fun _ _ wr=>∃pos:Nat,pos≤s.size∧wr=w.iter s pos∧N=pos+((s.data.toList.drop pos).takeWhile q).length) (fun _ _ wr=>match wr.heap[w.heap.size]? with|some (.stringIter _ p)=>s.size-p|_=>0);case atStart=>exact⟨0,Nat.zero_le _,rfl,by rw[HN.out];simp⟩
 case round=>
  obtain⟨pos,hp,rfl,hb⟩:=hrel;have HB:=Lib.hid hb;clear hb;by_cases hlt:pos<s.size
  ·have hnx:=fun ty=>lA (P:=Tryz.prog) w s pos ty hlt;have hl:s.data.toList[pos]? = some (s[pos]'hlt):=gH s pos hlt
   have hpq:p (Utf8.decode s pos).1=q (s[pos]'hlt)∧(q (s[pos]'hlt)=true→1≤(Utf8.decode s pos).2∧pos+(Utf8.decode s pos).2≤s.size∧N=pos+(Utf8.decode s pos).2+((s.data.toList.drop (pos+(Utf8.decode s pos).2)).takeWhile q).length):=by
    have adv:∀n,(∀k,k<n→∃hk:pos+k<s.size,q (s[pos+k]'hk)=true)→pos+n≤s.size∧N=pos+n+((s.data.toList.drop (pos+n)).takeWhile q).length:=fun n h=>by
     have h1:pos+n≤s.size:=by
      cases n with
      | zero=>omega
      | succ n=>obtain⟨hk,-⟩:=h n (by omega);omega
     refine⟨h1,?_⟩;rw[HB.out,CK q n _ (fun k hk=>?_),List.drop_drop]
     ·omega
     ·obtain⟨hk2,h3⟩:=h k hk;exact⟨_,by rw[List.getElem?_drop];exact gH s _ hk2,h3⟩
    by_cases ha:(s[pos]'hlt).toNat<128
    ·rw[decode_ascii s pos hlt ha];refine⟨HQ.out.low _ ha,fun h=>⟨by omega,adv 1 fun k hk=>?_⟩⟩;have:k=0:=by omega
     subst this;exact⟨hlt,h⟩
    ·obtain⟨v,h1,h2⟩:=HQ.out.high;have hd:=ju s pos hlt (by omega);obtain⟨g1,g2⟩:=t8 s pos hlt (by omega);rw[h1 _ (by omega),h2 _ (by omega)];refine⟨rfl,fun h=>⟨g1,adv _ fun k hk=>?_⟩⟩;obtain⟨g3,g4⟩:=g2 k hk;exact⟨g3,by rw[h2 _ g4];exact h⟩
   have HPQ:=Lib.hid hpq;clear hpq;generalize hrd:(Utf8.decode s pos).1=rn at *;generalize hwd:(Utf8.decode s pos).2=wd at *;cases hqv:q (s[pos]'hlt)with
   | true=>
    go_wp2_with fail;refine(HH.out _ _).mono ?_;rintro e2 w2 ⟨rfl,rfl⟩;have hpv:=HPQ.out.1;rw[hqv]at hpv;rw[hpv];obtain⟨g1,g2,g3⟩:=HPQ.out.2 hqv;go_wp2_with fail;go_roundw;case rel=>exact⟨pos+wd,g2,rfl,g3⟩
    case measure=>simp[World.iter_heap];omega
   | false=>
    go_wp2_with fail;refine(HH.out _ _).mono ?_;rintro e2 w2 ⟨rfl,rfl⟩;have hpv:=HPQ.out.1;rw[hqv]at hpv;rw[hpv];go_wp2_with fail;go_ret;refine⟨bV ?_,(Ext.refl w).iter _ _⟩
    have hnil:(s.data.toList.drop pos).takeWhile q=[]:=by
     rw[List.drop_eq_getElem_cons (by have:=Lib.size_eq s;omega)]
     have:s.data.toList[pos]'(by have:=Lib.size_eq s;omega)=s[pos]'hlt:=by
      have h9:=List.getElem?_eq_getElem (l:=s.data.toList) (i:=pos) (by have:=Lib.size_eq s;omega);rw[hl]at h9;exact(Option.some.inj h9).symm
     rw[List.takeWhile_cons_of_neg (by rw[this,hqv];decide)]
    have h8:=HB.out;rw[hnil]at h8;simp only[List.length_nil,Nat.add_zero]at h8;rw[h8]
  ·have:pos=s.size:=by omega
   subst this;have hnx:=fun ty=>run_next_end (P:=Tryz.prog) w s s.size ty (by omega);go_wp2_with fail;go_ret;refine⟨bV ?_,(Ext.refl w).iter _ _⟩;have h8:=HB.out;rw[List.drop_of_length_le (by have:=Lib.size_eq s;omega)]at h8;simp only[List.takeWhile_nil,List.length_nil,Nat.add_zero]at h8;rw[h8]
abbrev ao(n:Int):D:=.lit (.int .i64 n)
abbrev an(s:ByteArray):D:=.lit (.string s)
def dy(l:List ByteArray):D:=.sl (l.map fun s=>[an s])
section
variable {M : av} {w : World}
theorem iF{bm:List Nat}(hM:M.hold w){l:List ByteArray}{v:Value}(h:Rep M bm (.d (dy l)) v):cZ w l v:=by
 cases h with
 | d h=>
 unfold dy at h;generalize hrs:(l.map fun s=>[an s])=rows at h;have hlen:rows.length=l.length:=by rw[←hrs];simp
 cases h with
 | sl _ k p cap val hk hd hf hc hm=>
 rw[hlen];refine⟨p,cap,rfl,by omega,hm,fun i s hi=>?_⟩;have hil:=(List.getElem?_eq_some_iff.1 hi).1;have hir:i<rows.length:=by omega
 obtain⟨b,off,rfl,h6⟩:=hf i hir;have hri:rows[i]=[an s]:=by subst hrs;simp[(List.getElem?_eq_some_iff.1 hi).2]
 have hk1:k=1:=by rw[←hk _ (List.getElem_mem hir),hri];rfl
 subst hk1;refine⟨b,off,rfl,?_⟩;have h7:=h6 0 (by omega);have h8:=hd i 0 hir (by rw[hri];simp);simp only[hri,List.getElem_cons_zero,an]at h8;generalize hv:val i 0=u at h7 h8;cases h8 with|lit _ _=>
 have:=hM _ _ _ h7;simpa using this
theorem sN(hG:G.cells M)(hM:M.hold w):mw w:=by
 obtain⟨val,h1,h2⟩:=hG 0 [dy dx] (by rfl);have h3:=h2 0 (by simp);have h4:=h1 0 (by simp);simp only[List.getElem_cons_zero]at h3;exact⟨val 0,hM _ _ _ h4,iF (bm:=[]) hM (.d h3)⟩
end
theorem Cc{f:FuncId}{fn:Func}{args:List V}{u:Value}{σ:List (List V)}(hf:Tryz.prog.funcs[f]? = some fn)(hn:(fn.name == "runtime.NumGoroutine")=false)(hb:fn.body.isNone=false)(hu:ct u)
 (h:∀(M:av) (bm:List Nat) (pr:Nat→Prop) (w:World) (vs:List Value),G.glob M pr w→M.hold w→vs.length=args.length→(∀i (h:i<args.length) (h':i<vs.length),Rep M bm args[i] vs[i])→Calls Tryz.prog f vs.toArray w fun e w'=>e=.returned u∧Ext w w'):
 Fun G f args σ (aG (.d (.lit u)) σ):=by
 refine⟨bw (P:=Tryz.prog) hf hn hb,fun M bm tk pr w vs hG hI ht hl hr=>(h M bm pr w vs hG hI.facts hl hr).mono fun e w' ⟨he,hx⟩=>?_⟩;obtain⟨h1,h2⟩:=hI.ext hx;refine⟨M,bm,tk,σ,.ret (.d (.lit u)),⟨rfl,rfl⟩,h1,h2,fun v e=>?_,fun v e=>by cases e⟩;cases e;exact⟨u,he,.d (.lit u hu),fun _ _ _ e=>by cases e⟩
theorem nI{f:FuncId}{fn:Func}{a:V}{u:Value}{σ:List (List V)}(hf:Tryz.prog.funcs[f]? = some fn)(hn:(fn.name == "runtime.NumGoroutine")=false)(hb:fn.body.isNone=false)(hu:ct u)
 (h:∀(M:av) (bm:List Nat) (pr:Nat→Prop) (w:World) (v:Value),G.glob M pr w→M.hold w→Rep M bm a v→Calls Tryz.prog f #[v] w fun e w'=>e=.returned u∧Ext w w'):Fun G f [a] σ (aG (.d (.lit u)) σ):=
 Cc hf hn hb hu fun M bm pr w vs hG hM hl hr=>match vs,hl with
  | [v],_=>h M bm pr w v hG hM (hr 0 (by simp) (by simp))
theorem ny{f:FuncId}{fn:Func}{a b:V}{u:Value}{σ:List (List V)}(hf:Tryz.prog.funcs[f]? = some fn)(hn:(fn.name == "runtime.NumGoroutine")=false)(hb:fn.body.isNone=false)(hu:ct u)
 (h:∀(M:av) (bm:List Nat) (pr:Nat→Prop) (w:World) (v v':Value),G.glob M pr w→M.hold w→Rep M bm a v→Rep M bm b v'→Calls Tryz.prog f #[v,v'] w fun e w'=>e=.returned u∧Ext w w'):Fun G f [a,b] σ (aG (.d (.lit u)) σ):=
 Cc hf hn hb hu fun M bm pr w vs hG hM hl hr=>match vs,hl with
  | [v,v'],_=>h M bm pr w v v' hG hM (hr 0 (by simp) (by simp)) (hr 1 (by simp) (by simp))
def qr(w w':World):av:=fun b o=>if w.heap.size≤b then w'.cell? ⟨b,o,none⟩else none
theorem xn{f:FuncId}{fn:Func}{args:List V}{x:V}{σ:List (List V)}(hf:Tryz.prog.funcs[f]? = some fn)(hn:(fn.name == "runtime.NumGoroutine")=false)(hb:fn.body.isNone=false)(hx:∀T k rows,x≠.own T k rows)
 (h:∀(M:av) (bm:List Nat) (pr:Nat→Prop) (w:World) (vs:List Value),G.glob M pr w→M.hold w→vs.length=args.length→(∀i (h:i<args.length) (h':i<vs.length),Rep M bm args[i] vs[i])→
   Calls Tryz.prog f vs.toArray w fun e w'=>∃u,e=.returned u∧Ext w w'∧Rep (qr w w') [] x u):Fun G f args σ (aG x σ):=by
 refine⟨bw (P:=Tryz.prog) hf hn hb,fun M bm tk pr w vs hG hI ht hl hr=>(h M bm pr w vs hG hI.facts hl hr).mono fun e w' ⟨u,he,hx',hu⟩=>?_⟩;have hlt:∀b,b<w.heap.size→∀o,(if w.heap.size≤b then w'.cell? ⟨b,o,none⟩else M b o)=M b o:=fun b hb o=>if_neg (by omega)
 have hle:M.le fun b o=>if w.heap.size≤b then w'.cell? ⟨b,o,none⟩else M b o:=fun b o x hm=>by
  have hb:=hI.facts.lt hm;show(if w.heap.size≤b then w'.cell? ⟨b,o,none⟩else M b o)=some x;rw[hlt b hb o];exact hm
 obtain⟨h1,h2⟩:=hI.grow (M':=fun b o=>if w.heap.size≤b then w'.cell? ⟨b,o,none⟩else M b o) hx' hle (fun b o x hm=>by
  by_cases hb:w.heap.size≤b
  ·simpa only[if_pos hb]using hm
  ·simp only[if_neg hb]at hm;exact hx'.cell (hI.facts b o x hm)) hlt
 refine⟨_,bm,tk,σ,.ret x,⟨rfl,rfl⟩,h1,h2,fun v e=>?_,fun v e=>by cases e⟩;cases e;refine⟨u,he,hu.mono (fun b o x hm=>?_) (fun i b h=>by simp at h),fun T k rows e=>absurd e (hx T k rows)⟩;unfold qr at hm;split at hm
 ·rename_i hb;simp only[if_pos hb];exact hm
 ·cases hm
end Go.Proofs.YthekkgfmagliiaaGreatDoor
namespace Go.Proofs.YthekkgfmagliiaaGreatDoor
open Go.RowKit
set_option maxRecDepth 100000 in
theorem kx(s:ByteArray)(c:Int)(w:World):
 Calls Tryz.prog 196 #[.string s,.int .u8 c] w fun e w'=>e=.returned (.int .i64 (Lib.indexByte s.data.toList c.toNat.toUInt8))∧w=w':=by
 have hx:∀w,(callFunc 221 #[.string s,.int .u8 c]).run Tryz.prog w=.ok (.value (.int .i64 (Lib.indexByte s.data.toList c.toNat.toUInt8))) w:=fun w=>by
  rw[run_callFunc_extern Tryz.func221 (by kernel_rfl) (by kernel_rfl) (by kernel_rfl) (e:=Extern.BytealgIndexByte.indexByte) (by kernel_rfl),Lib.run_indexByteString];rfl
 go_enter Tryz.func196,Tryz.ntmps196;go_wp2_with fail;go_ret;exact⟨rfl,rfl⟩
theorem Ef{s:ByteArray}{c:UInt8}(h:([c]==s.toList)=true):Lib.indexByte s.data.toList c=0:=by
 rw[ByteArray.toList_eq]at h;rw[←(beq_iff_eq.1 h)];simp[Lib.indexByte]
set_option maxRecDepth 100000 in
theorem Az(s:ByteArray)(c:UInt8)(w:World):
 Calls Tryz.prog 209 #[.string s,.string ⟨#[c]⟩] w fun e w'=>e=.returned (.int .i64 (Lib.indexByte s.data.toList c))∧w=w':=by
 by_cases he:([c]==s.toList)=true
 ·have h0:=Ef he;have H0:=Lib.hid h0;clear h0;go_enter Tryz.func209,Tryz.ntmps209;go_wp2_with (go_at_call 196;refine(kx _ _ _).mono ?_;rintro e w' ⟨rfl,rfl⟩);go_ret;exact⟨bV H0.out.symm,rfl⟩
 ·have he':([c]==s.toList)=false:=by simpa using he
  clear he;go_enter Tryz.func209,Tryz.ntmps209;go_wp2_with (go_at_call 196;refine(kx _ _ _).mono ?_;rintro e w' ⟨rfl,rfl⟩);go_ret;exact⟨bV (congrArg (Lib.indexByte s.data.toList) (by rfl)),rfl⟩
def gD(s:ByteArray)(c:UInt8):ByteArray:=if Lib.indexByte s.data.toList c = -1 then s else s.extract 0 (Lib.indexByte s.data.toList c).toNat
def je(s:ByteArray)(c:UInt8):ByteArray:=if Lib.indexByte s.data.toList c = -1 then⟨#[]⟩else s.extract ((Lib.indexByte s.data.toList c).toNat+1) s.size
def mK(s:ByteArray)(c:UInt8):Bool:=decide (0≤Lib.indexByte s.data.toList c)
theorem sE{s:ByteArray}{c:UInt8}{o:Nat}(h:Lib.indexByte s.data.toList c=o):o<s.size:=by
 have:=(Lib.indexByte_some h).1;rw[Lib.size_eq];exact(List.getElem?_eq_some_iff.1 this).1
set_option maxRecDepth 100000 in
theorem BU(s:ByteArray)(c:UInt8)(w:World)(hs:s.size≤9223372036854775807):
 Calls Tryz.prog 235 #[.string s,.string ⟨#[c]⟩] w fun e w'=>e=.returned (.tuple #[.string (gD s c),.string (je s c),.bool (mK s c)])∧Ext w w':=by
 have h1:=Lib.indexByte_ge s.data.toList c;unfold gD je mK;have hc:=Az s c;by_cases hi:Lib.indexByte s.data.toList c = -1
 ·rw[hi]at hc ⊢;have HC:=Lib.hid hc;clear hc;clear h1 hi;go_enter Tryz.func235,Tryz.ntmps235;go_wp2_with (go_at_call 209;refine(HC.out _).mono ?_;rintro e w' ⟨rfl,rfl⟩);go_ret3;exact⟨rfl,Ext.refl _⟩
 ·obtain⟨o,ho⟩:=Int.eq_ofNat_of_zero_le (a:=Lib.indexByte s.data.toList c) (by omega);have hlt:=sE ho;rw[ho]at hc ⊢;have HC:=Lib.hid hc;clear hc;clear h1 hi;have HO:=Lib.hid ho;clear ho;have e1:IntKind.i64.wrap ((o:Int)+1)=(o:Int)+1:=IntWalk.i64_in _ (by omega);have e2:((o:Int)+1).toNat=o+1:=by omega
  go_enter Tryz.func235,Tryz.ntmps235;go_wp2_with (go_at_call 209;refine(HC.out _).mono ?_;rintro e w' ⟨rfl,rfl⟩);go_quiet (fail);go_wp2_with fail;go_ret3;exact⟨rfl,(Ext.refl w).drewN _⟩
theorem EU(s:ByteArray)(c:UInt8)(w:World)(hs:s.size≤9223372036854775807):
 Calls Tryz.prog 220 #[.string s,.string ⟨#[c]⟩] w fun e w'=>e=.returned (.tuple #[.string (gD s c),.string (je s c),.bool (mK s c)])∧Ext w w':=by
 go_enter Tryz.func220,Tryz.ntmps220;go_wp2_with (go_at_call 235;refine(BU _ _ _ hs).mono ?_;rintro e w' ⟨rfl,hx⟩);go_ret3;exact⟨rfl,by assumption⟩
theorem Ga(s:ByteArray)(c:UInt8):(gD s c).size≤s.size:=by
 unfold gD;split
 ·exact Nat.le_refl _
 ·simp;omega
theorem Ey(s:ByteArray)(c:UInt8):(je s c).size≤s.size:=by
 unfold je;split
 ·exact Nat.zero_le _
 ·simp
def lY(t:ByteArray):Bool:=if h:t.size=2 then decide ((t[1]'(by omega)).toNat=93)&&decide (48≤(t[0]'(by omega)).toNat)&&decide ((t[0]'(by omega)).toNat<56)else false
def fW(s:ByteArray):Bool:=mK s 91&&a8 (gD s 91)&&lY (je s 91)
def sV(eb:Bool)(w:World)(e:Ending)(w':World):Prop:=∃a i,e=.returned (.tuple #[.string a,.int .i64 i,.bool eb])∧Ext w w'
theorem jN{eb b:Bool}{w w':World}{a:ByteArray}{i:Int}(h:b=eb)(hx:Ext w w'):sV eb w (.returned (.tuple #[.string a,.int .i64 i,.bool b])) w':=⟨a,i,by rw[h],hx⟩
theorem l6{t:ByteArray}(h:¬t.size=2):lY t=false:=by unfold lY;rw[dif_neg h]
theorem ii{t:ByteArray}(h:t.size=2):lY t=(decide ((t[1]'(by omega)).toNat=93)&&decide (48≤(t[0]'(by omega)).toNat)&&decide ((t[0]'(by omega)).toNat<56)):=by unfold lY;rw[dif_pos h]
set_option maxRecDepth 100000 in
theorem tj(s:ByteArray)(w:World)(hs:s.size≤9223372036854775807)(hk:mw w):
 Calls Tryz.prog 195 #[.string s] w (sV (fW s) w):=by
 have hA:=Ga s 91;have hB:=Ey s 91;have hcut:=fun w=>EU s 91 w hs;have hq:fW s=(mK s 91&&a8 (gD s 91)&&lY (je s 91)):=rfl;generalize fW s=eb at hq ⊢;generalize gD s 91=a at *;generalize je s 91=b at *;generalize mK s 91=ok at *;have HQ:=Lib.hid hq;clear hq;have HK:=Lib.hid hk;clear hk;have HC:=Lib.hid hcut;clear hcut;by_cases hz:b.size=2
 ·have k1:1<b.size:=by omega
  have k0:0<b.size:=by omega
  have HZ:=Lib.hid hz;clear hz;have hz2:((b.size:Int) != 2)=false:=by rw[HZ.out];rfl
  go_enter Tryz.func195,Tryz.ntmps195;go_wp2_with (first|(go_at_call 220;refine(HC.out _).mono ?_;rintro e w' ⟨rfl,hx⟩)|(go_at_call 49;refine(gy _ _ (by omega) (HK.out.ext (by assumption))).mono ?_;rintro e w' ⟨rfl,hy⟩));all_goals (try (go_quiet (fail);go_wp2_with fail))
  all_goals go_ret3
  all_goals (go_light;refine jN ?_ (by first|exact(hx.trans hy).drewN _|exact hx.trans hy|exact hx);rw[HQ.out];first|(simp[*];done)|(rw[ii HZ.out];simp[*];done)|(rw[ii HZ.out,Bool.eq_iff_iff];simp[*];omega))
 ·have hc:=l6 hz;have HH:=Lib.hid hc;clear hc;have hz2:((b.size:Int) != 2)=true:=by rw[bne_iff_ne];omega
  clear hz;go_enter Tryz.func195,Tryz.ntmps195;go_wp2_with (first|(go_at_call 220;refine(HC.out _).mono ?_;rintro e w' ⟨rfl,hx⟩)|(go_at_call 49;refine(gy _ _ (by omega) (HK.out.ext (by assumption))).mono ?_;rintro e w' ⟨rfl,hy⟩));all_goals go_ret3
  all_goals (go_light;refine jN ?_ (by first|exact hx.trans hy|exact hx);rw[HQ.out];first|(simp[*];done)|(rw[HH.out];simp;done))
end Go.Proofs.YthekkgfmagliiaaGreatDoor
