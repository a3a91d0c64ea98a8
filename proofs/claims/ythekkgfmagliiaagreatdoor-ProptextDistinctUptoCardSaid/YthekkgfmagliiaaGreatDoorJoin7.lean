import Derived.Test.YthekkgfmagliiaaGreatDoorElem
import Derived.Test.YthekkgfmagliiaaGreatDoorShelf
import Derived.Test.YthekkgfmagliiaaGreatDoorData
import Derived.Scope
set_option linter.unusedVariables false
set_option linter.unusedSimpArgs false
set_option linter.unusedSectionVars false
namespace Go.Proofs.YthekkgfmagliiaaGreatDoor
open Go.RowKit
def rI:List ByteArray:=cN.map bs
theorem fr{M:av}{bm:List Nat}{u v:Value}(h:Rep M bm (.d (.lit u)) v):v=u:=by
 cases h with
 | d h=>cases h with
 | lit _ _=>rfl
theorem tW{f:FuncId}{fn:Func}{a u:Value}{σ:List (List V)}(hf:Tryz.prog.funcs[f]? = some fn)(hn:(fn.name == "runtime.NumGoroutine")=false)(hb:fn.body.isNone=false)(hu:ct u)
 (h:∀pr w,G.kept pr w→Calls Tryz.prog f #[a] w fun e w'=>e=.returned u∧Ext w w'):Fun G f [.d (.lit a)] σ (aG (.d (.lit u)) σ):=
 nI hf hn hb hu fun M bm pr w v hG hM h1=>by cases fr h1;exact h pr w hG.2
theorem lG{f:FuncId}{fn:Func}{a b u:Value}{σ:List (List V)}(hf:Tryz.prog.funcs[f]? = some fn)(hn:(fn.name == "runtime.NumGoroutine")=false)(hb:fn.body.isNone=false)(hu:ct u)
 (h:∀pr w,G.kept pr w→Calls Tryz.prog f #[a,b] w fun e w'=>e=.returned u∧Ext w w'):Fun G f [.d (.lit a),.d (.lit b)] σ (aG (.d (.lit u)) σ):=
 ny hf hn hb hu fun M bm pr w v v' hG hM h1 h2=>by cases fr h1;cases fr h2;exact h pr w hG.2
theorem iy{P:Program}{f:FuncId}{args:Array Value}{w:World}{u:Value}(h:Calls P f args w fun e w'=>e=.returned u∧w'=w):Calls P f args w fun e w'=>e=.returned u∧Ext w w':=
 h.mono fun e w' ⟨he,hw⟩=>⟨he,hw▸Ext.refl _⟩
theorem tQ{n:Nat}(h:n≤9223372036854775807):ct (.int .i64 n):=by
 simp only[ct,IntKind.min,IntKind.max,IntKind.signed,IntKind.bits];omega
theorem zl(l:Bs)(hl:l.length≤9223372036854775807)(σ:List (List V)):Fun G 154 [.d (an (bs l)),.d (an ⟨#[10]⟩)] σ (aG (.d (ao (l.count 10:Nat))) σ):=
 lG Tryz.func154 (by kernel_rfl) (by kernel_rfl) (tQ (Nat.le_trans List.count_le_length hl)) fun pr w _=>by
  have:=iy (Tryz.strings_Count_one (bs l) 10 w);rw[cl]at this;exact this
theorem qf(s p:Bs)(σ:List (List V)):Fun G 110 [.d (an (bs s)),.d (an (bs p))] σ (aG (.d (.lit (.bool (p.isPrefixOf s)))) σ):=
 lG Tryz.func110 (by kernel_rfl) (by kernel_rfl) trivial fun pr w _=>by
  have:=iy (Tryz.strings_HasPrefix (bs s) (bs p) w);rw[cl,cl]at this;exact this
theorem zW:∀c:Nat,c<128→decide (0≤Lib.indexByte [32,9,10] ((c:Int).toNat.toUInt8))=(c==32||c==9||c==10):=by decide
theorem oP(n:Int)(h0 : -9223372036854775808≤n)(h1:n≤9223372036854775807)(hs:(Lib.itoa n).length≤maxLen)(σ:List (List V)):Fun G 89 [.d (ao n)] σ (aG (.d (an (bs (Lib.itoa n)))) σ):=
 tW Tryz.func89 (by kernel_rfl) (by kernel_rfl) (by show(bs (Lib.itoa n)).size≤maxLen;rw[d8];exact hs) fun pr w hk=>by
  obtain⟨-,cs,T,z,g1,rfl⟩:=hk 3 _ (by rfl);refine(Tryz.strconv_Itoa n h0 h1 w ?_).mono fun e w' ⟨he,k,os,hw⟩=>⟨he,?_⟩
  ·have hg:Tryz.prog.globalNamed "internal/strconv.uint64pow10" = some 3:=by kernel_rfl
   simp only[Lib.TabIs,World.var?,hg,Option.bind_some,g1]
  ·subst hw
   exact⟨rfl,rfl,rfl,by simp[Sort.grow,World.drewN],fun i hi=>by
    show((w.drewN k).heap++os)[i]? = _;rw[Array.getElem?_append_left (by show i<w.heap.size;omega)];rfl⟩
theorem sc(l:Bs)(v:Int)(hl:l.length≤9223372036854775806)(hp:Lib.parseIntB 64 l=.ok v)(hv:ct (.int .i64 v))(σ:List (List V)):Fun G 156 [.d (an (bs l)),.d (ao 10),.d (ao 64)] σ (aG (.tup [.d (ao v),.d (.lit .nilIface)]) σ):=
 xn Tryz.func156 (by kernel_rfl) (by kernel_rfl) (fun T k rows e=>by cases e) fun M bm pr w vs hG hM hl' hr=>by
  match vs,hl' with
  | [a,b,c],_=>
  have e1:=fr (hr 0 (by simp) (by simp));have e2:=fr (hr 1 (by simp) (by simp));have e3:=fr (hr 2 (by simp) (by simp));simp only[List.getElem_cons_zero,List.getElem_cons_succ]at e1 e2 e3;subst e1 e2 e3;refine(Tryz.strconv_ParseInt_10_at64_ok (bs l) (by rw[d8];exact hl) v (by rw[cl];exact hp) w).mono fun e w' ⟨he,hw⟩=>⟨_,he,?_,?_⟩
  ·rcases hw with rfl|⟨t,rfl⟩
   ·exact Ext.refl _
   ·exact Lib.bytesWorld_below _ _ _
  ·refine .tup (vs:=[_,_]) rfl fun i g g'=>?_
   match i with
   | 0=>exact .d (.lit _ hv)
   | 1=>exact .d (.lit _ trivial)
theorem C3(l:List ByteArray)(hn:l.length≤140737488355328)(hlen:(Lib.join (l.map (·.data.toList)) [32]).length≤140737488355328)(σ:List (List V)):
 Fun G 88 [.d (dy l),.d (an ⟨#[32]⟩)] σ (aG (.d (an (bs (Lib.join (l.map (·.data.toList)) [32])))) σ):=
 ny Tryz.func88 (by kernel_rfl) (by kernel_rfl) (by show(bs _).size≤maxLen;rw[d8];unfold maxLen;omega) fun M bm pr w v v' hG hM h1 h2=>by
  cases fr h2;obtain⟨p,cap,rfl,g1,g2,g3⟩:=iF hM h1;by_cases h0:l=[]
  ·subst h0;exact iy (Tryz.strings_Join_none p cap ⟨#[32]⟩ w)
  ·have hp:0<l.length:=List.length_pos_iff.2 h0;obtain⟨b,off,rfl,g4⟩:=g3 0 (l[0]'hp) (List.getElem?_eq_getElem hp);refine Tryz.strings_Join b off cap l ⟨#[32]⟩ w (fun j x hj=>?_) (Lib.lt_of_cell g4) hn g1 hlen;obtain⟨b',off',e,g5⟩:=g3 j x hj;cases e;exact g5
theorem CQ:ByteP inn eu:=⟨fun b hb=>rfl,false,fun c h=>jR h,fun b hb=>jR (by omega)⟩
theorem Dh:ByteP dig d6:=⟨fun b hb=>rfl,false,fun c h=>by simp only[d6,Bool.and_eq_false_iff,decide_eq_false_iff_not];omega,fun b hb=>by simp only[dig,d6,Bool.and_eq_false_iff,decide_eq_false_iff_not];omega⟩
theorem zy:ByteP (fun b=>b != 10) (fun c=>decide (c≠10)):=by
 refine⟨fun b hb=>?_,true,fun c h=>by simp;omega,fun b hb=>?_⟩
 ·rw[Bool.eq_iff_iff];simp only[ne_eq,decide_eq_true_eq,bne_iff_ne];refine not_congr ⟨fun h=>UInt8.toNat_inj.1 (by show b.toNat=10;omega),fun h=>by rw[h];rfl⟩
 ·simp only[bne_iff_ne,ne_eq];intro e;rw[e]at hb;revert hb;decide
theorem yO(c:Int)(w:World):Calls Tryz.prog 113 #[.int .i32 c] w fun e w'=>e=.returned (.bool (decide (c≠10)))∧w=w':=by
 go_enter Tryz.func113,Tryz.ntmps113;go_wp2_with fail;go_ret;exact⟨aK (by by_cases h:c=10<;>simp[h]),rfl⟩
theorem oa{F:FuncId}{q:UInt8→Bool}{p:Int→Bool}(hq:ByteP q p)(hF:∀args w,(callFunc F args).run Tryz.prog w=.ok (.enter F args) w)
 (H:∀(c:Int) (w:World),Calls Tryz.prog F #[.int .i32 c] w fun e w'=>e=.returned (.bool (p c))∧w=w')(l:Bs)(hl:l.length≤9223372036854775807)(σ:List (List V)):
 Fun G 112 [.d (an (bs l)),.fn F []] σ (aG (.d (ao (l.takeWhile q).length)) σ):=
 ny Tryz.func112 (by kernel_rfl) (by kernel_rfl) (tQ (Nat.le_trans (List.takeWhile_prefix _).length_le hl)) fun M bm pr w v v' hG hM h1 h2=>by
  cases fr h1;cases h2 with
  | @fn _ _ vs hl' h=>
  have:vs=[]:=List.eq_nil_of_length_eq_zero hl';subst this;have:=CE F #[] q p hq hF (fun c w=>H c w) (bs l) w (by rw[d8];exact hl);rw[cl]at this;exact this
theorem Dn(l:Bs)(hl:l.length≤9223372036854775807)(σ:List (List V)):Fun G 112 [.d (an (bs l)),.fn 120 []] σ (aG (.d (ao (l.takeWhile inn).length)) σ):=
 oa CQ (bw (P:=Tryz.prog) Tryz.func120 (by kernel_rfl) (by kernel_rfl)) fz l hl σ
theorem Ct(l:Bs)(hl:l.length≤9223372036854775807)(σ:List (List V)):Fun G 112 [.d (an (bs l)),.fn 117 []] σ (aG (.d (ao (l.takeWhile dig).length)) σ):=
 oa Dh (bw (P:=Tryz.prog) Tryz.func117 (by kernel_rfl) (by kernel_rfl)) gh l hl σ
theorem yI(l:Bs)(hl:l.length≤9223372036854775807)(σ:List (List V)):Fun G 112 [.d (an (bs l)),.fn 113 []] σ (aG (.d (ao (l.takeWhile (· != 10)).length)) σ):=
 oa zy (bw (P:=Tryz.prog) Tryz.func113 (by kernel_rfl) (by kernel_rfl)) yO l hl σ
theorem wL(c:Nat)(h1:128≤c)(h2:c<256):∃x y:UInt8,Utf8.encode c=⟨#[x,y]⟩∧128≤y.toNat:=by
 refine⟨UInt8.ofNat (192+c/64),UInt8.ofNat (128+c%64),?_,?_⟩
 ·have hv:Utf8.valid (c:Int)=true:=by simp only[Utf8.valid];simp;omega
  unfold Utf8.encode;simp only[hv,if_true,Int.toNat_natCast,show ¬c<128 by omega,if_false,show c<2048 by omega]
 ·rw[UInt8.toNat_ofNat'];omega
set_option maxHeartbeats 2000000 in
set_option maxRecDepth 1000000 in
theorem oh(c:Nat)(h1:128≤c)(h2:c<256)(w:World):Calls Tryz.prog 155 #[.string ⟨#[32,9,10]⟩,.int .i32 c] w fun e w'=>e=.returned (.int .i64 (-1))∧Ext w w':=by
 obtain⟨x,y,he,hy⟩:=wL c h1 h2;have n1:(decide ((c:Int)<128))=false:=by simp;omega
 have n2:((c:Int)==65533)=false:=by simp;omega
 have n3:Lib.validRune (c:Int)=true:=by simp[Lib.validRune];omega
 have n4:((9:Int)==((y.toNat:Nat):Int))=false:=by simp;omega
 have n5:Lib.indexByte [10] ((y.toNat:Int).toNat.toUInt8) = -1:=by
  have:(10:UInt8)≠y:=by intro e;rw[←e]at hy;revert hy;decide
  have e:(y.toNat:Int).toNat.toUInt8=y:=by simp
  rw[e];simp[Lib.indexByte,this]
 go_enter Tryz.func155,Tryz.ntmps155;go_wp2_with (first|(go_at_call 183;refine(Tryz.utf8_ValidRune _ _).mono ?_;rintro e w' ⟨rfl,rfl⟩)|(go_at_call 167;refine(Tryz.strings_IndexByte _ _ _).mono ?_;rintro e w' ⟨rfl,rfl⟩));refine wp_scope_straight ?_;go_wp2_with (first|(go_at_call 183;refine(Tryz.utf8_ValidRune _ _).mono ?_;rintro e w' ⟨rfl,rfl⟩)|(go_at_call 167;refine(Tryz.strings_IndexByte _ _ _).mono ?_;rintro e w' ⟨rfl,rfl⟩));go_loop [9,10,11,12] (fun i j k l=>i=.int .i64 1) (fun i j k l=>0);case atStart=>rfl
 case round=>
  subst hrel;go_wp2_with (first|(go_at_call 183;refine(Tryz.utf8_ValidRune _ _).mono ?_;rintro e w' ⟨rfl,rfl⟩)|(go_at_call 167;refine(Tryz.strings_IndexByte _ _ _).mono ?_;rintro e w' ⟨rfl,rfl⟩));refine wp_scope_straight ?_;go_wp2_with (first|(go_at_call 183;refine(Tryz.utf8_ValidRune _ _).mono ?_;rintro e w' ⟨rfl,rfl⟩)|(go_at_call 167;refine(Tryz.strings_IndexByte _ _ _).mono ?_;rintro e w' ⟨rfl,rfl⟩))
  have n6:∀(h1:1<(⟨#[32,9,10]⟩:ByteArray).size) (h2:1<(⟨#[x,y]⟩:ByteArray).size),((((⟨#[32,9,10]⟩:ByteArray)[1]'h1).toNat:Int) != (((⟨#[x,y]⟩:ByteArray)[1]'h2).toNat:Int))=true:=fun h1 h2=>by
   have a1:(⟨#[32,9,10]⟩:ByteArray)[1]'h1=9:=rfl;have a2:(⟨#[x,y]⟩:ByteArray)[1]'h2=y:=rfl;rw[a1,a2,bne,show(((9:UInt8).toNat:Int)==(y.toNat:Int))=false from n4];rfl
  have n7:∀(h2:1<(⟨#[x,y]⟩:ByteArray).size),Lib.indexByte [10] ((⟨#[x,y]⟩:ByteArray)[1]'h2) = -1:=fun h2=>by
   have a2:(⟨#[x,y]⟩:ByteArray)[1]'h2=y:=rfl;rw[a2];have e:(y.toNat:Int).toNat.toUInt8=y:=by simp
   rw[e]at n5;exact n5
  go_region;go_wp2_with fail;go_region_with (first|(go_at_call 167;refine(Tryz.strings_IndexByte _ _ _).mono ?_;rintro e w' ⟨rfl,rfl⟩));all_goals (go_wp2_with fail)
  all_goals (rw[Exit.noGoto_ret];go_wp2_with fail)
  all_goals (rw[Exit.noGoto_ret];go_wp2_with fail;go_ret;exact⟨rfl,(Ext.refl _).drew.drew⟩)
theorem lQ(c:Nat)(h1:128≤c)(h2:c<256)(w:World):Calls Tryz.prog 114 #[.string ⟨#[32,9,10]⟩,.int .i32 c] w fun e w'=>e=.returned (.bool false)∧Ext w w':=by
 go_enter Tryz.func114,Tryz.ntmps114;go_wp2_with (go_at_call 155;refine(oh c h1 h2 _).mono ?_;rintro e w' ⟨rfl,hx⟩);go_ret;exact⟨rfl,hx⟩
theorem Dw(l:Bs)(n:Nat)(h:n≤l.length):pY true 0 (V.d (an (bs l))) none (some (V.d (ao n)))=some (V.d (an (bs (l.take n)))):=by
 simp[pY,ah,uh,d8,h,F7]
theorem Dg(l:Bs)(n:Nat)(h:n≤l.length):pY true 0 (V.d (an (bs l))) (some (V.d (ao n))) none=some (V.d (an (bs (l.drop n)))):=by
 have:=FG l n;rw[d8]at this;simp[pY,ah,uh,d8,h,this]
theorem gM:decide (bs []=({data := #[]}:ByteArray))=true:=by rw[decide_eq_true_eq];rfl
theorem sW(c:Nat)(hc:c<256)(σ:List (List V)):Fun G 114 [.d (an ⟨#[32,9,10]⟩),.d (.lit (.int .i32 c))] σ (aG (.d (.lit (.bool (c==32||c==9||c==10)))) σ):=
 lG Tryz.func114 (by kernel_rfl) (by kernel_rfl) trivial fun pr w _=>by
  by_cases h:c<128
  ·have:=iy (Tryz.strings_ContainsRune_ascii ⟨#[32,9,10]⟩ c w (by omega) (by omega));rw[←zW c h];exact this
  ·have e:(c==32||c==9||c==10)=false:=by simp;omega
   rw[e];exact lQ c (by omega) hc w
theorem Eb(s:Bs)(σ:List (List V)):Fun G 85 [.d (an (bs s))] σ (aG (.d (.lit (.bool (inB (bs s) dx)))) σ):=
 nI Tryz.func85 (by kernel_rfl) (by kernel_rfl) trivial fun M bm pr w v hG hM h1=>by
  cases fr h1;exact(fv (bs s) w (sN hG.1 hM)).mono fun e w' ⟨h1,h2⟩=>⟨h1,h2▸Ext.refl _⟩
end Go.Proofs.YthekkgfmagliiaaGreatDoor
namespace Go.Proofs.YthekkgfmagliiaaGreatDoor
end Go.Proofs.YthekkgfmagliiaaGreatDoor
namespace Go.Proofs.YthekkgfmagliiaaGreatDoor
open Go.RowKit
end Go.Proofs.YthekkgfmagliiaaGreatDoor
