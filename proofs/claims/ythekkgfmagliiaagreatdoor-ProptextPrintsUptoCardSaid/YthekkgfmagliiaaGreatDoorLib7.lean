import Derived.Test.YthekkgfmagliiaaGreatDoorElem
import Derived.Test.YthekkgfmagliiaaGreatDoorShelf
set_option linter.unusedVariables false
set_option linter.unusedSimpArgs false
set_option linter.unusedSectionVars false
namespace Go.Proofs.YthekkgfmagliiaaGreatDoor
open Go.RowKit
theorem kx(c:Int)(σ:List (List V)):Fun G 56 [.d (.lit (.int .u8 c))] σ (aB (.d (.lit (.bool (eq c)))) σ):=by
 refine ax Tryz.func56 k56 rfl fun hb hw=>?_;unfold c56 eq;by_cases h1:97≤c<;>by_cases h2:c≤122
 all_goals
  simp -dsimp -implicitDefEqProofs only[aw,ac,V.copy,V.lend,V.lend1,V.cells,V.boxable,over,al,ah,ae,ai,V.plain,Nat.reduceLeDiff,cond_true,cond_false,implies_true,eq_self,ne_eq,reduceIte,reduceCtorEq,Nat.reduceBEq,Nat.reduceLT,Nat.reduceEqDiff,Nat.reduceAdd,Nat.reduceSub,Nat.reduceMul,h1,h2,decide_true,decide_false];first|exact aj hb rfl rfl List.take_length ⟨rfl,rfl⟩
theorem pW(c:Int)(σ:List (List V)):Fun G 59 [.d (.lit (.int .u8 c))] σ (aB (.d (.lit (.bool (fX c)))) σ):=by
 refine ax Tryz.func59 k59 rfl fun hb hw=>?_;unfold c59 fX;by_cases h1:48≤c<;>by_cases h2:c≤57
 all_goals
  simp -dsimp -implicitDefEqProofs only[aw,ac,V.copy,V.lend,V.lend1,V.cells,V.boxable,over,al,ah,ae,ai,V.plain,Nat.reduceLeDiff,cond_true,cond_false,implies_true,eq_self,ne_eq,reduceIte,reduceCtorEq,Nat.reduceBEq,Nat.reduceLT,Nat.reduceEqDiff,Nat.reduceAdd,Nat.reduceSub,Nat.reduceMul,h1,h2,decide_true,decide_false];first|exact aj hb rfl rfl List.take_length ⟨rfl,rfl⟩
theorem qL(c:Int)(σ:List (List V)):Fun G 73 [.d (.lit (.int .u8 c))] σ (aB (.d (.lit (.bool (dy c)))) σ):=by
 refine ax Tryz.func73 k73 rfl fun hb hw=>?_;unfold c73 dy;simp -dsimp -implicitDefEqProofs only[aw,ac,V.copy,V.lend,V.lend1,V.cells,V.boxable,over,al,ah,ae,ai,V.plain,Nat.reduceLeDiff,cond_true,cond_false,implies_true,eq_self,ne_eq,reduceIte,reduceCtorEq,Nat.reduceBEq,Nat.reduceLT,Nat.reduceEqDiff,Nat.reduceAdd,Nat.reduceSub,Nat.reduceMul];refine ao (kx c _) ?_;cases eq c with
 | true=>
  simp -dsimp -implicitDefEqProofs only[aw,ac,V.copy,V.lend,V.lend1,V.cells,V.boxable,over,al,ah,ae,ai,V.plain,Nat.reduceLeDiff,cond_true,cond_false,implies_true,eq_self,ne_eq,reduceIte,reduceCtorEq,Nat.reduceBEq,Nat.reduceLT,Nat.reduceEqDiff,Nat.reduceAdd,Nat.reduceSub,Nat.reduceMul];exact aj hb rfl rfl List.take_length ⟨rfl,rfl⟩
 | false=>
  simp -dsimp -implicitDefEqProofs only[aw,ac,V.copy,V.lend,V.lend1,V.cells,V.boxable,over,al,ah,ae,ai,V.plain,Nat.reduceLeDiff,cond_true,cond_false,implies_true,eq_self,ne_eq,reduceIte,reduceCtorEq,Nat.reduceBEq,Nat.reduceLT,Nat.reduceEqDiff,Nat.reduceAdd,Nat.reduceSub,Nat.reduceMul];refine ao (pW c _) ?_;cases fX c with
  | true=>
   simp -dsimp -implicitDefEqProofs only[aw,ac,V.copy,V.lend,V.lend1,V.cells,V.boxable,over,al,ah,ae,ai,V.plain,Nat.reduceLeDiff,cond_true,cond_false,implies_true,eq_self,ne_eq,reduceIte,reduceCtorEq,Nat.reduceBEq,Nat.reduceLT,Nat.reduceEqDiff,Nat.reduceAdd,Nat.reduceSub,Nat.reduceMul];exact aj hb rfl rfl List.take_length ⟨rfl,rfl⟩
  | false=>
   unfold nW;cases e1:decide (65≤c)<;>cases e2:decide (c≤90)<;>cases e3:decide (c=95)
   all_goals
    simp -dsimp -implicitDefEqProofs only[aw,ac,V.copy,V.lend,V.lend1,V.cells,V.boxable,over,al,ah,ae,ai,V.plain,Nat.reduceLeDiff,cond_true,cond_false,implies_true,eq_self,ne_eq,reduceIte,reduceCtorEq,Nat.reduceBEq,Nat.reduceLT,Nat.reduceEqDiff,Nat.reduceAdd,Nat.reduceSub,Nat.reduceMul,e1,e2,e3];first|exact aj hb rfl rfl List.take_length ⟨rfl,rfl⟩
theorem ug(l:List ByteArray)(s:ByteArray)(hl:l.length≤1000000)(σ:List (List V)):Fun G 93 [.d (cj l),.d (ak s)] σ (aB (.d (.lit (.bool (inB s l)))) σ):=by
 refine ax Tryz.func93 k93 rfl fun hb hw=>?_;unfold c93;simp -dsimp -implicitDefEqProofs only[aw,ac,V.copy,V.lend,V.lend1,V.cells,V.boxable,over,al,ah,ae,ai,V.plain,Nat.reduceLeDiff,cond_true,cond_false,implies_true,eq_self,ne_eq,reduceIte,reduceCtorEq,Nat.reduceBEq,Nat.reduceLT,Nat.reduceEqDiff,Nat.reduceAdd,Nat.reduceSub,Nat.reduceMul];refine om (R:=fun(j:Nat) ρ σ'=>ρ=[(0,.d (cj l)),(1,.d (ak s)),(5,aU .i64 j)]∧σ'=σ∧inB s l=inB s (l.drop j)) l.length ⟨rfl,rfl,rfl⟩ ?_ _;rintro j ρ' σ' hj ⟨rfl,rfl,hr⟩;by_cases hlt:j<l.length
 ·have hd:inB s (l.drop j)=(decide (l[j]=s)||inB s (l.drop (j+1))):=by rw[List.drop_eq_getElem_cons hlt];rfl
  by_cases he:l[j]=s
  ·simp -dsimp -implicitDefEqProofs only[aw,ac,V.copy,V.lend,V.lend1,V.cells,V.boxable,over,al,ah,ae,ai,V.plain,Nat.reduceLeDiff,cond_true,cond_false,implies_true,eq_self,ne_eq,reduceIte,reduceCtorEq,Nat.reduceBEq,Nat.reduceLT,Nat.reduceEqDiff,Nat.reduceAdd,Nat.reduceSub,Nat.reduceMul,cj,Int.ofNat_lt,hlt,decide_true,List.getElem?_eq_getElem hlt,decide_eq_true he];rw[hd,decide_eq_true he]at hr;exact aj hb rfl rfl List.take_length ⟨by rw[hr];rfl,rfl⟩
  ·simp -dsimp -implicitDefEqProofs only[aw,ac,V.copy,V.lend,V.lend1,V.cells,V.boxable,over,al,ah,ae,ai,V.plain,Nat.reduceLeDiff,cond_true,cond_false,implies_true,eq_self,ne_eq,reduceIte,reduceCtorEq,Nat.reduceBEq,Nat.reduceLT,Nat.reduceEqDiff,Nat.reduceAdd,Nat.reduceSub,Nat.reduceMul,cj,Int.ofNat_lt,hlt,decide_true,List.getElem?_eq_getElem hlt,decide_eq_false he,be hlt (show l.length≤9223372036854775807 by omega)];rw[hd,decide_eq_false he,Bool.false_or]at hr;exact Nxt.same (Nat.le_refl _) hb rfl ⟨rfl,rfl,hr⟩
 ·simp -dsimp -implicitDefEqProofs only[aw,ac,V.copy,V.lend,V.lend1,V.cells,V.boxable,over,al,ah,ae,ai,V.plain,Nat.reduceLeDiff,cond_true,cond_false,implies_true,eq_self,ne_eq,reduceIte,reduceCtorEq,Nat.reduceBEq,Nat.reduceLT,Nat.reduceEqDiff,Nat.reduceAdd,Nat.reduceSub,Nat.reduceMul,cj,Int.ofNat_lt,hlt,decide_false];rw[List.drop_eq_nil_of_le (by omega)]at hr;exact aj hb rfl rfl List.take_length ⟨by rw[hr];rfl,rfl⟩
theorem lI(σ:List (List V)):Fun G 94 [] σ (aB (.d (cj cm)) σ):=by
 refine ax Tryz.func94 k94 rfl fun hb hw=>?_;unfold c94;simp -dsimp -implicitDefEqProofs only[aw,ac,V.copy,V.lend,V.lend1,V.cells,V.boxable,over,al,ah,ae,ai,V.plain,Nat.reduceLeDiff,cond_true,cond_false,implies_true,eq_self,ne_eq,reduceIte,reduceCtorEq,Nat.reduceBEq,Nat.reduceLT,Nat.reduceEqDiff,Nat.reduceAdd,Nat.reduceSub,Nat.reduceMul];exact aj hb rfl rfl List.take_length ⟨rfl,rfl⟩
def oA:List ByteArray:=i8.map bs
theorem sn(s:ByteArray)(σ:List (List V)):Fun G 58 [.d (ak s)] σ (aB (.d (.lit (.bool (inB s cm)))) σ):=by
 refine ax Tryz.func58 k58 rfl fun hb hw=>?_;unfold c58;simp -dsimp -implicitDefEqProofs only[aw,ac,V.copy,V.lend,V.lend1,V.cells,V.boxable,over,al,ah,ae,ai,V.plain,Nat.reduceLeDiff,cond_true,cond_false,implies_true,eq_self,ne_eq,reduceIte,reduceCtorEq,Nat.reduceBEq,Nat.reduceLT,Nat.reduceEqDiff,Nat.reduceAdd,Nat.reduceSub,Nat.reduceMul];refine ao (lI _) ?_;simp -dsimp -implicitDefEqProofs only[aw,ac,V.copy,V.lend,V.lend1,V.cells,V.boxable,over,al,ah,ae,ai,V.plain,Nat.reduceLeDiff,cond_true,cond_false,implies_true,eq_self,ne_eq,reduceIte,reduceCtorEq,Nat.reduceBEq,Nat.reduceLT,Nat.reduceEqDiff,Nat.reduceAdd,Nat.reduceSub,Nat.reduceMul];refine ao (ug cm s (by decide) _) ?_
 simp -dsimp -implicitDefEqProofs only[aw,ac,V.copy,V.lend,V.lend1,V.cells,V.boxable,over,al,ah,ae,ai,V.plain,Nat.reduceLeDiff,cond_true,cond_false,implies_true,eq_self,ne_eq,reduceIte,reduceCtorEq,Nat.reduceBEq,Nat.reduceLT,Nat.reduceEqDiff,Nat.reduceAdd,Nat.reduceSub,Nat.reduceMul];exact aj hb rfl rfl List.take_length ⟨rfl,rfl⟩
theorem ec{M:av}{bm:List Nat}{u v:Value}(h:Rep M bm (.d (.lit u)) v):v=u:=by
 cases h with
 | d h=>cases h with
 | lit _ _=>rfl
theorem qG{f:FuncId}{fn:Func}{a u:Value}{σ:List (List V)}(hf:Tryz.prog.funcs[f]? = some fn)(hn:(fn.name == "runtime.NumGoroutine")=false)(hb:fn.body.isNone=false)(hu:ca u)
 (h:∀pr w,G.kept pr w→Calls Tryz.prog f #[a] w fun e w'=>e=.returned u∧Ext w w'):Fun G f [.d (.lit a)] σ (aB (.d (.lit u)) σ):=
 la hf hn hb hu fun M bm pr w v hG hM h1=>by cases ec h1;exact h pr w hG.2
theorem ji{f:FuncId}{fn:Func}{a b u:Value}{σ:List (List V)}(hf:Tryz.prog.funcs[f]? = some fn)(hn:(fn.name == "runtime.NumGoroutine")=false)(hb:fn.body.isNone=false)(hu:ca u)
 (h:∀pr w,G.kept pr w→Calls Tryz.prog f #[a,b] w fun e w'=>e=.returned u∧Ext w w'):Fun G f [.d (.lit a),.d (.lit b)] σ (aB (.d (.lit u)) σ):=
 kZ hf hn hb hu fun M bm pr w v v' hG hM h1 h2=>by cases ec h1;cases ec h2;exact h pr w hG.2
theorem fQ{P:Program}{f:FuncId}{args:Array Value}{w:World}{u:Value}(h:Calls P f args w fun e w'=>e=.returned u∧w'=w):Calls P f args w fun e w'=>e=.returned u∧Ext w w':=
 h.mono fun e w' ⟨he,hw⟩=>⟨he,hw▸Ext.refl _⟩
theorem pJ{n:Nat}(h:n≤9223372036854775807):ca (.int .i64 n):=by
 simp only[ca,IntKind.min,IntKind.max,IntKind.signed,IntKind.bits];omega
theorem vI(l:Bs)(hl:l.length≤9223372036854775807)(σ:List (List V)):Fun G 154 [.d (ak (bs l)),.d (ak ⟨#[10]⟩)] σ (aB (.d (an (l.count 10:Nat))) σ):=
 ji Tryz.func154 (by kernel_rfl) (by kernel_rfl) (pJ (Nat.le_trans List.count_le_length hl)) fun pr w _=>by
  have:=fQ (Tryz.strings_Count_one (bs l) 10 w);rw[bg]at this;exact this
theorem mK(s p:Bs)(σ:List (List V)):Fun G 110 [.d (ak (bs s)),.d (ak (bs p))] σ (aB (.d (.lit (.bool (p.isPrefixOf s)))) σ):=
 ji Tryz.func110 (by kernel_rfl) (by kernel_rfl) trivial fun pr w _=>by
  have:=fQ (Tryz.strings_HasPrefix (bs s) (bs p) w);rw[bg,bg]at this;exact this
theorem wk:∀c:Nat,c<128→decide (0≤Lib.indexByte [32,9,10] ((c:Int).toNat.toUInt8))=(c==32||c==9||c==10):=by decide
theorem lr(n:Int)(h0 : -9223372036854775808≤n)(h1:n≤9223372036854775807)(hs:(Lib.itoa n).length≤maxLen)(σ:List (List V)):Fun G 89 [.d (an n)] σ (aB (.d (ak (bs (Lib.itoa n)))) σ):=
 qG Tryz.func89 (by kernel_rfl) (by kernel_rfl) (by show(bs (Lib.itoa n)).size≤maxLen;rw[bQ];exact hs) fun pr w hk=>by
  obtain⟨-,cs,T,z,g1,rfl⟩:=hk 3 _ (by rfl);refine(Tryz.strconv_Itoa n h0 h1 w ?_).mono fun e w' ⟨he,k,os,hw⟩=>⟨he,?_⟩
  ·have hg:Tryz.prog.globalNamed "internal/strconv.uint64pow10" = some 3:=by kernel_rfl
   simp only[Lib.TabIs,World.var?,hg,Option.bind_some,g1]
  ·subst hw
   exact⟨rfl,rfl,rfl,by simp[Sort.grow,World.drewN],fun i hi=>by
    show((w.drewN k).heap++os)[i]? = _;rw[Array.getElem?_append_left (by show i<w.heap.size;omega)];rfl⟩
theorem od(l:Bs)(v:Int)(hl:l.length≤9223372036854775806)(hp:Lib.parseIntB 64 l=.ok v)(hv:ca (.int .i64 v))(σ:List (List V)):Fun G 156 [.d (ak (bs l)),.d (an 10),.d (an 64)] σ (aB (.tup [.d (an v),.d (.lit .nilIface)]) σ):=
 sj Tryz.func156 (by kernel_rfl) (by kernel_rfl) (fun T k rows e=>by cases e) fun M bm pr w vs hG hM hl' hr=>by
  match vs,hl' with
  | [a,b,c],_=>
  have e1:=ec (hr 0 (by simp) (by simp));have e2:=ec (hr 1 (by simp) (by simp));have e3:=ec (hr 2 (by simp) (by simp));simp only[List.getElem_cons_zero,List.getElem_cons_succ]at e1 e2 e3;subst e1 e2 e3;refine(Tryz.strconv_ParseInt_10_at64_ok (bs l) (by rw[bQ];exact hl) v (by rw[bg];exact hp) w).mono fun e w' ⟨he,hw⟩=>⟨_,he,?_,?_⟩
  ·rcases hw with rfl|⟨t,rfl⟩
   ·exact Ext.refl _
   ·exact Lib.bytesWorld_below _ _ _
  ·refine .tup (vs:=[_,_]) rfl fun i g g'=>?_
   match i with
   | 0=>exact .d (.lit _ hv)
   | 1=>exact .d (.lit _ trivial)
theorem xF(l:List ByteArray)(hn:l.length≤140737488355328)(hlen:(Lib.join (l.map (·.data.toList)) [32]).length≤140737488355328)(σ:List (List V)):
 Fun G 88 [.d (cj l),.d (ak ⟨#[32]⟩)] σ (aB (.d (ak (bs (Lib.join (l.map (·.data.toList)) [32])))) σ):=
 kZ Tryz.func88 (by kernel_rfl) (by kernel_rfl) (by show(bs _).size≤maxLen;rw[bQ];unfold maxLen;omega) fun M bm pr w v v' hG hM h1 h2=>by
  cases ec h2;obtain⟨p,cap,rfl,g1,g2,g3⟩:=fV hM h1;by_cases h0:l=[]
  ·subst h0;exact fQ (Tryz.strings_Join_none p cap ⟨#[32]⟩ w)
  ·have hp:0<l.length:=List.length_pos_iff.2 h0;obtain⟨b,off,rfl,g4⟩:=g3 0 (l[0]'hp) (List.getElem?_eq_getElem hp);refine Tryz.strings_Join b off cap l ⟨#[32]⟩ w (fun j x hj=>?_) (Lib.lt_of_cell g4) hn g1 hlen;obtain⟨b',off',e,g5⟩:=g3 j x hj;cases e;exact g5
theorem xp:ByteP inn dy:=⟨fun b hb=>rfl,false,fun c h=>hZ h,fun b hb=>hZ (by omega)⟩
theorem zm:ByteP dig fX:=⟨fun b hb=>rfl,false,fun c h=>by simp only[fX,Bool.and_eq_false_iff,decide_eq_false_iff_not];omega,fun b hb=>by simp only[dig,fX,Bool.and_eq_false_iff,decide_eq_false_iff_not];omega⟩
theorem vZ:ByteP (fun b=>b != 10) (fun c=>decide (c≠10)):=by
 refine⟨fun b hb=>?_,true,fun c h=>by simp;omega,fun b hb=>?_⟩
 ·rw[Bool.eq_iff_iff];simp only[ne_eq,decide_eq_true_eq,bne_iff_ne];refine not_congr ⟨fun h=>UInt8.toNat_inj.1 (by show b.toNat=10;omega),fun h=>by rw[h];rfl⟩
 ·simp only[bne_iff_ne,ne_eq];intro e;rw[e]at hb;revert hb;decide
theorem uQ(c:Int)(w:World):Calls Tryz.prog 113 #[.int .i32 c] w fun e w'=>e=.returned (.bool (decide (c≠10)))∧w=w':=by
 go_enter Tryz.func113,Tryz.ntmps113;go_wp2_with fail;go_ret;exact⟨aP (by by_cases h:c=10<;>simp[h]),rfl⟩
theorem lA{F:FuncId}{q:UInt8→Bool}{p:Int→Bool}(hq:ByteP q p)(hF:∀args w,(callFunc F args).run Tryz.prog w=.ok (.enter F args) w)
 (H:∀(c:Int) (w:World),Calls Tryz.prog F #[.int .i32 c] w fun e w'=>e=.returned (.bool (p c))∧w=w')(l:Bs)(hl:l.length≤9223372036854775807)(σ:List (List V)):
 Fun G 112 [.d (ak (bs l)),.fn F []] σ (aB (.d (an (l.takeWhile q).length)) σ):=
 kZ Tryz.func112 (by kernel_rfl) (by kernel_rfl) (pJ (Nat.le_trans (List.takeWhile_prefix _).length_le hl)) fun M bm pr w v v' hG hM h1 h2=>by
  cases ec h1;cases h2 with
  | @fn _ _ vs hl' h=>
  have:vs=[]:=List.eq_nil_of_length_eq_zero hl';subst this;have:=xT F #[] q p hq hF (fun c w=>H c w) (bs l) w (by rw[bQ];exact hl);rw[bg]at this;exact this
theorem yp(l:Bs)(hl:l.length≤9223372036854775807)(σ:List (List V)):Fun G 112 [.d (ak (bs l)),.fn 120 []] σ (aB (.d (an (l.takeWhile inn).length)) σ):=
 lA xp (bq (P:=Tryz.prog) Tryz.func120 (by kernel_rfl) (by kernel_rfl)) eo l hl σ
theorem xU(l:Bs)(hl:l.length≤9223372036854775807)(σ:List (List V)):Fun G 112 [.d (ak (bs l)),.fn 117 []] σ (aB (.d (an (l.takeWhile dig).length)) σ):=
 lA zm (bq (P:=Tryz.prog) Tryz.func117 (by kernel_rfl) (by kernel_rfl)) eW l hl σ
theorem vG(l:Bs)(hl:l.length≤9223372036854775807)(σ:List (List V)):Fun G 112 [.d (ak (bs l)),.fn 113 []] σ (aB (.d (an (l.takeWhile (· != 10)).length)) σ):=
 lA vZ (bq (P:=Tryz.prog) Tryz.func113 (by kernel_rfl) (by kernel_rfl)) uQ l hl σ
end Go.Proofs.YthekkgfmagliiaaGreatDoor
