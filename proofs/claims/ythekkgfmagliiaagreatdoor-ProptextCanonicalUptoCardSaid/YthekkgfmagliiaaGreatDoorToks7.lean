import Derived.Scope
import Derived.Test.YthekkgfmagliiaaGreatDoorShelf
set_option maxRecDepth 1000000
set_option maxHeartbeats 2000000
set_option linter.unusedVariables false
set_option linter.unusedSimpArgs false
set_option linter.unusedSectionVars false
open Bool renaming false_eq_true->Rs,and_eq_false_iff->Ru,eq_iff_iff->Rv
open Int renaming cast_ofNat_Int->Rw,natCast_zero->Rx,lt_irrefl->Ry
open List renaming take_left->Rz,takeWhile_prefix->RA,length_set->RB,takeWhile_cons_of_pos->RC,take_of_length_le->RD,getElem?_eq_getElem->RE,length_drop->RF,length_cons->RG,count_le_length->RH,cons_append->RI,set_set->RJ,getElem_cons_zero->RK,getElem_cons_succ->RL,set_getElem_self->RM,length_nil->RN,length_map->RO
open Nat renaming le_refl->RP,le_trans->RQ
namespace Go.Proofs.YthekkgfmagliiaaGreatDoor
open Go.RowKit
open Nat renaming reduceLeDiff -> jA, reduceBEq -> jB, reduceLT -> jC, reduceEqDiff -> jD, reduceAdd -> jE, reduceSub -> jF, reduceMul -> jG
open V renaming copy -> jV, lend -> jW, lend1 -> jX, cells -> jY, boxable -> jZ
theorem eK{M:an}{bm:List Nat}{u v:Value}(h:Rep M bm (.d (.lit u)) v):v=u:=by
 cases h with
 | d h=>cases h with
 | lit _ _=>rfl
theorem qt{f:FuncId}{fn:Func}{a u:Value}{σ:LLV}(hf:Tryz.prog.funcs[f]? = some fn)(hn:(fn.name == "runtime.NumGoroutine")=false)(hb:fn.body.isNone=false)(hu:dQ u)
 (h:∀pr w,G.kept pr w->Calls Tryz.prog f #[a] w fun e w'=>e=.returned u/\Ext w w'):Fun G f [.d (.lit a)] σ (aA (.d (.lit u)) σ):=
 p0 hf hn hb hu fun M bm pr w v hG hM h1=>by cases eK h1;exact h pr w hG.2
theorem mS{f:FuncId}{fn:Func}{a b u:Value}{σ:LLV}(hf:Tryz.prog.funcs[f]? = some fn)(hn:(fn.name == "runtime.NumGoroutine")=false)(hb:fn.body.isNone=false)(hu:dQ u)
 (h:∀pr w,G.kept pr w->Calls Tryz.prog f #[a,b] w fun e w'=>e=.returned u/\Ext w w'):Fun G f [.d (.lit a),.d (.lit b)] σ (aA (.d (.lit u)) σ):=
 pU hf hn hb hu fun M bm pr w v v' hG hM h1 h2=>by cases eK h1;cases eK h2;exact h pr w hG.2
theorem jO{P:Program}{f:FuncId}{args:Array Value}{w:World}{u:Value}(h:Calls P f args w fun e w'=>e=.returned u/\w'=w):Calls P f args w fun e w'=>e=.returned u/\Ext w w':=
 h.mono fun e w' ⟨he,hw⟩=>⟨he,hw▸Ext.refl _⟩
theorem nt{n:Nat}(h:n≤9223372036854775807):dQ (.int .i64 n):=by
 simp only[dQ,IntKind.min,IntKind.max,IntKind.signed,IntKind.bits];omega
theorem CK(l:Bs)(hl:l.length≤9223372036854775807)(σ:LLV):Fun G 154 [.d (ae (bs l)),.d (ae ⟨#[10]⟩)] σ (aA (.d (ab (l.count 10:Nat))) σ):=
 mS Tryz.func154 (by kernel_rfl) (by kernel_rfl) (nt (RQ RH hl)) fun pr w _=>by
  have:=jO (Tryz.strings_Count_one (bs l) 10 w);rw[aV]at this;exact this
theorem md(s p:Bs)(σ:LLV):Fun G 110 [.d (ae (bs s)),.d (ae (bs p))] σ (aA (.d (.lit (.bool (p.isPrefixOf s)))) σ):=
 mS Tryz.func110 (by kernel_rfl) (by kernel_rfl) trivial fun pr w _=>by
  have:=jO (Tryz.strings_HasPrefix (bs s) (bs p) w);rw[aV,aV]at this;exact this
theorem DO:∀c:Nat,c<128->decide (0≤Lib.indexByte [32,9,10] ((c:Int).toNat.toUInt8))=(c==32||c==9||c==10):=by decide
theorem qZ(n:Int)(h0 : -9223372036854775808≤n)(h1:n≤9223372036854775807)(hs:(Lib.itoa n).length≤maxLen)(σ:LLV):Fun G 89 [.d (ab n)] σ (aA (.d (ae (bs (Lib.itoa n)))) σ):=
 qt Tryz.func89 (by kernel_rfl) (by kernel_rfl) (by show(bs (Lib.itoa n)).size≤maxLen;rw[ay];exact hs) fun pr w hk=>by
  obtain⟨-,cs,T,z,g1,rfl⟩:=hk 3 _ (by rfl);refine(Tryz.strconv_Itoa n h0 h1 w ?_).mono fun e w' ⟨he,k,os,hw⟩=>⟨he,?_⟩
  .have hg:Tryz.prog.globalNamed "internal/strconv.uint64pow10" = some 3:=by kernel_rfl
   simp only[Lib.TabIs,World.var?,hg,Option.bind_some,g1]
  .subst hw
   exact⟨rfl,rfl,rfl,by simp[Sort.grow,World.drewN],fun i hi=>by
    show((w.drewN k).heap++os)[i]? = _;rw[Array.getElem?_append_left (by show i<w.heap.size;omega)];rfl⟩
theorem m6(l:Bs)(v:Int)(hl:l.length≤9223372036854775806)(hp:Lib.parseIntB 64 l=.ok v)(hv:dQ (.int .i64 v))(σ:LLV):Fun G 156 [.d (ae (bs l)),.d (ab 10),.d (ab 64)] σ (aA (.tup [.d (ab v),.d (.lit .nilIface)]) σ):=
 qU Tryz.func156 (by kernel_rfl) (by kernel_rfl) (fun T k rows e=>by cases e) fun M bm pr w vs hG hM hl' hr=>by
  match vs,hl' with
  | [a,b,c],_=>
  have e1:=eK (hr 0 (by simp) (by simp));have e2:=eK (hr 1 (by simp) (by simp));have e3:=eK (hr 2 (by simp) (by simp));simp only[RK,RL]at e1 e2 e3;subst e1 e2 e3;refine(Tryz.strconv_ParseInt_10_at64_ok (bs l) (by rw[ay];exact hl) v (by rw[aV];exact hp) w).mono fun e w' ⟨he,hw⟩=>⟨_,he,?_,?_⟩
  .rcases hw with rfl|⟨t,rfl⟩
   .exact Ext.refl _
   .exact Lib.bytesWorld_below _ _ _
  .refine .tup (vs:=[_,_]) rfl fun i g g'=>?_
   match i with
   | 0=>exact .d (.lit _ hv)
   | 1=>exact .d (.lit _ trivial)
theorem kC(l:Bs)(hl:l.length≤281474976710656)(hp:Lib.parseIntB 64 l=.range)(σ:LLV):Fun G 156 [.d (ae (bs l)),.d (ab 10),.d (ab 64)] σ (aA (.tup [.junk,.iface 185 .junk]) σ):=
 qU Tryz.func156 (by kernel_rfl) (by kernel_rfl) (fun T k rows e=>by cases e) fun M bm pr w vs hG hM hl' hr=>by
  match vs,hl' with
  | [a,b,c],_=>
  have e1:=eK (hr 0 (by simp) (by simp));have e2:=eK (hr 1 (by simp) (by simp));have e3:=eK (hr 2 (by simp) (by simp));simp only[RK,RL]at e1 e2 e3;subst e1 e2 e3;obtain⟨-,cs,T,z,g1,t,x,g2⟩:=hG.2 5 _ (by rfl);refine(Tryz.strconv_ParseInt_10_at64_range (bs l) (by rw[ay];exact hl) (by rw[aV];exact hp) (.iface t x) w (by simp[World.cell?,g1,g2]) (.inr ⟨_,_,rfl⟩)).mono fun e w' ⟨N,he,h1,h2,h3⟩=>⟨_,he,h3,?_⟩
  refine .tup (vs:=[_,_]) rfl fun i g g'=>?_
  match i with
  | 0=>exact .junk _
  | 1=>exact .iface (.junk _)
theorem EG(l:List ByteArray)(hn:l.length≤140737488355328)(hlen:(Lib.join (l.map (·.data.toList)) [32]).length≤140737488355328)(σ:LLV):
 Fun G 88 [.d (dw l),.d (ae ⟨#[32]⟩)] σ (aA (.d (ae (bs (Lib.join (l.map (·.data.toList)) [32])))) σ):=
 pU Tryz.func88 (by kernel_rfl) (by kernel_rfl) (by show(bs _).size≤maxLen;rw[ay];unfold maxLen;omega) fun M bm pr w v v' hG hM h1 h2=>by
  cases eK h2;obtain⟨p,cap,rfl,g1,g2,g3⟩:=j9 hM h1;by_cases h0:l=[]
  .subst h0;exact jO (Tryz.strings_Join_none p cap ⟨#[32]⟩ w)
  .have hp:0<l.length:=List.length_pos_iff.2 h0;obtain⟨b,off,rfl,g4⟩:=g3 0 (l[0]'hp) (RE hp);refine Tryz.strings_Join b off cap l ⟨#[32]⟩ w (fun j x hj=>?_) (Lib.lt_of_cell g4) hn g1 hlen;obtain⟨b',off',e,g5⟩:=g3 j x hj;cases e;exact g5
theorem Gl:ByteP inn fP:=⟨fun b hb=>rfl,false,fun c h=>lC h,fun b hb=>lC (by omega)⟩
theorem Fi:ByteP dig da:=⟨fun b hb=>rfl,false,fun c h=>by simp only[da,Ru,decide_eq_false_iff_not];omega,fun b hb=>by simp only[dig,da,Ru,decide_eq_false_iff_not];omega⟩
theorem DI:ByteP (fun b=>b != 10) (fun c=>decide (c≠10)):=by
 refine⟨fun b hb=>?_,true,fun c h=>by simp;omega,fun b hb=>?_⟩
 .rw[Rv];simp only[ne_eq,decide_eq_true_eq,bne_iff_ne];refine not_congr ⟨fun h=>UInt8.toNat_inj.1 (by show b.toNat=10;omega),fun h=>by rw[h];rfl⟩
 .simp only[bne_iff_ne,ne_eq];intro e;rw[e]at hb;revert hb;decide
theorem DL(c:Int)(w:World):Calls Tryz.prog 113 #[.int .i32 c] w fun e w'=>e=.returned (.bool (decide (c≠10)))/\w=w':=by
 go_enter Tryz.func113,Tryz.ntmps113;go_wp2_with fail;go_ret;exact⟨cq (by by_cases h:c=10<;>simp[h]),rfl⟩
theorem sa{F:FuncId}{q:UInt8->Bool}{p:Int->Bool}(hq:ByteP q p)(hF:∀args w,(callFunc F args).run Tryz.prog w=.ok (.enter F args) w)
 (H:∀(c:Int) (w:World),Calls Tryz.prog F #[.int .i32 c] w fun e w'=>e=.returned (.bool (p c))/\w=w')(l:Bs)(hl:l.length≤9223372036854775807)(σ:LLV):
 Fun G 112 [.d (ae (bs l)),.fn F []] σ (aA (.d (ab (l.takeWhile q).length)) σ):=
 pU Tryz.func112 (by kernel_rfl) (by kernel_rfl) (nt (RQ (RA _).length_le hl)) fun M bm pr w v v' hG hM h1 h2=>by
  cases eK h1;cases h2 with
  | @fn _ _ vs hl' h=>
  have:vs=[]:=List.eq_nil_of_length_eq_zero hl';subst this;have:=GR F #[] q p hq hF (fun c w=>H c w) (bs l) w (by rw[ay];exact hl);rw[aV]at this;exact this
theorem rY(l:Bs)(hl:l.length≤9223372036854775807)(σ:LLV):Fun G 112 [.d (ae (bs l)),.fn 120 []] σ (aA (.d (ab (l.takeWhile inn).length)) σ):=
 sa Gl (bU (P:=Tryz.prog) Tryz.func120 (by kernel_rfl) (by kernel_rfl)) gQ l hl σ
theorem D3(l:Bs)(hl:l.length≤9223372036854775807)(σ:LLV):Fun G 112 [.d (ae (bs l)),.fn 117 []] σ (aA (.d (ab (l.takeWhile dig).length)) σ):=
 sa Fi (bU (P:=Tryz.prog) Tryz.func117 (by kernel_rfl) (by kernel_rfl)) gy l hl σ
theorem Dd(l:Bs)(hl:l.length≤9223372036854775807)(σ:LLV):Fun G 112 [.d (ae (bs l)),.fn 113 []] σ (aA (.d (ab (l.takeWhile (· != 10)).length)) σ):=
 sa DI (bU (P:=Tryz.prog) Tryz.func113 (by kernel_rfl) (by kernel_rfl)) DL l hl σ
theorem zR(c:Nat)(h1:128≤c)(h2:c<256):∃x y:UInt8,Utf8.encode c=⟨#[x,y]⟩/\128≤y.toNat:=by
 refine⟨UInt8.ofNat (192+c/64),UInt8.ofNat (128+c%64),?_,?_⟩
 .have hv:Utf8.valid (c:Int)=true:=by simp only[Utf8.valid];simp;omega
  unfold Utf8.encode;simp only[hv,if_true,Int.toNat_natCast,show ¬c<128 by omega,if_false,show c<2048 by omega]
 .rw[UInt8.toNat_ofNat'];omega
theorem p8(c:Nat)(h1:128≤c)(h2:c<256)(w:World):Calls Tryz.prog 155 #[.string ⟨#[32,9,10]⟩,.int .i32 c] w fun e w'=>e=.returned (.int .i64 (-1))/\Ext w w':=by
 obtain⟨x,y,he,hy⟩:=zR c h1 h2;have n1:(decide ((c:Int)<128))=false:=by simp;omega
 have n2:((c:Int)==65533)=false:=by simp;omega
 have n3:Lib.validRune (c:Int)=true:=by simp[Lib.validRune];omega
 have n4:((9:Int)==((y.toNat:Nat):Int))=false:=by simp;omega
 have n5:Lib.indexByte [10] ((y.toNat:Int).toNat.toUInt8) = -1:=by
  have:(10:UInt8)≠y:=by intro e;rw[<-e]at hy;revert hy;decide
  have e:(y.toNat:Int).toNat.toUInt8=y:=by simp
  rw[e];simp[Lib.indexByte,this]
 go_enter Tryz.func155,Tryz.ntmps155;go_wp2_with (first|(go_at_call 183;refine(Tryz.utf8_ValidRune _ _).mono ?_;rintro e w' ⟨rfl,rfl⟩)|(go_at_call 167;refine(Tryz.strings_IndexByte _ _ _).mono ?_;rintro e w' ⟨rfl,rfl⟩));refine wp_scope_straight ?_;go_wp2_with (first|(go_at_call 183;refine(Tryz.utf8_ValidRune _ _).mono ?_;rintro e w' ⟨rfl,rfl⟩)|(go_at_call 167;refine(Tryz.strings_IndexByte _ _ _).mono ?_;rintro e w' ⟨rfl,rfl⟩));go_loop [9,10,11,12] (fun i j k l=>i=.int .i64 1) (fun i j k l=>0);case atStart=>rfl
 case round=>
  subst hrel;go_wp2_with (first|(go_at_call 183;refine(Tryz.utf8_ValidRune _ _).mono ?_;rintro e w' ⟨rfl,rfl⟩)|(go_at_call 167;refine(Tryz.strings_IndexByte _ _ _).mono ?_;rintro e w' ⟨rfl,rfl⟩));refine wp_scope_straight ?_;go_wp2_with (first|(go_at_call 183;refine(Tryz.utf8_ValidRune _ _).mono ?_;rintro e w' ⟨rfl,rfl⟩)|(go_at_call 167;refine(Tryz.strings_IndexByte _ _ _).mono ?_;rintro e w' ⟨rfl,rfl⟩))
  have n6:∀(h1:1<(⟨#[32,9,10]⟩:ByteArray).size) (h2:1<(⟨#[x,y]⟩:ByteArray).size),((((⟨#[32,9,10]⟩:ByteArray)[1]'h1).toNat:Int) != (((⟨#[x,y]⟩:ByteArray)[1]'h2).toNat:Int))=true:=fun h1 h2=>by
   have a1:(⟨#[32,9,10]⟩:ByteArray)[1]'h1=9:=rfl;have a2:(⟨#[x,y]⟩:ByteArray)[1]'h2=y:=rfl;rw[a1,a2,bne,show(((9:UInt8).toNat:Int)==(y.toNat:Int))=false from n4];rfl
  have n7:∀(h2:1<(⟨#[x,y]⟩:ByteArray).size),Lib.indexByte [10] ((⟨#[x,y]⟩:ByteArray)[1]'h2) = -1:=fun h2=>by
   have a2:(⟨#[x,y]⟩:ByteArray)[1]'h2=y:=rfl;rw[a2];have e:(y.toNat:Int).toNat.toUInt8=y:=by simp
   rw[e]at n5;exact n5
  go_region;go_wp2_with fail;go_region_with (first|(go_at_call 167;refine(Tryz.strings_IndexByte _ _ _).mono ?_;rintro e w' ⟨rfl,rfl⟩));all_goals (go_wp2_with fail)
  all_goals (rw[Exit.noGoto_ret];go_wp2_with fail)
  all_goals (rw[Exit.noGoto_ret];go_wp2_with fail;go_ret;exact⟨rfl,(Ext.refl _).drew.drew⟩)
theorem m5(c:Nat)(h1:128≤c)(h2:c<256)(w:World):Calls Tryz.prog 114 #[.string ⟨#[32,9,10]⟩,.int .i32 c] w fun e w'=>e=.returned (.bool false)/\Ext w w':=by
 go_enter Tryz.func114,Tryz.ntmps114;go_wp2_with (go_at_call 155;refine(p8 c h1 h2 _).mono ?_;rintro e w' ⟨rfl,hx⟩);go_ret;exact⟨rfl,hx⟩
theorem zW(l:Bs)(n:Nat)(h:n≤l.length):nM true 0 (V.d (ae (bs l))) none (some (V.d (ab n)))=some (V.d (ae (bs (l.take n)))):=by
 simp[nM,fI,xP,ay,h,Jo]
theorem xI(l:Bs)(n:Nat)(h:n≤l.length):nM true 0 (V.d (ae (bs l))) (some (V.d (ab n))) none=some (V.d (ae (bs (l.drop n)))):=by
 have:=IG l n;rw[ay]at this;simp[nM,fI,xP,ay,h,this]
theorem gh:decide (bs []=({data := #[]}:ByteArray))=true:=by rw[decide_eq_true_eq];rfl
theorem yR(c:UInt8)(r:Bs):decide (bs (c::r)=({data := #[]}:ByteArray))=false:=by
 rw[decide_eq_false_iff_not];intro h;have h2:=oz.1 (h:bs (c::r)=bs []);cases h2
theorem lQ(c:UInt8)(r:Bs):ixV (V.d (ae (bs (c::r)))) (V.d (.lit (.int .i64 0)))=some (aL .u8 c.toNat):=by simp[ixV,aV]
theorem Eb(n:Nat)(h:n<256):IntKind.i32.wrap (n:Int)=n:=by
 simp[IntKind.wrap,IntKind.bits,IntKind.signed];split<;>omega
theorem CP(c:UInt8):(c.toNat==32||c.toNat==9||c.toNat==10)=ip c:=by
 rw[Rv];simp[ip,<-UInt8.toNat_inj]
theorem tL(q:UInt8->Bool):∀l:Bs,l.drop (l.takeWhile q).length=l.dropWhile q
 | []=>rfl
 | a::r=>by
  by_cases h:q a=true
  .rw[RC h,List.dropWhile_cons_of_pos h,RG,List.drop_succ_cons,tL q r]
  .rw[List.takeWhile_cons_of_neg h,List.dropWhile_cons_of_neg h];rfl
def rd(l:Bs)(n:Int):List V:=[.d (ae (bs l)),.d (ab n)]
theorem ca{k:Nat}{σ:LLV}{cs:List V}{i:Nat}(h:aj k σ=true)(hc:V.unders k cs=true):aj k (σ.set i cs)=true:=by
 unfold aj at h ⊢;rw[List.all_eq_true]at h ⊢;intro x hx;rcases List.mem_or_eq_of_mem_set hx with h1|rfl
 .exact h x h1
 .exact hc
theorem bH{σ σ' τ:LLV}{ρ:ah}{rs:List RV}{Q:Out->LLV->Prop}(hb:aj σ.length τ=true){v:V}(h:aU σ' ρ rs=some v)(hv:V.under σ.length v=true)(hσ:σ'.take σ.length=τ)(hq:Q (.ret v) τ):fin σ.length rs Q .ret ρ σ':=
 ⟨ρ,σ',.refl _ _ _,v,h,σ.length,RP _,by rw[hσ];exact hb,hv,by rw[hσ];exact hq⟩
theorem dq{C:Cx}{f:FuncId}{args:List V}{σ τ:LLV}{v:V}{K P:V->LLV->Prop}{s:Tag K}{t:Tag P}(h:Fun C f args σ fun o σ'=>o=.ret v/\σ'=τ)(hk:K v τ):js C f args σ K P s t:=
 h.mono fun o σ' ⟨e1,e2⟩=>by subst e1;subst e2;exact hk
def rdr(T:Int)(l:Bs):List V:=rd l (T-(l.count 10:Nat))
theorem lb(T:Int)(l:Bs)(n i:Nat)(hn:n≤l.length)(hl:l.length≤1000000)(h0:0≤T)(h1:T≤1000000000)(σ:LLV)(hi:σ[i]? = some (rdr T l)):
 Fun G 111 [.ptr i 0,.d (ab n)] σ fun o σ'=>o=.ret (.d (ae (bs (l.take n))))/\σ'=σ.set i (rdr T (l.drop n)):=by
 have hlt:i<σ.length:=(List.getElem?_eq_some_iff.1 hi).1;have hcl:(l.count 10:Nat)=(l.take n).count 10+(l.drop n).count 10:=by rw[<-List.count_append,List.take_append_drop]
 have hc2:l.count 10≤l.length:=RH;refine ai Tryz.func111 Pq rfl fun hb hw=>?_;unfold Lz;unfold rdr rd at hi;have hi':(σ.set i [.d (ae (bs (l.drop n))),.d (ab (T-(l.count 10:Nat)))])[i]? = some [.d (ae (bs (l.drop n))),.d (ab (T-(l.count 10:Nat)))]:=by simp[hlt]
 simp -dsimp only[aw,jV,jW,jX,jY,jZ,jA,reduceIte,reduceCtorEq,jB,jC,jD,jE,jF,jG,hi,zW l n hn,xI l n hn,hi'];refine bd (CK _ (by rw[List.length_take];omega) _) ?_;simp -dsimp only[aw,jV,jW,jX,jY,jZ,jA,reduceIte,reduceCtorEq,jB,jC,jD,jE,jF,jG,hi'];rw[aJ (by omega) (by omega),RJ,show T-(l.count 10:Nat)+((l.take n).count 10:Nat)=T-((l.drop n).count 10:Nat)by omega];exact bH (τ:=σ.set i (rdr T (l.drop n))) (ca hb rfl) rfl rfl (by rw[RD (by rw[RB];exact RP _)];rfl) ⟨rfl,rfl⟩
theorem xw(c:Nat)(hc:c<256)(σ:LLV):Fun G 114 [.d (ae ⟨#[32,9,10]⟩),.d (.lit (.int .i32 c))] σ (aA (.d (.lit (.bool (c==32||c==9||c==10)))) σ):=
 mS Tryz.func114 (by kernel_rfl) (by kernel_rfl) trivial fun pr w _=>by
  by_cases h:c<128
  .have:=jO (Tryz.strings_ContainsRune_ascii ⟨#[32,9,10]⟩ c w (by omega) (by omega));rw[<-DO c h];exact this
  .have e:(c==32||c==9||c==10)=false:=by simp;omega
   rw[e];exact m5 c (by omega) hc w
theorem vG(T:Int)(l:Bs)(i:Nat)(hl:l.length≤1000000)(h0:0≤T)(h1:T≤1000000000)(σ:LLV)(hi:σ[i]? = some (rdr T l)):
 Fun G 80 [.ptr i 0] σ fun o σ'=>o=.ret (.tup [])/\σ'=σ.set i (rdr T (be l)):=by
 have hlt:i<σ.length:=(List.getElem?_eq_some_iff.1 hi).1;have hset:∀X:List V,(σ.set i X)[i]? = some X:=fun X=>by simp[hlt]
 have hself:σ.set i (rdr T l)=σ:=by rw[<-List.getElem?_eq_some_iff.1 hi |>.2];exact RM hlt
 refine ai Tryz.func80 k80 rfl fun hb hw=>?_;unfold c80;simp -dsimp only[aw,jV,jW,jX,jY,jZ,jA,reduceIte,reduceCtorEq,jB,jC,jD,jE,jF,jG];refine fT (R:=fun(j:Nat) ρ σ'=>∃r:Bs,be r=be l/\r.length+j≤l.length/\ρ=[(0,.ptr i 0)]/\σ'=σ.set i (rdr T r)) (l.length+1) ⟨l,rfl,by omega,rfl,hself.symm⟩ ?_ _;rintro j ρ' σ' hj ⟨r,hr,hrl,rfl,rfl⟩;have hset':=hset (rdr T r);have hset2:=hset';unfold rdr rd at hset2;simp -dsimp only[aw,jV,jW,jX,jY,jZ,jA,reduceIte,reduceCtorEq,jB,jC,jD,jE,jF,jG,hset2,rdr,rd];refine ac (md r [47,47] _) ?_
 have next:∀r2:Bs,be r2=be l->r2.length<r.length->j<l.length+1/\Nxt σ.length (fun ρ σ'=>∃r,be r=be l/\r.length+(j+1)≤l.length/\ρ=[(0,V.ptr i 0)]/\σ'=σ.set i (rdr T r)) [(0,.ptr i 0)] (σ.set i (rdr T r2)) .mk:=fun r2 h2 h3=>
  ⟨by omega,Nxt.same (by simp) (by rw[RB];exact ca hb rfl) (by simp[ao,V.under,hlt]) ⟨r2,h2,by omega,rfl,rfl⟩⟩
 cases hpre:([47,47]:Bs).isPrefixOf r with
 | true=>
  obtain⟨r2,hr2⟩:=List.isPrefixOf_iff_prefix.1 hpre;have hdw:r.drop (r.takeWhile (· != 10)).length=r.dropWhile (· != 10):=tL _ r
  have hsk:be r=be (r.dropWhile (· != 10)):=by
   subst hr2;rw[RI,cx,if_neg (by decide),if_pos ⟨rfl,rfl⟩]
  have htw:(r.takeWhile (· != 10)).length≤r.length:=(RA _).length_le
  have htp:1≤(r.takeWhile (· != 10)).length:=by
   subst hr2;rw[RI,RC (by decide)];simp
  simp -dsimp only[aw,jV,jW,jX,jY,jZ,jA,reduceIte,reduceCtorEq,jB,jC,jD,jE,jF,jG,hset2];refine ac (Dd r (by omega) _) ?_;simp -dsimp only[aw,jV,jW,jX,jY,jZ,jA,reduceIte,reduceCtorEq,jB,jC,jD,jE,jF,jG];refine dq (lb T r _ i htw (by omega) h0 h1 _ hset2) ?_;rw[RJ];simp -dsimp only[aw,jV,jW,jX,jY,jZ,jA,reduceIte,reduceCtorEq,jB,jC,jD,jE,jF,jG];exact next _ (by rw[hdw,<-hsk,hr]) (by rw[RF];omega)
 | false=>
  match r with
  | []=>
   simp -dsimp only[aw,jV,jW,jX,jY,jZ,jA,reduceIte,reduceCtorEq,jB,jC,jD,jE,jF,jG,hset2,gh];rw[db]at hr;exact bH (τ:=σ.set i (rdr T [])) (ca hb rfl) rfl rfl (by rw[RD (by rw[RB];exact RP _)];rfl) ⟨rfl,by rw[<-hr]⟩
  | c::r2=>
   simp -dsimp only[aw,jV,jW,jX,jY,jZ,jA,reduceIte,reduceCtorEq,jB,jC,jD,jE,jF,jG,hset2,yR,lQ];have hc:c.toNat<256:=c.toNat_lt;rw[Eb _ hc];refine ac (xw c.toNat hc _) ?_;rw[CP];cases hbl:ip c with
   | true=>
    simp -dsimp only[aw,jV,jW,jX,jY,jZ,jA,reduceIte,reduceCtorEq,jB,jC,jD,jE,jF,jG,hset2];refine dq (lb T (c::r2) 1 i (by simp) (by omega) h0 h1 _ hset2) ?_;rw[RJ];simp -dsimp only[aw,jV,jW,jX,jY,jZ,jA,reduceIte,reduceCtorEq,jB,jC,jD,jE,jF,jG];exact next r2 (by rw[<-hr,cx,if_pos hbl]) (by simp)
   | false=>
    simp -dsimp only[aw,jV,jW,jX,jY,jZ,jA,reduceIte,reduceCtorEq,jB,jC,jD,jE,jF,jG,hset2]
    have hs:be (c::r2)=c::r2:=by
     rw[cx,if_neg (by rw[hbl];decide),if_neg];rintro⟨rfl,h⟩
     match r2,h with
     | d::r3,h=>
      simp only[List.head?_cons,Option.some.injEq]at h;subst h;simp at hpre
    exact bH (τ:=σ.set i (rdr T (c::r2))) (ca hb rfl) rfl rfl (by rw[RD (by rw[RB];exact RP _)];rfl) ⟨rfl,by rw[<-hr,hs]⟩
def cT(kind num:Int)(text:Bs)(line:Int):V:=.agg [.d (ab kind),.d (ab num),.d (ae (bs text)),.d (ab line)]
def cj:V:=cT 0 0 [] 0
theorem xD(s:Bs)(σ:LLV):Fun G 85 [.d (ae (bs s))] σ (aA (.d (.lit (.bool (inB (bs s) dk)))) σ):=
 p0 Tryz.func85 (by kernel_rfl) (by kernel_rfl) trivial fun M bm pr w v hG hM h1=>by
  cases eK h1;exact(gM (bs s) w (pV hG.1 hM)).mono fun e w' ⟨h1,h2⟩=>⟨h1,h2▸Ext.refl _⟩
theorem Fx(T:Int)(l:Bs)(i:Nat)(hl:l.length≤1000000)(h0:0≤T)(h1:T≤1000000000)(σ:LLV)(hi:σ[i]? = some (rdr T l)):
 Fun G 116 [.ptr i 0] σ fun o σ'=>o=.ret (.tup (if 16<(l.takeWhile inn).length then[cj,.d (ab 2)]else[cT (if inB (bs (l.takeWhile inn)) dk=true then 2 else 1) 0 (l.takeWhile inn) (T-(l.count 10:Nat)),.d (ab 0)]))/\σ'=σ.set i (rdr T (l.drop (l.takeWhile inn).length)):=by
 have hlt:i<σ.length:=(List.getElem?_eq_some_iff.1 hi).1;have htw:(l.takeWhile inn).length≤l.length:=(RA _).length_le;have htk:l.take (l.takeWhile inn).length=l.takeWhile inn:=List.prefix_iff_eq_take.1 (RA _) |>.symm
 refine ai Tryz.func116 PD rfl fun hb hw=>?_;unfold ME;have hio:=fun t=>ar hi t;unfold rdr rd at hio;simp -dsimp only[aw,jV,jW,jX,jY,jZ,jA,reduceIte,reduceCtorEq,jB,jC,jD,jE,jF,jG,hio];refine ac (rY l (by omega) _) ?_;simp -dsimp only[aw,jV,jW,jX,jY,jZ,jA,reduceIte,reduceCtorEq,jB,jC,jD,jE,jF,jG];refine dq (lb T l _ i htw hl h0 h1 _ (ar hi _)) ?_;rw[aI hi,htk];obtain⟨σ1,hs1⟩:∃x,x=σ.set i (rdr T (l.drop (l.takeWhile inn).length)):=⟨_,rfl⟩
 have hl1:σ1.length=σ.length:=by rw[hs1,RB]
 have hb1:aj σ1.length σ1=true:=by rw[hl1,hs1];exact ca hb rfl
 rw[<-hs1,<-hl1];simp -dsimp only[aw,jV,jW,jX,jY,jZ,jA,reduceIte,reduceCtorEq,jB,jC,jD,jE,jF,jG,ay];by_cases h16:16<(l.takeWhile inn).length
 .have h16':(16:Int)<((l.takeWhile inn).length:Nat):=by omega
  simp -dsimp only[aw,jV,jW,jX,jY,jZ,jA,reduceIte,reduceCtorEq,jB,jC,jD,jE,jF,jG,decide_eq_true h16'];rw[if_pos h16];exact bH (τ:=σ1) hb1 (v:=.tup [cj,.d (ab 2)]) (by simp[Ax,aU,cY,bq,cj,cT,dj,aw,jV,jW,jX,jY,jZ,jA,reduceIte,reduceCtorEq,jB,jC,jD,jE,jF,jG]) rfl Rz ⟨rfl,rfl⟩
 .have h16':¬(16:Int)<((l.takeWhile inn).length:Nat):=by omega
  simp -dsimp only[aw,jV,jW,jX,jY,jZ,jA,reduceIte,reduceCtorEq,jB,jC,jD,jE,jF,jG,decide_eq_false h16'];rw[if_neg h16];refine ac (xD _ _) ?_;cases hkw:inB (bs (l.takeWhile inn)) dk with
  | true=>
   simp -dsimp only[aw,jV,jW,jX,jY,jZ,jA,reduceIte,reduceCtorEq,jB,jC,jD,jE,jF,jG];exact bH (τ:=σ1) hb1 (v:=.tup [cT 2 0 (l.takeWhile inn) (T-(l.count 10:Nat)),.d (ab 0)]) (by simp[Ax,aU,cY,bq,cj,cT,dj,aw,jV,jW,jX,jY,jZ,jA,reduceIte,reduceCtorEq,jB,jC,jD,jE,jF,jG]) rfl Rz ⟨rfl,rfl⟩
  | false=>
   simp -dsimp only[aw,jV,jW,jX,jY,jZ,jA,reduceIte,reduceCtorEq,jB,jC,jD,jE,jF,jG];exact bH (τ:=σ1) hb1 (v:=.tup [cT 1 0 (l.takeWhile inn) (T-(l.count 10:Nat)),.d (ab 0)]) (by simp[Ax,aU,cY,bq,cj,cT,dj,aw,jV,jW,jX,jY,jZ,jA,reduceIte,reduceCtorEq,jB,jC,jD,jE,jF,jG]) rfl Rz ⟨rfl,rfl⟩
theorem zc(T:Int)(c:UInt8)(r:Bs)(i:Nat)(hl:(c::r).length≤1000000)(hc:dig c=true)(h0:0≤T)(h1:T≤1000000000)(σ:LLV)(hi:σ[i]? = some (rdr T (c::r))):
 Fun G 118 [.ptr i 0] σ fun o σ'=>o=.ret (.tup (if(1<(c::r.takeWhile dig).length/\c=48)\/(r.drop (r.takeWhile dig).length).takeWhile inn≠[]then[cj,.d (ab 5)]else if 2147483647<ct (c::r.takeWhile dig)then[cj,.d (ab 3)]else[cT 3 (ct (c::r.takeWhile dig)) (c::r.takeWhile dig) (T-((c::r).count 10:Nat)),.d (ab 0)]))/\σ'=σ.set i (rdr T (r.drop (r.takeWhile dig).length)):=by
 have hlt:i<σ.length:=(List.getElem?_eq_some_iff.1 hi).1;have htc:(c::r).takeWhile dig=c::r.takeWhile dig:=RC hc;have htw:((c::r).takeWhile dig).length≤(c::r).length:=(RA _).length_le;have htk:(c::r).take ((c::r).takeWhile dig).length=(c::r).takeWhile dig:=List.prefix_iff_eq_take.1 (RA _) |>.symm
 have hdr:(c::r).drop ((c::r).takeWhile dig).length=r.drop (r.takeWhile dig).length:=by rw[htc];rfl
 have hds:∀x,x∈c::r.takeWhile dig->dig x=true:=fun x hx=>by rw[<-htc]at hx;exact List.all_eq_true.1 (List.all_takeWhile (l:=c::r) (p:=dig)) x hx
 refine ai Tryz.func118 Rf rfl fun hb hw=>?_;unfold NC;have hio:=fun t=>ar hi t;unfold rdr rd at hio;simp -dsimp only[aw,jV,jW,jX,jY,jZ,jA,reduceIte,reduceCtorEq,jB,jC,jD,jE,jF,jG,hio];refine ac (D3 (c::r) (by omega) _) ?_;simp -dsimp only[aw,jV,jW,jX,jY,jZ,jA,reduceIte,reduceCtorEq,jB,jC,jD,jE,jF,jG];refine dq (lb T (c::r) _ i htw hl h0 h1 _ (ar hi _)) ?_;rw[aI hi,htk,hdr,htc];rw[htc]at htw;generalize htx:r.takeWhile dig=tx at *;generalize hrs:r.drop tx.length=rs at *;obtain⟨σ1,hs1⟩:∃x,x=σ.set i (rdr T rs):=⟨_,rfl⟩
 have hl1:σ1.length=σ.length:=by rw[hs1,RB]
 have hb1:aj σ1.length σ1=true:=by rw[hl1,hs1];exact ca hb rfl
 have hi1:σ1[i]? = some (rdr T rs):=by rw[hs1];simp[hlt]
 have hio1:=fun t=>ar hi1 t;unfold rdr rd at hio1;rw[<-hs1,<-hl1];have hrl:rs.length≤1000000:=by rw[<-hrs,RF];simp only[RG]at hl;omega
 simp -dsimp only[aw,jV,jW,jX,jY,jZ,jA,reduceIte,reduceCtorEq,jB,jC,jD,jE,jF,jG,ay,lQ,hio1]
 have e48:decide ((c.toNat:Int)=48)=decide (c=48):=by
  rw[decide_eq_decide];exact⟨fun h=>UInt8.toNat_inj.1 (by show c.toNat=48;omega),fun h=>by rw[h];rfl⟩
 have hy:((tx.length:Nat)+1:Nat)=(c::tx).length:=rfl;by_cases hx:1<(c::tx).length/\c=48
 .obtain⟨ha,hc48⟩:=hx;have ha':(1:Int)<((tx.length+1:Nat):Int):=by simp only[RG]at ha;omega
  simp -dsimp only[aw,jV,jW,jX,jY,jZ,jA,reduceIte,reduceCtorEq,jB,jC,jD,jE,jF,jG,decide_eq_true ha',lQ,e48,decide_eq_true hc48];rw[if_pos (.inl ⟨ha,hc48⟩)];exact bH (τ:=σ1) hb1 (v:=.tup [cj,.d (ab 5)]) (by simp[lY,aU,cY,bq,cj,cT,dj,aw,jV,jW,jX,jY,jZ,jA,reduceIte,reduceCtorEq,jB,jC,jD,jE,jF,jG]) rfl Rz ⟨rfl,rfl⟩
 .by_cases ha:(1:Int)<((tx.length+1:Nat):Int)
  rotate_left
  .simp -dsimp only[aw,jV,jW,jX,jY,jZ,jA,reduceIte,reduceCtorEq,jB,jC,jD,jE,jF,jG,decide_eq_false ha,hio1];refine ac (rY rs (by omega) _) ?_;by_cases hsp:rs.takeWhile inn=[]
   .rw[if_neg (fun h=>h.elim hx (fun h=>h hsp)),hsp];simp -dsimp only[aw,jV,jW,jX,jY,jZ,jA,reduceIte,reduceCtorEq,jB,jC,jD,jE,jF,jG,RN,Rx,Rw,Ry,decide_false];have hpd:=nk (l:=c::tx) (by simp) hds;by_cases hbig:ct (c::tx)≤9223372036854775807
    .rw[if_pos hbig]at hpd;refine ac (m6 (c::tx) _ (by omega) hpd (nt hbig) _) ?_;by_cases hmx:2147483647<ct (c::tx)
     .have hmx':(2147483647:Int)<((ct (c::tx):Nat):Int):=by omega
      simp -dsimp only[aw,jV,jW,jX,jY,jZ,jA,reduceIte,reduceCtorEq,jB,jC,jD,jE,jF,jG,decide_eq_true hmx'];rw[if_pos hmx];exact bH (τ:=σ1) hb1 (v:=.tup [cj,.d (ab 3)]) (by simp[lY,aU,cY,bq,cj,cT,dj,aw,jV,jW,jX,jY,jZ,jA,reduceIte,reduceCtorEq,jB,jC,jD,jE,jF,jG]) rfl Rz ⟨rfl,rfl⟩
     .have hmx':¬(2147483647:Int)<((ct (c::tx):Nat):Int):=by omega
      simp -dsimp only[aw,jV,jW,jX,jY,jZ,jA,reduceIte,reduceCtorEq,jB,jC,jD,jE,jF,jG,decide_eq_false hmx'];rw[if_neg hmx];exact bH (τ:=σ1) hb1 (v:=.tup [cT 3 (ct (c::tx)) (c::tx) (T-((c::r).count 10:Nat)),.d (ab 0)]) (by simp[lY,aU,cY,bq,cj,cT,dj,aw,jV,jW,jX,jY,jZ,jA,reduceIte,reduceCtorEq,jB,jC,jD,jE,jF,jG]) rfl Rz ⟨rfl,rfl⟩
    .rw[if_neg hbig]at hpd;refine ac (kC (c::tx) (by omega) hpd _) ?_;rw[if_pos (show 2147483647<ct (c::tx)by omega)];simp -dsimp only[aw,jV,jW,jX,jY,jZ,jA,reduceIte,reduceCtorEq,jB,jC,jD,jE,jF,jG];exact bH (τ:=σ1) hb1 (v:=.tup [cj,.d (ab 3)]) (by simp[lY,aU,cY,bq,cj,cT,dj,aw,jV,jW,jX,jY,jZ,jA,reduceIte,reduceCtorEq,jB,jC,jD,jE,jF,jG]) rfl Rz ⟨rfl,rfl⟩
   .rw[if_pos (.inr hsp)];have hsl:(0:Int)<((rs.takeWhile inn).length:Nat):=by have:=List.length_pos_iff.2 hsp;omega
    simp -dsimp only[aw,jV,jW,jX,jY,jZ,jA,reduceIte,reduceCtorEq,jB,jC,jD,jE,jF,jG,decide_eq_true hsl];exact bH (τ:=σ1) hb1 (v:=.tup [cj,.d (ab 5)]) (by simp[lY,aU,cY,bq,cj,cT,dj,aw,jV,jW,jX,jY,jZ,jA,reduceIte,reduceCtorEq,jB,jC,jD,jE,jF,jG]) rfl Rz ⟨rfl,rfl⟩
  .have hc48:¬c=48:=fun h=>hx ⟨by simp only[RG];omega,h⟩;simp -dsimp only[aw,jV,jW,jX,jY,jZ,jA,reduceIte,reduceCtorEq,jB,jC,jD,jE,jF,jG,decide_eq_true ha,lQ,e48,decide_eq_false hc48,hio1];refine ac (rY rs (by omega) _) ?_;by_cases hsp:rs.takeWhile inn=[]
   .rw[if_neg (fun h=>h.elim hx (fun h=>h hsp)),hsp];simp -dsimp only[aw,jV,jW,jX,jY,jZ,jA,reduceIte,reduceCtorEq,jB,jC,jD,jE,jF,jG,RN,Rx,Rw,Ry,decide_false];have hpd:=nk (l:=c::tx) (by simp) hds;by_cases hbig:ct (c::tx)≤9223372036854775807
    .rw[if_pos hbig]at hpd;refine ac (m6 (c::tx) _ (by omega) hpd (nt hbig) _) ?_;by_cases hmx:2147483647<ct (c::tx)
     .have hmx':(2147483647:Int)<((ct (c::tx):Nat):Int):=by omega
      simp -dsimp only[aw,jV,jW,jX,jY,jZ,jA,reduceIte,reduceCtorEq,jB,jC,jD,jE,jF,jG,decide_eq_true hmx'];rw[if_pos hmx];exact bH (τ:=σ1) hb1 (v:=.tup [cj,.d (ab 3)]) (by simp[lY,aU,cY,bq,cj,cT,dj,aw,jV,jW,jX,jY,jZ,jA,reduceIte,reduceCtorEq,jB,jC,jD,jE,jF,jG]) rfl Rz ⟨rfl,rfl⟩
     .have hmx':¬(2147483647:Int)<((ct (c::tx):Nat):Int):=by omega
      simp -dsimp only[aw,jV,jW,jX,jY,jZ,jA,reduceIte,reduceCtorEq,jB,jC,jD,jE,jF,jG,decide_eq_false hmx'];rw[if_neg hmx];exact bH (τ:=σ1) hb1 (v:=.tup [cT 3 (ct (c::tx)) (c::tx) (T-((c::r).count 10:Nat)),.d (ab 0)]) (by simp[lY,aU,cY,bq,cj,cT,dj,aw,jV,jW,jX,jY,jZ,jA,reduceIte,reduceCtorEq,jB,jC,jD,jE,jF,jG]) rfl Rz ⟨rfl,rfl⟩
    .rw[if_neg hbig]at hpd;refine ac (kC (c::tx) (by omega) hpd _) ?_;rw[if_pos (show 2147483647<ct (c::tx)by omega)];simp -dsimp only[aw,jV,jW,jX,jY,jZ,jA,reduceIte,reduceCtorEq,jB,jC,jD,jE,jF,jG];exact bH (τ:=σ1) hb1 (v:=.tup [cj,.d (ab 3)]) (by simp[lY,aU,cY,bq,cj,cT,dj,aw,jV,jW,jX,jY,jZ,jA,reduceIte,reduceCtorEq,jB,jC,jD,jE,jF,jG]) rfl Rz ⟨rfl,rfl⟩
   .rw[if_pos (.inr hsp)];have hsl:(0:Int)<((rs.takeWhile inn).length:Nat):=by have:=List.length_pos_iff.2 hsp;omega
    simp -dsimp only[aw,jV,jW,jX,jY,jZ,jA,reduceIte,reduceCtorEq,jB,jC,jD,jE,jF,jG,decide_eq_true hsl];exact bH (τ:=σ1) hb1 (v:=.tup [cj,.d (ab 5)]) (by simp[lY,aU,cY,bq,cj,cT,dj,aw,jV,jW,jX,jY,jZ,jA,reduceIte,reduceCtorEq,jB,jC,jD,jE,jF,jG]) rfl Rz ⟨rfl,rfl⟩
theorem mu(l:Bs):∀(ms:List Bs) (m:Bs) (b:Nat),ef (ms++[m]) b l=if ef ms b l<m.length/\m.isPrefixOf l=true then m.length else ef ms b l
 | [],m,b=>rfl
 | a::ms,m,b=>by simp only[RI,ef];exact mu l ms m _
theorem GM(T:Int)(l:Bs)(i:Nat)(hl:l.length≤1000000)(h0:0≤T)(h1:T≤1000000000)(σ:LLV)(hi:σ[i]? = some (rdr T l)):
 Fun G 119 [.ptr i 0] σ fun o σ'=>o=.ret (.tup (if ck l=0 then[cj,.d (ab 5)]else[cT 4 0 (l.take (ck l)) (T-(l.count 10:Nat)),.d (ab 0)]))/\σ'=σ.set i (rdr T (l.drop (ck l))):=by
 have hli:i<σ.length:=(List.getElem?_eq_some_iff.1 hi).1;have hbm:=(tT l).1;have hmk:aC.length=36:=rfl;refine ai Tryz.func119 Q6 rfl fun hb hw=>?_;unfold M4;have hio:=fun t=>ar hi t;unfold rdr rd at hio;have hg:∀ρ,ev G ρ (.g 1)=.row [.sl (aC.map fun s=>[.lit (.string (bs s))])] 0:=fun _=>rfl;simp -dsimp only[aw,jV,jW,jX,jY,jZ,jA,reduceIte,reduceCtorEq,jB,jC,jD,jE,jF,jG,hio,hg,RO,hmk];generalize hrows:(aC.map fun s=>[D.lit (Value.string (bs s))])=rows;have hlen:rows.length=36:=by rw[<-hrows];rfl
 refine fT (R:=fun(j:Nat) ρ σ'=>ρ=[(0,.ptr i 0),(2,.ptr σ.length 0),(4,aL .i64 (ef (aC.take j) 0 l:Nat)),(8,.d (.sl rows)),(9,aL .i64 36),(10,aL .i64 j)]/\σ'=σ++[[.d (ab 0),.d (ab 0),.d (ae ⟨#[]⟩),.d (ab 0)]]) 36 ⟨rfl,rfl⟩ ?_ _;rintro j ρ' σ' hj ⟨rfl,rfl⟩;by_cases hlt:j<36
 .have hjm:j<aC.length:=hlt;have hrj:rows[j]? = some [D.lit (Value.string (bs aC[j]))]:=by rw[<-hrows,List.getElem?_map,RE hjm];rfl
  have hlt':(j:Int)<36:=by omega
  have htk:aC.take (j+1)=aC.take j++[aC[j]]:=by rw[List.take_add_one,RE hjm];rfl
  have hbs:=mu l (aC.take j) aC[j] 0;rw[<-htk]at hbs;generalize hm:aC[j]=m at *;generalize hbe:ef (aC.take j) 0 l=best at *;have hml:m.length≤2:=(by decide:∀m,m∈aC->m.length≤2) m (hm▸List.getElem_mem hjm)
  have next:∀b:Nat,ef (aC.take (j+1)) 0 l=b->j<36/\Nxt σ.length (fun ρ σ'=>ρ=[(0,V.ptr i 0),(2,V.ptr σ.length 0),(4,aL IntKind.i64 (ef (List.take (j+1) aC) 0 l:Nat)),(8,V.d (D.sl rows)),(9,aL IntKind.i64 36),(10,aL IntKind.i64 ((j+1:Nat):Int))]/\σ'=σ++[[V.d (ab 0),V.d (ab 0),V.d (ae {data := #[]}),V.d (ab 0)]]) [(0,.ptr i 0),(2,.ptr σ.length 0),(4,aL .i64 b),(8,.d (.sl rows)),(9,aL .i64 36),(10,aL .i64 ((j+1:Nat):Int))] (σ++[[.d (ab 0),.d (ab 0),.d (ae ⟨#[]⟩),.d (ab 0)]]) .mk:=fun b h=>
   ⟨hlt,Nxt.same (by simp) (aE hb rfl) (by simp[ao,V.under];omega) ⟨by rw[h],rfl⟩⟩
  simp -dsimp only[aw,jV,jW,jX,jY,jZ,jA,reduceIte,reduceCtorEq,jB,jC,jD,jE,jF,jG,decide_eq_true hlt',hrj,hio,ay];by_cases hgt:best<m.length
  .have hgt':(best:Int)<(m.length:Nat):=by omega
   simp -dsimp only[aw,jV,jW,jX,jY,jZ,jA,reduceIte,reduceCtorEq,jB,jC,jD,jE,jF,jG,decide_eq_true hgt',hio];refine ac (md l m _) ?_;cases hp:m.isPrefixOf l with
   | true=>
    simp -dsimp only[aw,jV,jW,jX,jY,jZ,jA,reduceIte,reduceCtorEq,jB,jC,jD,jE,jF,jG,ay,ba hlt (by decide)];exact next _ (by rw[hbs,if_pos ⟨hgt,hp⟩])
   | false=>
    simp -dsimp only[aw,jV,jW,jX,jY,jZ,jA,reduceIte,reduceCtorEq,jB,jC,jD,jE,jF,jG,ba hlt (by decide)];exact next _ (by rw[hbs,if_neg (fun h=>by rw[hp]at h;cases h.2)])
  .have hgt':¬(best:Int)<(m.length:Nat):=by omega
   simp -dsimp only[aw,jV,jW,jX,jY,jZ,jA,reduceIte,reduceCtorEq,jB,jC,jD,jE,jF,jG,decide_eq_false hgt',ba hlt (by decide)];exact next _ (by rw[hbs,if_neg (fun h=>hgt h.1)])
 .have hlt':¬(j:Int)<36:=by omega
  simp -dsimp only[aw,jV,jW,jX,jY,jZ,jA,reduceIte,reduceCtorEq,jB,jC,jD,jE,jF,jG,decide_eq_false hlt',hio];have hbe:ef (aC.take j) 0 l=ck l:=by rw[RD (by rw[hmk];omega)];rfl
  rw[hbe];by_cases hz:ck l=0
  .have hz':((ck l:Nat):Int)=0:=by omega
   have hself:σ.set i (rdr T (l.drop (ck l)))=σ:=by
    rw[hz,List.drop_zero,<-(List.getElem?_eq_some_iff.1 hi).2];exact RM hli
   simp -dsimp only[aw,jV,jW,jX,jY,jZ,jA,reduceIte,reduceCtorEq,jB,jC,jD,jE,jF,jG,decide_eq_true hz'];rw[if_pos hz,hself];exact bH (τ:=σ) hb (v:=.tup [cj,.d (ab 5)]) (by simp[Ej,aU,cY,bq,cj,cT,dj,aw,jV,jW,jX,jY,jZ,jA,reduceIte,reduceCtorEq,jB,jC,jD,jE,jF,jG]) rfl Rz ⟨rfl,rfl⟩
  .have hz':¬((ck l:Nat):Int)=0:=by omega
   simp -dsimp only[aw,jV,jW,jX,jY,jZ,jA,reduceIte,reduceCtorEq,jB,jC,jD,jE,jF,jG,decide_eq_false hz',hio];refine dq (lb T l _ i hbm hl h0 h1 _ (ar hi _)) ?_;rw[aI hi,if_neg hz];obtain⟨σ1,hs1⟩:∃x,x=σ.set i (rdr T (l.drop (ck l))):=⟨_,rfl⟩
   have hl1:σ1.length=σ.length:=by rw[hs1,RB]
   have hb1:aj σ1.length σ1=true:=by rw[hl1,hs1];exact ca hb rfl
   rw[<-hs1,<-hl1];simp -dsimp only[aw,jV,jW,jX,jY,jZ,jA,reduceIte,reduceCtorEq,jB,jC,jD,jE,jF,jG];exact bH (τ:=σ1) hb1 (v:=.tup [cT 4 0 (l.take (ck l)) (T-(l.count 10:Nat)),.d (ab 0)]) (by simp[Ej,aU,cY,bq,cj,cT,dj,aw,jV,jW,jX,jY,jZ,jA,reduceIte,reduceCtorEq,jB,jC,jD,jE,jF,jG]) rfl Rz ⟨rfl,rfl⟩
def qD(T:Int)(l:Bs)(i:Nat)(σ:LLV)(o:Out)(σ':LLV):Prop:=match bG l with
 | .err e=>o=.ret (.tup [cj,.d (ab e)])/\∃l',σ'=σ.set i (rdr T l')
 | .tok k n len=>o=.ret (.tup [cT k n (l.take len) (T-(l.count 10:Nat)),.d (ab 0)])/\σ'=σ.set i (rdr T (l.drop len))
theorem qd(c:UInt8)(r:Bs)(h1:fh c.toNat=false)(h2:da c.toNat=false):bG (c::r)=if ck (c::r)=0 then .err 5 else .tok 4 0 (ck (c::r)):=by
 simp only[bG,h1,h2,Rs,if_false]
theorem DD(c:Int)(σ:LLV):Fun G 115 [.d (.lit (.int .i32 c))] σ (aA (.d (.lit (.bool (fh c)))) σ):=
 qt Tryz.func115 (by kernel_rfl) (by kernel_rfl) trivial fun pr w _=>(eA c w).mono fun e w' ⟨h1,h2⟩=>⟨h1,h2▸Ext.refl _⟩
theorem DA(c:Int)(σ:LLV):Fun G 117 [.d (.lit (.int .i32 c))] σ (aA (.d (.lit (.bool (da c)))) σ):=
 qt Tryz.func117 (by kernel_rfl) (by kernel_rfl) trivial fun pr w _=>(gy c w).mono fun e w' ⟨h1,h2⟩=>⟨h1,h2▸Ext.refl _⟩
theorem CX(n:Nat)(T:Int)(l:Bs)(hn:ck l=n)(i:Nat)(hl:l.length≤1000000)(h0:0≤T)(h1:T≤1000000000)(σ:LLV)(hi:σ[i]? = some (rdr T l)):
 Fun G 119 [.ptr i 0] σ fun o σ'=>o=.ret (.tup (if n=0 then[cj,.d (ab 5)]else[cT 4 0 (l.take n) (T-(l.count 10:Nat)),.d (ab 0)]))/\σ'=σ.set i (rdr T (l.drop n)):=by
 have h:=GM T l i hl h0 h1 σ hi;rw[hn]at h;exact h
theorem DK(n:Nat)(T:Int)(l0:Bs)(hn:ck l0=n)(c:UInt8)(r:Bs)(he:l0=c::r)(i:Nat)(hl:l0.length≤1000000)(h0:0≤T)(h1:T≤1000000000)(σ:LLV)(hi:σ[i]? = some (rdr T l0)):
 Fun G 81 [.ptr i 0] σ (qD T l0 i σ):=by
 have hix:ixV (V.d (ae (bs l0))) (V.d (.lit (.int .i64 0)))=some (aL .u8 c.toNat):=by rw[he];exact lQ c r
 have hlt:i<σ.length:=(List.getElem?_eq_some_iff.1 hi).1;refine ai Tryz.func81 k81 rfl fun hb hw=>?_;unfold c81;have hio:=fun t=>ar hi t;unfold rdr rd at hio;simp -dsimp only[aw,jV,jW,jX,jY,jZ,jA,reduceIte,reduceCtorEq,jB,jC,jD,jE,jF,jG,hio,hix];rw[Eb _ c.toNat_lt];refine ac (DD _ _) ?_
 have fin1:∀(X:List V) (σ1:LLV) (k n:Int) (tx:Bs) (ln e:Int) (B:List V),σ1.length=σ.length->σ1=σ.set i X->aj σ1.length σ1=true->qD T l0 i σ (.ret (.tup [cT k n tx ln,.d (ab e)])) σ1->
  fin σ1.length KM (qD T l0 i σ) .ret [(2,.ptr σ1.length 0),(3,.d (ab e))] (σ1++[[.d (ab k),.d (ab n),.d (ae (bs tx)),.d (ab ln)]]):=fun X σ1 k n tx ln e B g1 g2 g3 g4=>
  bH (τ:=σ1) g3 (v:=.tup [cT k n tx ln,.d (ab e)]) (by simp[KM,aU,cY,bq,cT,aw,jV,jW,jX,jY,jZ,jA,reduceIte,reduceCtorEq,jB,jC,jD,jE,jF,jG]) rfl Rz g4
 cases hlow:fh c.toNat with
 | true=>
  subst he;simp -dsimp only[aw,jV,jW,jX,jY,jZ,jA,reduceIte,reduceCtorEq,jB,jC,jD,jE,jF,jG];refine dq (Fx T (c::r) i hl h0 h1 _ (ar hi _)) ?_;rw[aI hi];obtain⟨σ1,hs1⟩:∃x,x=σ.set i (rdr T ((c::r).drop ((c::r).takeWhile inn).length)):=⟨_,rfl⟩
  have hl1:σ1.length=σ.length:=by rw[hs1,RB]
  have hb1:aj σ1.length σ1=true:=by rw[hl1,hs1];exact ca hb rfl
  rw[<-hs1,<-hl1];have htk:(c::r).take ((c::r).takeWhile inn).length=(c::r).takeWhile inn:=List.prefix_iff_eq_take.1 (RA _) |>.symm
  by_cases h16:16<((c::r).takeWhile inn).length
  .rw[if_pos h16];simp -dsimp only[aw,jV,jW,jX,jY,jZ,jA,reduceIte,reduceCtorEq,jB,jC,jD,jE,jF,jG,cj,cT];refine fin1 _ σ1 0 0 [] 0 2 [] hl1 hs1 hb1 ?_;unfold qD;simp only[bG,hlow,if_true,h16];exact⟨rfl,_,hs1⟩
  .rw[if_neg h16];simp -dsimp only[aw,jV,jW,jX,jY,jZ,jA,reduceIte,reduceCtorEq,jB,jC,jD,jE,jF,jG,cj,cT];refine fin1 _ σ1 _ 0 ((c::r).takeWhile inn) _ 0 [] hl1 hs1 hb1 ?_;unfold qD;simp only[bG,hlow,if_true,h16,if_false];exact⟨by rw[htk];rfl,hs1⟩
 | false=>
  simp -dsimp only[aw,jV,jW,jX,jY,jZ,jA,reduceIte,reduceCtorEq,jB,jC,jD,jE,jF,jG];refine ac (DA _ _) ?_;cases hdig:da c.toNat with
  | true=>
   subst he;simp -dsimp only[aw,jV,jW,jX,jY,jZ,jA,reduceIte,reduceCtorEq,jB,jC,jD,jE,jF,jG];refine dq (zc T c r i hl hdig h0 h1 _ (ar hi _)) ?_;rw[aI hi];obtain⟨σ1,hs1⟩:∃x,x=σ.set i (rdr T (r.drop (r.takeWhile dig).length)):=⟨_,rfl⟩
   have hl1:σ1.length=σ.length:=by rw[hs1,RB]
   have hb1:aj σ1.length σ1=true:=by rw[hl1,hs1];exact ca hb rfl
   rw[<-hs1,<-hl1];have htc:(c::r).takeWhile dig=c::r.takeWhile dig:=RC hdig;have hdr:(c::r).drop ((c::r).takeWhile dig).length=r.drop (r.takeWhile dig).length:=by rw[htc];rfl
   have hall:((c::r).takeWhile inn).all dig=((c::r).takeWhile inn).all fun x=>da x.toNat:=rfl;have hsp:=vt (c::r);rw[hdr,htc]at hsp;by_cases hA:(1<(c::r.takeWhile dig).length/\c=48)\/(r.drop (r.takeWhile dig).length).takeWhile inn≠[]
   .rw[if_pos hA];simp -dsimp only[aw,jV,jW,jX,jY,jZ,jA,reduceIte,reduceCtorEq,jB,jC,jD,jE,jF,jG,cj,cT];refine fin1 _ σ1 0 0 [] 0 5 [] hl1 hs1 hb1 ?_
    have hcond:(((c::r).takeWhile inn).all fun x=>da x.toNat)=false\/(1<((c::r).takeWhile inn).length/\c=48):=by
     rcases hsp with⟨g1,g2,g3⟩|⟨g1,g2⟩
     .refine .inr ?_;rw[<-g2];exact hA.elim id (fun h=>absurd g3 h)
     .exact .inl g1
    unfold qD;simp only[bG,hlow,hdig,if_true,Rs,if_false,hcond];exact⟨rfl,_,hs1⟩
   .rw[if_neg hA]
    have hsp1:((c::r).takeWhile inn).all dig=true/\c::r.takeWhile dig=(c::r).takeWhile inn:=by
     rcases hsp with⟨g1,g2,g3⟩|⟨g1,g2⟩
     .exact⟨g1,g2⟩
     .exact absurd (.inr g2) hA
    have hcond:¬((((c::r).takeWhile inn).all fun x=>da x.toNat)=false\/(1<((c::r).takeWhile inn).length/\c=48)):=by
     rintro(h|h)
     .rw[<-hall,hsp1.1]at h;cases h
     .rw[<-hsp1.2]at h;exact hA (.inl h)
    have hdr2:r.drop (r.takeWhile dig).length=(c::r).drop ((c::r).takeWhile inn).length:=by rw[<-hsp1.2];rfl
    have htk:(c::r).take ((c::r).takeWhile inn).length=(c::r).takeWhile inn:=List.prefix_iff_eq_take.1 (RA _) |>.symm
    rw[hsp1.2];rw[hdr2]at hs1;by_cases hB:2147483647<ct ((c::r).takeWhile inn)
    .rw[if_pos hB];simp -dsimp only[aw,jV,jW,jX,jY,jZ,jA,reduceIte,reduceCtorEq,jB,jC,jD,jE,jF,jG,cj,cT];refine fin1 _ σ1 0 0 [] 0 3 [] hl1 hs1 hb1 ?_;unfold qD;simp only[bG,hlow,hdig,if_true,Rs,if_false,hcond,hB];exact⟨rfl,_,hs1⟩
    .rw[if_neg hB];simp -dsimp only[aw,jV,jW,jX,jY,jZ,jA,reduceIte,reduceCtorEq,jB,jC,jD,jE,jF,jG,cj,cT];refine fin1 _ σ1 _ _ ((c::r).takeWhile inn) _ 0 [] hl1 hs1 hb1 ?_;unfold qD;simp only[bG,hlow,hdig,if_true,Rs,if_false,hcond,hB];exact⟨by rw[htk],hs1⟩
  | false=>
   simp -dsimp only[aw,jV,jW,jX,jY,jZ,jA,reduceIte,reduceCtorEq,jB,jC,jD,jE,jF,jG];have hrd:bG l0=if n=0 then .err 5 else .tok 4 0 n:=by rw[<-hn,he];exact qd c r hlow hdig
   refine dq (CX n T l0 hn i hl h0 h1 _ (ar hi _)) ?_;rw[aI hi];obtain⟨σ1,hs1⟩:∃x,x=σ.set i (rdr T (l0.drop n)):=⟨_,rfl⟩
   have hl1:σ1.length=σ.length:=by rw[hs1,RB]
   have hb1:aj σ1.length σ1=true:=by rw[hl1,hs1];exact ca hb rfl
   rw[<-hs1,<-hl1];by_cases hz:n=0
   .rw[if_pos hz];rw[if_pos hz]at hrd;simp -dsimp only[aw,jV,jW,jX,jY,jZ,jA,reduceIte,reduceCtorEq,jB,jC,jD,jE,jF,jG,cj,cT];refine fin1 _ σ1 0 0 [] 0 5 [] hl1 hs1 hb1 ?_;unfold qD;rw[hrd];exact⟨rfl,_,hs1⟩
   .rw[if_neg hz];rw[if_neg hz]at hrd;simp -dsimp only[aw,jV,jW,jX,jY,jZ,jA,reduceIte,reduceCtorEq,jB,jC,jD,jE,jF,jG,cj,cT];refine fin1 _ σ1 4 0 (l0.take n) _ 0 [] hl1 hs1 hb1 ?_;unfold qD;rw[hrd];exact⟨rfl,hs1⟩
theorem bc{K P:V->LLV->Prop}{v:V}{σ:LLV}:Ds K P (.ret v) σ=K v σ:=rfl
def dF(t:Tok):List D:=[ab t.kind,ab t.num,ae t.text,ab t.line]
def qJ:Lx->V
 | .ok ts=>.tup [.d (.sl (ts.map dF)),.d (ab 0),.d (ab 0)]
 | .err n e=>.tup [.d (.sl []),.d (ab n),.d (ab e)]
def jL(l:Bs):V:=if 16384<l.length then .tup [.d (.sl []),.d (ab 0),.d (ab 2)]else qJ (cS l)
theorem qm{l:Bs}{e:Int}(h:bG l=.err e):e≠0:=by
 match l with
 | []=>cases h;decide
 | c::r=>
  simp only[bG]at h;split at h
  .split at h<;>cases h<;>decide
  .split at h
   .split at h
    .cases h;decide
    .split at h<;>cases h<;>decide
   .split at h<;>cases h<;>decide
theorem kb(N:Int)(l:Bs):dn N (be l)=dn N l:=by rw[aX,aX N l,iD]
theorem xz(x:Lx)(t:Tok)(a:List Tok):(x.cons t).app a=x.app (a++[t]):=by cases x<;>simp[Lx.cons,Lx.app]
theorem AQ(x:Lx):x.app []=x:=by cases x<;>rfl
theorem xO(l:Bs)(hl:l.length≤1000000)(σ:LLV):Fun G 43 [.d (ae (bs l))] σ (aA (jL l) σ):=by
 have hcl:l.count 10≤l.length:=RH;refine ai Tryz.func43 k43 rfl fun hb hw=>?_;unfold c43;by_cases hbig:16384<l.length
 .have hbig':(16384:Int)<((l.length:Nat):Int):=by omega
  simp -dsimp only[aw,jV,jW,jX,jY,jZ,jA,reduceIte,reduceCtorEq,jB,jC,jD,jE,jF,jG,ay,decide_eq_true hbig'];exact al hb (v:=jL l) (by unfold jL;rw[if_pos hbig];rfl) (by unfold jL;rw[if_pos hbig];rfl) List.take_length ⟨rfl,rfl⟩
 .have hbig':¬(16384:Int)<((l.length:Nat):Int):=by omega
  have hR:jL l=qJ (cS l):=by unfold jL;rw[if_neg hbig]
  rw[hR];obtain⟨T,hT⟩:∃T:Int,T=1+(l.count 10:Nat):=⟨_,rfl⟩
  have hT0:0≤T:=by omega
  have hT1:T≤1000000000:=by omega
  have htk:cS l=dn T l:=by rw[hT];rfl
  have h1:(1:Int)=T-(l.count 10:Nat):=by omega
  have hbox:[V.d (ae (bs l)),V.d (ab 1)]=rdr T l:=by unfold rdr rd;rw[h1]
  simp -dsimp only[aw,jV,jW,jX,jY,jZ,jA,reduceIte,reduceCtorEq,jB,jC,jD,jE,jF,jG,ay,decide_eq_false hbig',hbox];refine dq (vG T l σ.length hl hT0 hT1 _ (pS _)) ?_;rw[nI];simp -dsimp only[aw,jV,jW,jX,jY,jZ,jA,reduceIte,reduceCtorEq,jB,jC,jD,jE,jF,jG];refine fT (R:=fun(j:Nat) ρ σ'=>∃(acc:List Tok) (r:Bs),be r=r/\cS l=(dn T r).app acc/\r.length+j≤l.length/\acc.length≤j/\ρ=[(5,.ptr σ.length 0),(6,.own 61 4 (acc.map dF))]/\σ'=σ++[rdr T r]) l.length ⟨[],be l,iD l,by rw[AQ,kb,htk],by have:=(dH l).length_le;omega,by simp,rfl,rfl⟩ ?_ _;rintro j ρ' σ' hj ⟨acc,r,hs,hr,hrl,hal,rfl,rfl⟩
  match hre:r with
  | []=>
   simp -dsimp only[aw,jV,jW,jX,jY,jZ,jA,reduceIte,reduceCtorEq,jB,jC,jD,jE,jF,jG,rdr,rd,gh];refine al hb (v:=qJ (cS l)) ?_ ?_ Rz ⟨rfl,rfl⟩
   .rw[hr,aX,db];simp only[Lx.app,List.append_nil,qJ];rfl
   .rw[hr,aX,db];rfl
  | c::r'=>
   have hnil:=yR c r';simp -dsimp only[aw,jV,jW,jX,jY,jZ,jA,reduceIte,reduceCtorEq,jB,jC,jD,jE,jF,jG,rdr,rd,hnil];rw[<-hre]at hs hr hrl ⊢;have hfold:[V.d (ae (bs r)),V.d (ab (T-(r.count 10:Nat)))]=rdr T r:=rfl;rw[hfold];refine aR (DK (ck r) T r rfl c r' hre σ.length (by omega) hT0 hT1 _ (pS _)) fun o σ' hq=>?_;unfold qD at hq;have hst:=aX T r;rw[hs]at hst;cases hrd:bG r with
   | err e=>
    rw[hrd]at hq;obtain⟨rfl,l',rfl⟩:=hq;have he0:=qm hrd;rw[nI];simp -dsimp only[aw,jV,jW,jX,jY,jZ,jA,reduceIte,reduceCtorEq,jB,jC,jD,jE,jF,jG,bc,cj,cT,decide_eq_false he0]
    have hv:cS l=.err (T-(r.count 10:Nat)) e:=by
     rw[hr,hst];rw[hre]at hrd ⊢;simp only[hrd,Lx.app]
    exact al hb (v:=qJ (cS l)) (by rw[hv];rfl) (by rw[hv];rfl) Rz ⟨rfl,rfl⟩
   | tok kd n len=>
    rw[hrd]at hq;obtain⟨rfl,rfl⟩:=hq;obtain⟨g1,g2⟩:=iU hrd;rw[nI];simp -dsimp only[aw,jV,jW,jX,jY,jZ,jA,reduceIte,reduceCtorEq,jB,jC,jD,jE,jF,jG,bc,cT,decide_true,RO];refine bQ (by omega) ?_;simp -dsimp only[aw,jV,jW,jX,jY,jZ,jA,reduceIte,reduceCtorEq,jB,jC,jD,jE,jF,jG];refine dq (vG T (r.drop len) σ.length (by rw[RF];omega) hT0 hT1 _ (pS _)) ?_;rw[nI];simp -dsimp only[aw,jV,jW,jX,jY,jZ,jA,reduceIte,reduceCtorEq,jB,jC,jD,jE,jF,jG];have hsl:=(dH (r.drop len)).length_le;rw[RF]at hsl
    have hv:cS l=(dn T (be (r.drop len))).app (acc++[eG T r kd n len]):=by
     rw[hr,hst,kb,<-xz];rw[hre]at hrd ⊢;simp only[hrd]
    have ha2:∀a b:List V,σ++[a,b]=(σ++[a])++[b]:=fun a b=>by simp
    rw[ha2];refine⟨by omega,Nxt.drop (by simp) (aE hb rfl) (by simp[ao,V.under]) ⟨acc++[eG T r kd n len],be (r.drop len),iD _,hv,by omega,by simp;omega,?_,rfl⟩⟩;simp only[List.map_append,List.map_cons,List.map_nil];rfl
end Go.Proofs.YthekkgfmagliiaaGreatDoor
