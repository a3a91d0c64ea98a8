import Derived.Scope
import Derived.Test.YtnhphlmblenapaaGreatDoorIw1
set_option linter.unusedVariables false
set_option linter.unusedSimpArgs false
set_option linter.unusedSectionVars false
set_option maxRecDepth 1200000
set_option maxHeartbeats 2000000
open Bool renaming and_eq_false_iff->Pa,eq_iff_iff->Pb
open Int renaming cast_ofNat_Int->Pd,natCast_zero->Pe,lt_irrefl->Pf
open List renaming take_left->Pg,takeWhile_prefix->Ph,length_set->Pi,take_of_length_le->Pj,takeWhile_cons_of_pos->Pk,getElem?_eq_getElem->Pl,length_cons->Pm,cons_append->Pn,set_set->Po,getElem_cons_zero->Pp,getElem_cons_succ->Pq,set_getElem_self->Pr,count_le_length->Ps,length_drop->Pt,length_nil->Pu
open Nat renaming le_refl->Pv,le_trans->Pw
namespace Go.Proofs.YtnhphlmblenapaaGreatDoor
open Go.RowKit
section
variable (spl : ByteArray -> Option (ByteArray × Int)) (fs : List (ByteArray × Int))
end
end Go.Proofs.YtnhphlmblenapaaGreatDoor
namespace Go.Proofs.YtnhphlmblenapaaGreatDoor
open Go.RowKit
section
variable (spl : ByteArray -> Option (ByteArray × Int)) (fs : List (ByteArray × Int))
end
end Go.Proofs.YtnhphlmblenapaaGreatDoor
namespace Go.Proofs.YtnhphlmblenapaaGreatDoor
open Go.RowKit
section
variable (fs : List (ByteArray × Int))
end
end Go.Proofs.YtnhphlmblenapaaGreatDoor
namespace Go.Proofs.YtnhphlmblenapaaGreatDoor
open Go.RowKit
section
variable (spl : ByteArray -> Option (ByteArray × Int)) (fs : List (ByteArray × Int))
end
end Go.Proofs.YtnhphlmblenapaaGreatDoor
namespace Go.Proofs.YtnhphlmblenapaaGreatDoor
open Go.RowKit
theorem eo{M:ao}{bm:List Nat}{u v:Value}(h:Rep M bm (.d (.lit u)) v):v=u:=by
 cases h with
 | d h=>cases h with
 | lit _ _=>rfl
theorem o2{f:FuncId}{fn:Func}{a u:Value}{σ:LLV}(hf:Tryz.prog.funcs[f]? = some fn)(hn:(fn.name == "runtime.NumGoroutine")=false)(hb:fn.body.isNone=false)(hu:c7 u)
 (h:∀pr w,G.kept pr w->Calls Tryz.prog f #[a] w fun e w'=>e=.returned u/\Ext w w'):Fun G f [.d (.lit a)] σ (aO (.d (.lit u)) σ):=
 oi hf hn hb hu fun M bm pr w v hG hM h1=>by cases eo h1;exact h pr w hG.2
theorem pF{f:FuncId}{fn:Func}{a b u:Value}{σ:LLV}(hf:Tryz.prog.funcs[f]? = some fn)(hn:(fn.name == "runtime.NumGoroutine")=false)(hb:fn.body.isNone=false)(hu:c7 u)
 (h:∀pr w,G.kept pr w->Calls Tryz.prog f #[a,b] w fun e w'=>e=.returned u/\Ext w w'):Fun G f [.d (.lit a),.d (.lit b)] σ (aO (.d (.lit u)) σ):=
 sk hf hn hb hu fun M bm pr w v v' hG hM h1 h2=>by cases eo h1;cases eo h2;exact h pr w hG.2
theorem ml{P:Program}{f:FuncId}{args:Array Value}{w:World}{u:Value}(h:Calls P f args w fun e w'=>e=.returned u/\w'=w):Calls P f args w fun e w'=>e=.returned u/\Ext w w':=
 h.mono fun e w' ⟨he,hw⟩=>⟨he,hw▸Ext.refl _⟩
theorem lV{n:Nat}(h:n≤9223372036854775807):c7 (.int .i64 n):=by
 simp only[c7,IntKind.min,IntKind.max,IntKind.signed,IntKind.bits];omega
theorem yZ(l:Bs)(hl:l.length≤9223372036854775807)(σ:LLV):Fun G 218 [.d (ae (bs l)),.d (ae ⟨#[10]⟩)] σ (aO (.d (aa (l.count 10:Nat))) σ):=
 pF Tryz.func218 (by kernel_rfl) (by kernel_rfl) (lV (Pw Ps hl)) fun pr w _=>by
  have:=ml (Tryz.strings_Count_one (bs l) 10 w);rw[d6]at this;exact this
theorem kQ(s p:Bs)(σ:LLV):Fun G 156 [.d (ae (bs s)),.d (ae (bs p))] σ (aO (.d (.lit (.bool (p.isPrefixOf s)))) σ):=
 pF Tryz.func156 (by kernel_rfl) (by kernel_rfl) trivial fun pr w _=>by
  have:=ml (Tryz.strings_HasPrefix (bs s) (bs p) w);rw[d6,d6]at this;exact this
theorem AY:∀c:Nat,c<128->decide (0≤Lib.indexByte [32,9,10] ((c:Int).toNat.toUInt8))=(c==32||c==9||c==10):=by decide
theorem qd(n:Int)(h0 : -9223372036854775808≤n)(h1:n≤9223372036854775807)(hs:(Lib.itoa n).length≤maxLen)(σ:LLV):Fun G 159 [.d (aa n)] σ (aO (.d (ae (bs (Lib.itoa n)))) σ):=
 o2 Tryz.func159 (by kernel_rfl) (by kernel_rfl) (by show(bs (Lib.itoa n)).size≤maxLen;rw[bW];exact hs) fun pr w hk=>by
  obtain⟨-,cs,T,z,g1,rfl⟩:=hk 3 _ (by rfl);refine(Tryz.strconv_Itoa n h0 h1 w ?_).mono fun e w' ⟨he,k,os,hw⟩=>⟨he,?_⟩
  .have hg:Tryz.prog.globalNamed "internal/strconv.uint64pow10" = some 3:=by kernel_rfl
   simp only[Lib.TabIs,World.var?,hg,Option.bind_some,g1]
  .subst hw
   exact⟨rfl,rfl,rfl,by simp[Sort.grow,World.drewN],fun i hi=>by
    show((w.drewN k).heap++os)[i]? = _;rw[Array.getElem?_append_left (by show i<w.heap.size;omega)];rfl⟩
theorem lQ(l:Bs)(v:Int)(hl:l.length≤9223372036854775806)(hp:Lib.parseIntB 64 l=.ok v)(hv:c7 (.int .i64 v))(σ:LLV):Fun G 220 [.d (ae (bs l)),.d (aa 10),.d (aa 64)] σ (aO (.tup [.d (aa v),.d (.lit .nilIface)]) σ):=
 py Tryz.func220 (by kernel_rfl) (by kernel_rfl) (fun T k rows e=>by cases e) fun M bm pr w vs hG hM hl' hr=>by
  match vs,hl' with
  | [a,b,c],_=>
  have e1:=eo (hr 0 (by simp) (by simp));have e2:=eo (hr 1 (by simp) (by simp));have e3:=eo (hr 2 (by simp) (by simp));simp only[Pp,Pq]at e1 e2 e3;subst e1 e2 e3;refine(Tryz.strconv_ParseInt_10_at64_ok (bs l) (by rw[bW];exact hl) v (by rw[d6];exact hp) w).mono fun e w' ⟨he,hw⟩=>⟨_,he,?_,?_⟩
  .rcases hw with rfl|⟨t,rfl⟩
   .exact Ext.refl _
   .exact Lib.bytesWorld_below _ _ _
  .refine .tup (vs:=[_,_]) rfl fun i g g'=>?_
   match i with
   | 0=>exact .d (.lit _ hv)
   | 1=>exact .d (.lit _ trivial)
theorem jf(l:Bs)(hl:l.length≤281474976710656)(hp:Lib.parseIntB 64 l=.range)(σ:LLV):Fun G 220 [.d (ae (bs l)),.d (aa 10),.d (aa 64)] σ (aO (.tup [.junk,.iface 264 .junk]) σ):=
 py Tryz.func220 (by kernel_rfl) (by kernel_rfl) (fun T k rows e=>by cases e) fun M bm pr w vs hG hM hl' hr=>by
  match vs,hl' with
  | [a,b,c],_=>
  have e1:=eo (hr 0 (by simp) (by simp));have e2:=eo (hr 1 (by simp) (by simp));have e3:=eo (hr 2 (by simp) (by simp));simp only[Pp,Pq]at e1 e2 e3;subst e1 e2 e3;obtain⟨-,cs,T,z,g1,t,x,g2⟩:=hG.2 5 _ (by rfl);refine(Tryz.strconv_ParseInt_10_at64_range (bs l) (by rw[bW];exact hl) (by rw[d6];exact hp) (.iface t x) w (by simp[World.cell?,g1,g2]) (.inr ⟨_,_,rfl⟩)).mono fun e w' ⟨N,he,h1,h2,h3⟩=>⟨_,he,h3,?_⟩
  refine .tup (vs:=[_,_]) rfl fun i g g'=>?_
  match i with
  | 0=>exact .junk _
  | 1=>exact .iface (.junk _)
theorem CE(l:List ByteArray)(hn:l.length≤140737488355328)(hlen:(Lib.join (l.map (·.data.toList)) [32]).length≤140737488355328)(σ:LLV):
 Fun G 244 [.d (dB l),.d (ae ⟨#[32]⟩)] σ (aO (.d (ae (bs (Lib.join (l.map (·.data.toList)) [32])))) σ):=
 sk Tryz.func244 (by kernel_rfl) (by kernel_rfl) (by show(bs _).size≤maxLen;rw[bW];unfold maxLen;omega) fun M bm pr w v v' hG hM h1 h2=>by
  cases eo h2;obtain⟨p,cap,rfl,g1,g2,g3⟩:=lk hM h1;by_cases h0:l=[]
  .subst h0;exact ml (Tryz.strings_Join_none p cap ⟨#[32]⟩ w)
  .have hp:0<l.length:=List.length_pos_iff.2 h0;obtain⟨b,off,rfl,g4⟩:=g3 0 (l[0]'hp) (Pl hp);refine Tryz.strings_Join b off cap l ⟨#[32]⟩ w (fun j x hj=>?_) (Lib.lt_of_cell g4) hn g1 hlen;obtain⟨b',off',e,g5⟩:=g3 j x hj;cases e;exact g5
theorem B6:ByteP inn g9:=⟨fun b hb=>rfl,false,fun c h=>kE h,fun b hb=>kE (by omega)⟩
theorem B9:ByteP dig fC:=⟨fun b hb=>rfl,false,fun c h=>by simp only[fC,Pa,decide_eq_false_iff_not];omega,fun b hb=>by simp only[dig,fC,Pa,decide_eq_false_iff_not];omega⟩
theorem yP:ByteP (fun b=>b != 10) (fun c=>decide (c≠10)):=by
 refine⟨fun b hb=>?_,true,fun c h=>by simp;omega,fun b hb=>?_⟩
 .rw[Pb];simp only[ne_eq,decide_eq_true_eq,bne_iff_ne];refine not_congr ⟨fun h=>UInt8.toNat_inj.1 (by show b.toNat=10;omega),fun h=>by rw[h];rfl⟩
 .simp only[bne_iff_ne,ne_eq];intro e;rw[e]at hb;revert hb;decide
theorem yU(c:Int)(w:World):Calls Tryz.prog 168 #[.int .i32 c] w fun e w'=>e=.returned (.bool (decide (c≠10)))/\w=w':=by
 go_enter Tryz.func168,Tryz.ntmps168;go_wp2_with fail;go_ret;exact⟨b9 (by by_cases h:c=10<;>simp[h]),rfl⟩
theorem pp{F:FuncId}{q:UInt8->Bool}{p:Int->Bool}(hq:ByteP q p)(hF:∀args w,(callFunc F args).run Tryz.prog w=.ok (.enter F args) w)
 (H:∀(c:Int) (w:World),Calls Tryz.prog F #[.int .i32 c] w fun e w'=>e=.returned (.bool (p c))/\w=w')(l:Bs)(hl:l.length≤9223372036854775807)(σ:LLV):
 Fun G 167 [.d (ae (bs l)),.fn F []] σ (aO (.d (aa (l.takeWhile q).length)) σ):=
 sk Tryz.func167 (by kernel_rfl) (by kernel_rfl) (lV (Pw (Ph _).length_le hl)) fun M bm pr w v v' hG hM h1 h2=>by
  cases eo h1;cases h2 with
  | @fn _ _ vs hl' h=>
  have:vs=[]:=List.eq_nil_of_length_eq_zero hl';subst this;have:=BI F #[] q p hq hF (fun c w=>H c w) (bs l) w (by rw[bW];exact hl);rw[d6]at this;exact this
theorem pT(l:Bs)(hl:l.length≤9223372036854775807)(σ:LLV):Fun G 167 [.d (ae (bs l)),.fn 200 []] σ (aO (.d (aa (l.takeWhile inn).length)) σ):=
 pp B6 (bE (P:=Tryz.prog) Tryz.func200 (by kernel_rfl) (by kernel_rfl)) fV l hl σ
theorem Cj(l:Bs)(hl:l.length≤9223372036854775807)(σ:LLV):Fun G 167 [.d (ae (bs l)),.fn 172 []] σ (aO (.d (aa (l.takeWhile dig).length)) σ):=
 pp B9 (bE (P:=Tryz.prog) Tryz.func172 (by kernel_rfl) (by kernel_rfl)) fO l hl σ
theorem Ad(l:Bs)(hl:l.length≤9223372036854775807)(σ:LLV):Fun G 167 [.d (ae (bs l)),.fn 168 []] σ (aO (.d (aa (l.takeWhile (· != 10)).length)) σ):=
 pp yP (bE (P:=Tryz.prog) Tryz.func168 (by kernel_rfl) (by kernel_rfl)) yU l hl σ
theorem vB(c:Nat)(h1:128≤c)(h2:c<256):∃x y:UInt8,Utf8.encode c=⟨#[x,y]⟩/\128≤y.toNat:=by
 refine⟨UInt8.ofNat (192+c/64),UInt8.ofNat (128+c%64),?_,?_⟩
 .have hv:Utf8.valid (c:Int)=true:=by simp only[Utf8.valid];simp;omega
  unfold Utf8.encode;simp only[hv,if_true,Int.toNat_natCast,show ¬c<128 by omega,if_false,show c<2048 by omega]
 .rw[UInt8.toNat_ofNat'];omega
theorem pQ(c:Nat)(h1:128≤c)(h2:c<256)(w:World):Calls Tryz.prog 219 #[.string ⟨#[32,9,10]⟩,.int .i32 c] w fun e w'=>e=.returned (.int .i64 (-1))/\Ext w w':=by
 obtain⟨x,y,he,hy⟩:=vB c h1 h2;have n1:(decide ((c:Int)<128))=false:=by simp;omega
 have n2:((c:Int)==65533)=false:=by simp;omega
 have n3:Lib.validRune (c:Int)=true:=by simp[Lib.validRune];omega
 have n4:((9:Int)==((y.toNat:Nat):Int))=false:=by simp;omega
 have n5:Lib.indexByte [10] ((y.toNat:Int).toNat.toUInt8) = -1:=by
  have:(10:UInt8)≠y:=by intro e;rw[<-e]at hy;revert hy;decide
  have e:(y.toNat:Int).toNat.toUInt8=y:=by simp
  rw[e];simp[Lib.indexByte,this]
 go_enter Tryz.func219,Tryz.ntmps219;go_wp2_with (first|(go_at_call 249;refine(Tryz.utf8_ValidRune _ _).mono ?_;rintro e w' ⟨rfl,rfl⟩)|(go_at_call 248;refine(Tryz.strings_IndexByte _ _ _).mono ?_;rintro e w' ⟨rfl,rfl⟩));refine wp_scope_straight ?_;go_wp2_with (first|(go_at_call 249;refine(Tryz.utf8_ValidRune _ _).mono ?_;rintro e w' ⟨rfl,rfl⟩)|(go_at_call 248;refine(Tryz.strings_IndexByte _ _ _).mono ?_;rintro e w' ⟨rfl,rfl⟩));go_loop [9,10,11,12] (fun i j k l=>i=.int .i64 1) (fun i j k l=>0);case atStart=>rfl
 case round=>
  subst hrel;go_wp2_with (first|(go_at_call 249;refine(Tryz.utf8_ValidRune _ _).mono ?_;rintro e w' ⟨rfl,rfl⟩)|(go_at_call 248;refine(Tryz.strings_IndexByte _ _ _).mono ?_;rintro e w' ⟨rfl,rfl⟩));refine wp_scope_straight ?_;go_wp2_with (first|(go_at_call 249;refine(Tryz.utf8_ValidRune _ _).mono ?_;rintro e w' ⟨rfl,rfl⟩)|(go_at_call 248;refine(Tryz.strings_IndexByte _ _ _).mono ?_;rintro e w' ⟨rfl,rfl⟩))
  have n6:∀(h1:1<(⟨#[32,9,10]⟩:ByteArray).size) (h2:1<(⟨#[x,y]⟩:ByteArray).size),((((⟨#[32,9,10]⟩:ByteArray)[1]'h1).toNat:Int) != (((⟨#[x,y]⟩:ByteArray)[1]'h2).toNat:Int))=true:=fun h1 h2=>by
   have a1:(⟨#[32,9,10]⟩:ByteArray)[1]'h1=9:=rfl;have a2:(⟨#[x,y]⟩:ByteArray)[1]'h2=y:=rfl;rw[a1,a2,bne,show(((9:UInt8).toNat:Int)==(y.toNat:Int))=false from n4];rfl
  have n7:∀(h2:1<(⟨#[x,y]⟩:ByteArray).size),Lib.indexByte [10] ((⟨#[x,y]⟩:ByteArray)[1]'h2) = -1:=fun h2=>by
   have a2:(⟨#[x,y]⟩:ByteArray)[1]'h2=y:=rfl;rw[a2];have e:(y.toNat:Int).toNat.toUInt8=y:=by simp
   rw[e]at n5;exact n5
  go_region;go_wp2_with fail;go_region_with (first|(go_at_call 248;refine(Tryz.strings_IndexByte _ _ _).mono ?_;rintro e w' ⟨rfl,rfl⟩));all_goals (go_wp2_with fail)
  all_goals (rw[Exit.noGoto_ret];go_wp2_with fail)
  all_goals (rw[Exit.noGoto_ret];go_wp2_with fail;go_ret;exact⟨rfl,(Ext.refl _).drew.drew⟩)
theorem lG(c:Nat)(h1:128≤c)(h2:c<256)(w:World):Calls Tryz.prog 169 #[.string ⟨#[32,9,10]⟩,.int .i32 c] w fun e w'=>e=.returned (.bool false)/\Ext w w':=by
 go_enter Tryz.func169,Tryz.ntmps169;go_wp2_with (go_at_call 219;refine(pQ c h1 h2 _).mono ?_;rintro e w' ⟨rfl,hx⟩);go_ret;exact⟨rfl,hx⟩
theorem IF(l:Bs)(n:Nat)(h:n≤l.length):qw true 0 (V.d (ae (bs l))) none (some (V.d (aa n)))=some (V.d (ae (bs (l.take n)))):=by
 simp[qw,fy,wP,bW,h,FL]
theorem IR(l:Bs)(n:Nat)(h:n≤l.length):qw true 0 (V.d (ae (bs l))) (some (V.d (aa n))) none=some (V.d (ae (bs (l.drop n)))):=by
 have:=ES l n;rw[bW]at this;simp[qw,fy,wP,bW,h,this]
theorem xr:decide (bs []=({data := #[]}:ByteArray))=true:=by rw[decide_eq_true_eq];rfl
theorem D1(c:UInt8)(r:Bs):decide (bs (c::r)=({data := #[]}:ByteArray))=false:=by
 rw[decide_eq_false_iff_not];intro h;have h2:=vj.1 (h:bs (c::r)=bs []);cases h2
theorem mt(c:UInt8)(r:Bs):ixV (V.d (ae (bs (c::r)))) (V.d (.lit (.int .i64 0)))=some (aC .u8 c.toNat):=by simp[ixV,d6]
theorem BW(n:Nat)(h:n<256):IntKind.i32.wrap (n:Int)=n:=by
 simp[IntKind.wrap,IntKind.bits,IntKind.signed];split<;>omega
theorem z6(c:UInt8):(c.toNat==32||c.toNat==9||c.toNat==10)=A6 c:=by
 rw[Pb];simp[A6,<-UInt8.toNat_inj]
theorem xS(q:UInt8->Bool):∀l:Bs,l.drop (l.takeWhile q).length=l.dropWhile q
 | []=>rfl
 | a::r=>by
  by_cases h:q a=true
  .rw[Pk h,List.dropWhile_cons_of_pos h,Pm,List.drop_succ_cons,xS q r]
  .rw[List.takeWhile_cons_of_neg h,List.dropWhile_cons_of_neg h];rfl
def rd(l:Bs)(n:Int):List V:=[.d (ae (bs l)),.d (aa n)]
theorem ct{k:Nat}{σ:LLV}{cs:List V}{i:Nat}(h:ai k σ=true)(hc:V.unders k cs=true):ai k (σ.set i cs)=true:=by
 unfold ai at h ⊢;rw[List.all_eq_true]at h ⊢;intro x hx;rcases List.mem_or_eq_of_mem_set hx with h1|rfl
 .exact h x h1
 .exact hc
theorem bv{σ σ' τ:LLV}{ρ:ac}{rs:List RV}{Q:Out->LLV->Prop}(hb:ai σ.length τ=true){v:V}(h:aL σ' ρ rs=some v)(hv:V.under σ.length v=true)(hσ:σ'.take σ.length=τ)(hq:Q (.ret v) τ):fin σ.length rs Q .ret ρ σ':=
 ⟨ρ,σ',.refl _ _ _,v,h,σ.length,Pv _,by rw[hσ];exact hb,hv,by rw[hσ];exact hq⟩
theorem cY{C:Cx}{f:FuncId}{args:List V}{σ τ:LLV}{v:V}{K P:V->LLV->Prop}{s:Tag K}{t:Tag P}(h:Fun C f args σ fun o σ'=>o=.ret v/\σ'=τ)(hk:K v τ):iq C f args σ K P s t:=
 h.mono fun o σ' ⟨e1,e2⟩=>by subst e1;subst e2;exact hk
def rdr(T:Int)(l:Bs):List V:=rd l (T-(l.count 10:Nat))
theorem jr(T:Int)(l:Bs)(n i:Nat)(hn:n≤l.length)(hl:l.length≤1200000)(h0:0≤T)(h1:T≤1000000000)(σ:LLV)(hi:σ[i]? = some (rdr T l)):
 Fun G 166 [.ptr i 0,.d (aa n)] σ fun o σ'=>o=.ret (.d (ae (bs (l.take n))))/\σ'=σ.set i (rdr T (l.drop n)):=by
 have hlt:i<σ.length:=(List.getElem?_eq_some_iff.1 hi).1;have hcl:(l.count 10:Nat)=(l.take n).count 10+(l.drop n).count 10:=by rw[<-List.count_append,List.take_append_drop]
 have hc2:l.count 10≤l.length:=Ps;refine al Tryz.func166 Oy rfl fun hb hw=>?_;unfold Lg;unfold rdr rd at hi;have hi':(σ.set i [.d (ae (bs (l.drop n))),.d (aa (T-(l.count 10:Nat)))])[i]? = some [.d (ae (bs (l.drop n))),.d (aa (T-(l.count 10:Nat)))]:=by simp[hlt]
 simp -dsimp only[aw,seval,hi,IF l n hn,IR l n hn,hi'];refine bp (yZ _ (by rw[List.length_take];omega) _) ?_;simp -dsimp only[aw,seval,hi'];rw[bI (by omega) (by omega),Po,show T-(l.count 10:Nat)+((l.take n).count 10:Nat)=T-((l.drop n).count 10:Nat)by omega];exact bv (τ:=σ.set i (rdr T (l.drop n))) (ct hb rfl) rfl rfl (by rw[Pj (by rw[Pi];exact Pv _)];rfl) ⟨rfl,rfl⟩
theorem ud(c:Nat)(hc:c<256)(σ:LLV):Fun G 169 [.d (ae ⟨#[32,9,10]⟩),.d (.lit (.int .i32 c))] σ (aO (.d (.lit (.bool (c==32||c==9||c==10)))) σ):=
 pF Tryz.func169 (by kernel_rfl) (by kernel_rfl) trivial fun pr w _=>by
  by_cases h:c<128
  .have:=ml (Tryz.strings_ContainsRune_ascii ⟨#[32,9,10]⟩ c w (by omega) (by omega));rw[<-AY c h];exact this
  .have e:(c==32||c==9||c==10)=false:=by simp;omega
   rw[e];exact lG c (by omega) hc w
theorem uq(T:Int)(l:Bs)(i:Nat)(hl:l.length≤1200000)(h0:0≤T)(h1:T≤1000000000)(σ:LLV)(hi:σ[i]? = some (rdr T l)):
 Fun G 115 [.ptr i 0] σ fun o σ'=>o=.ret (.tup [])/\σ'=σ.set i (rdr T (bQ l)):=by
 have hlt:i<σ.length:=(List.getElem?_eq_some_iff.1 hi).1;have hset:∀X:List V,(σ.set i X)[i]? = some X:=fun X=>by simp[hlt]
 have hself:σ.set i (rdr T l)=σ:=by rw[<-List.getElem?_eq_some_iff.1 hi |>.2];exact Pr hlt
 refine al Tryz.func115 Nd rfl fun hb hw=>?_;unfold MC;simp -dsimp only[aw,seval];refine oc (R:=fun(j:Nat) ρ σ'=>∃r:Bs,bQ r=bQ l/\r.length+j≤l.length/\ρ=[(0,.ptr i 0)]/\σ'=σ.set i (rdr T r)) (l.length+1) ⟨l,rfl,by omega,rfl,hself.symm⟩ ?_ _;rintro j ρ' σ' hj ⟨r,hr,hrl,rfl,rfl⟩;have hset':=hset (rdr T r);have hset2:=hset';unfold rdr rd at hset2;simp -dsimp only[aw,seval,hset2,rdr,rd];refine aj (kQ r [47,47] _) ?_
 have next:∀r2:Bs,bQ r2=bQ l->r2.length<r.length->j<l.length+1/\Nxt σ.length (fun ρ σ'=>∃r,bQ r=bQ l/\r.length+(j+1)≤l.length/\ρ=[(0,V.ptr i 0)]/\σ'=σ.set i (rdr T r)) [(0,.ptr i 0)] (σ.set i (rdr T r2)) .mk:=fun r2 h2 h3=>
  ⟨by omega,Nxt.same (by simp) (by rw[Pi];exact ct hb rfl) (by simp[an,V.under,hlt]) ⟨r2,h2,by omega,rfl,rfl⟩⟩
 cases hpre:([47,47]:Bs).isPrefixOf r with
 | true=>
  obtain⟨r2,hr2⟩:=List.isPrefixOf_iff_prefix.1 hpre;have hdw:r.drop (r.takeWhile (· != 10)).length=r.dropWhile (· != 10):=xS _ r
  have hsk:bQ r=bQ (r.dropWhile (· != 10)):=by
   subst hr2;rw[Pn,dG,if_neg (by decide),if_pos ⟨rfl,rfl⟩]
  have htw:(r.takeWhile (· != 10)).length≤r.length:=(Ph _).length_le
  have htp:1≤(r.takeWhile (· != 10)).length:=by
   subst hr2;rw[Pn,Pk (by decide)];simp
  simp -dsimp only[aw,seval,hset2];refine aj (Ad r (by omega) _) ?_;simp -dsimp only[aw,seval];refine cY (jr T r _ i htw (by omega) h0 h1 _ hset2) ?_;rw[Po];simp -dsimp only[aw,seval];exact next _ (by rw[hdw,<-hsk,hr]) (by rw[Pt];omega)
 | false=>
  match r with
  | []=>
   simp -dsimp only[aw,seval,hset2,xr];rw[dP]at hr;exact bv (τ:=σ.set i (rdr T [])) (ct hb rfl) rfl rfl (by rw[Pj (by rw[Pi];exact Pv _)];rfl) ⟨rfl,by rw[<-hr]⟩
  | c::r2=>
   simp -dsimp only[aw,seval,hset2,D1,mt];have hc:c.toNat<256:=c.toNat_lt;rw[BW _ hc];refine aj (ud c.toNat hc _) ?_;rw[z6];cases hbl:A6 c with
   | true=>
    simp -dsimp only[aw,seval,hset2];refine cY (jr T (c::r2) 1 i (by simp) (by omega) h0 h1 _ hset2) ?_;rw[Po];simp -dsimp only[aw,seval];exact next r2 (by rw[<-hr,dG,if_pos hbl]) (by simp)
   | false=>
    simp -dsimp only[aw,seval,hset2]
    have hs:bQ (c::r2)=c::r2:=by
     rw[dG,if_neg (by rw[hbl];decide),if_neg];rintro⟨rfl,h⟩
     match r2,h with
     | d::r3,h=>
      simp only[List.head?_cons,Option.some.injEq]at h;subst h;simp at hpre
    exact bv (τ:=σ.set i (rdr T (c::r2))) (ct hb rfl) rfl rfl (by rw[Pj (by rw[Pi];exact Pv _)];rfl) ⟨rfl,by rw[<-hr,hs]⟩
def cS(kind num:Int)(text:Bs)(line:Int):V:=.agg [.d (aa kind),.d (aa num),.d (ae (bs text)),.d (aa line)]
def cy:V:=cS 0 0 [] 0
theorem tv(s:Bs)(σ:LLV):Fun G 147 [.d (ae (bs s))] σ (aO (.d (.lit (.bool (inB (bs s) dU)))) σ):=
 oi Tryz.func147 (by kernel_rfl) (by kernel_rfl) trivial fun M bm pr w v hG hM h1=>by
  cases eo h1;exact(fS (bs s) w (oC hG.1 hM)).mono fun e w' ⟨h1,h2⟩=>⟨h1,h2▸Ext.refl _⟩
theorem El(T:Int)(l:Bs)(i:Nat)(hl:l.length≤1200000)(h0:0≤T)(h1:T≤1000000000)(σ:LLV)(hi:σ[i]? = some (rdr T l)):
 Fun G 171 [.ptr i 0] σ fun o σ'=>o=.ret (.tup (if 16<(l.takeWhile inn).length then[cy,.d (aa 2)]else[cS (if inB (bs (l.takeWhile inn)) dU=true then 2 else 1) 0 (l.takeWhile inn) (T-(l.count 10:Nat)),.d (aa 0)]))/\σ'=σ.set i (rdr T (l.drop (l.takeWhile inn).length)):=by
 have hlt:i<σ.length:=(List.getElem?_eq_some_iff.1 hi).1;have htw:(l.takeWhile inn).length≤l.length:=(Ph _).length_le;have htk:l.take (l.takeWhile inn).length=l.takeWhile inn:=List.prefix_iff_eq_take.1 (Ph _) |>.symm
 refine al Tryz.func171 OR rfl fun hb hw=>?_;unfold c171;have hio:=fun t=>am hi t;unfold rdr rd at hio;simp -dsimp only[aw,seval,hio];refine aj (pT l (by omega) _) ?_;simp -dsimp only[aw,seval];refine cY (jr T l _ i htw hl h0 h1 _ (am hi _)) ?_;rw[bj hi,htk];obtain⟨σ1,hs1⟩:∃x,x=σ.set i (rdr T (l.drop (l.takeWhile inn).length)):=⟨_,rfl⟩
 have hl1:σ1.length=σ.length:=by rw[hs1,Pi]
 have hb1:ai σ1.length σ1=true:=by rw[hl1,hs1];exact ct hb rfl
 rw[<-hs1,<-hl1];simp -dsimp only[aw,seval,bW];by_cases h16:16<(l.takeWhile inn).length
 .have h16':(16:Int)<((l.takeWhile inn).length:Nat):=by omega
  simp -dsimp only[aw,seval,decide_eq_true h16'];rw[if_pos h16];exact bv (τ:=σ1) hb1 (v:=.tup [cy,.d (aa 2)]) (by simp[x9,aL,cv,bc,cy,cS,eH,aw,seval]) rfl Pg ⟨rfl,rfl⟩
 .have h16':¬(16:Int)<((l.takeWhile inn).length:Nat):=by omega
  simp -dsimp only[aw,seval,decide_eq_false h16'];rw[if_neg h16];refine aj (tv _ _) ?_;cases hkw:inB (bs (l.takeWhile inn)) dU with
  | true=>
   simp -dsimp only[aw,seval];exact bv (τ:=σ1) hb1 (v:=.tup [cS 2 0 (l.takeWhile inn) (T-(l.count 10:Nat)),.d (aa 0)]) (by simp[x9,aL,cv,bc,cy,cS,eH,aw,seval]) rfl Pg ⟨rfl,rfl⟩
  | false=>
   simp -dsimp only[aw,seval];exact bv (τ:=σ1) hb1 (v:=.tup [cS 1 0 (l.takeWhile inn) (T-(l.count 10:Nat)),.d (aa 0)]) (by simp[x9,aL,cv,bc,cy,cS,eH,aw,seval]) rfl Pg ⟨rfl,rfl⟩
theorem vS(T:Int)(c:UInt8)(r:Bs)(i:Nat)(hl:(c::r).length≤1200000)(hc:dig c=true)(h0:0≤T)(h1:T≤1000000000)(σ:LLV)(hi:σ[i]? = some (rdr T (c::r))):
 Fun G 173 [.ptr i 0] σ fun o σ'=>o=.ret (.tup (if(1<(c::r.takeWhile dig).length/\c=48)\/(r.drop (r.takeWhile dig).length).takeWhile inn≠[]then[cy,.d (aa 5)]else if 2147483647<eG (c::r.takeWhile dig)then[cy,.d (aa 3)]else[cS 3 (eG (c::r.takeWhile dig)) (c::r.takeWhile dig) (T-((c::r).count 10:Nat)),.d (aa 0)]))/\σ'=σ.set i (rdr T (r.drop (r.takeWhile dig).length)):=by
 have hlt:i<σ.length:=(List.getElem?_eq_some_iff.1 hi).1;have htc:(c::r).takeWhile dig=c::r.takeWhile dig:=Pk hc;have htw:((c::r).takeWhile dig).length≤(c::r).length:=(Ph _).length_le;have htk:(c::r).take ((c::r).takeWhile dig).length=(c::r).takeWhile dig:=List.prefix_iff_eq_take.1 (Ph _) |>.symm
 have hdr:(c::r).drop ((c::r).takeWhile dig).length=r.drop (r.takeWhile dig).length:=by rw[htc];rfl
 have hds:∀x,x∈c::r.takeWhile dig->dig x=true:=fun x hx=>by rw[<-htc]at hx;exact List.all_eq_true.1 (List.all_takeWhile (l:=c::r) (p:=dig)) x hx
 refine al Tryz.func173 Nr rfl fun hb hw=>?_;unfold c173;have hio:=fun t=>am hi t;unfold rdr rd at hio;simp -dsimp only[aw,seval,hio];refine aj (Cj (c::r) (by omega) _) ?_;simp -dsimp only[aw,seval];refine cY (jr T (c::r) _ i htw hl h0 h1 _ (am hi _)) ?_;rw[bj hi,htk,hdr,htc];rw[htc]at htw;generalize htx:r.takeWhile dig=tx at *;generalize hrs:r.drop tx.length=rs at *;obtain⟨σ1,hs1⟩:∃x,x=σ.set i (rdr T rs):=⟨_,rfl⟩
 have hl1:σ1.length=σ.length:=by rw[hs1,Pi]
 have hb1:ai σ1.length σ1=true:=by rw[hl1,hs1];exact ct hb rfl
 have hi1:σ1[i]? = some (rdr T rs):=by rw[hs1];simp[hlt]
 have hio1:=fun t=>am hi1 t;unfold rdr rd at hio1;rw[<-hs1,<-hl1];have hrl:rs.length≤1200000:=by rw[<-hrs,Pt];simp only[Pm]at hl;omega
 simp -dsimp only[aw,seval,bW,mt,hio1]
 have e48:decide ((c.toNat:Int)=48)=decide (c=48):=by
  rw[decide_eq_decide];exact⟨fun h=>UInt8.toNat_inj.1 (by show c.toNat=48;omega),fun h=>by rw[h];rfl⟩
 have hy:((tx.length:Nat)+1:Nat)=(c::tx).length:=rfl;by_cases hx:1<(c::tx).length/\c=48
 .obtain⟨ha,hc48⟩:=hx;have ha':(1:Int)<((tx.length+1:Nat):Int):=by simp only[Pm]at ha;omega
  simp -dsimp only[aw,seval,decide_eq_true ha',mt,e48,decide_eq_true hc48];rw[if_pos (.inl ⟨ha,hc48⟩)];exact bv (τ:=σ1) hb1 (v:=.tup [cy,.d (aa 5)]) (by simp[kU,aL,cv,bc,cy,cS,eH,aw,seval]) rfl Pg ⟨rfl,rfl⟩
 .by_cases ha:(1:Int)<((tx.length+1:Nat):Int)
  rotate_left
  .simp -dsimp only[aw,seval,decide_eq_false ha,hio1];refine aj (pT rs (by omega) _) ?_;by_cases hsp:rs.takeWhile inn=[]
   .rw[if_neg (fun h=>h.elim hx (fun h=>h hsp)),hsp];simp -dsimp only[aw,seval,Pu,Pe,Pd,Pf];have hpd:=lO (l:=c::tx) (by simp) hds;by_cases hbig:eG (c::tx)≤9223372036854775807
    .rw[if_pos hbig]at hpd;refine aj (lQ (c::tx) _ (by omega) hpd (lV hbig) _) ?_;by_cases hmx:2147483647<eG (c::tx)
     .have hmx':(2147483647:Int)<((eG (c::tx):Nat):Int):=by omega
      simp -dsimp only[aw,seval,decide_eq_true hmx'];rw[if_pos hmx];exact bv (τ:=σ1) hb1 (v:=.tup [cy,.d (aa 3)]) (by simp[kU,aL,cv,bc,cy,cS,eH,aw,seval]) rfl Pg ⟨rfl,rfl⟩
     .have hmx':¬(2147483647:Int)<((eG (c::tx):Nat):Int):=by omega
      simp -dsimp only[aw,seval,decide_eq_false hmx'];rw[if_neg hmx];exact bv (τ:=σ1) hb1 (v:=.tup [cS 3 (eG (c::tx)) (c::tx) (T-((c::r).count 10:Nat)),.d (aa 0)]) (by simp[kU,aL,cv,bc,cy,cS,eH,aw,seval]) rfl Pg ⟨rfl,rfl⟩
    .rw[if_neg hbig]at hpd;refine aj (jf (c::tx) (by omega) hpd _) ?_;rw[if_pos (show 2147483647<eG (c::tx)by omega)];simp -dsimp only[aw,seval];exact bv (τ:=σ1) hb1 (v:=.tup [cy,.d (aa 3)]) (by simp[kU,aL,cv,bc,cy,cS,eH,aw,seval]) rfl Pg ⟨rfl,rfl⟩
   .rw[if_pos (.inr hsp)];have hsl:(0:Int)<((rs.takeWhile inn).length:Nat):=by have:=List.length_pos_iff.2 hsp;omega
    simp -dsimp only[aw,seval,decide_eq_true hsl];exact bv (τ:=σ1) hb1 (v:=.tup [cy,.d (aa 5)]) (by simp[kU,aL,cv,bc,cy,cS,eH,aw,seval]) rfl Pg ⟨rfl,rfl⟩
  .have hc48:¬c=48:=fun h=>hx ⟨by simp only[Pm];omega,h⟩;simp -dsimp only[aw,seval,decide_eq_true ha,mt,e48,decide_eq_false hc48,hio1];refine aj (pT rs (by omega) _) ?_;by_cases hsp:rs.takeWhile inn=[]
   .rw[if_neg (fun h=>h.elim hx (fun h=>h hsp)),hsp];simp -dsimp only[aw,seval,Pu,Pe,Pd,Pf];have hpd:=lO (l:=c::tx) (by simp) hds;by_cases hbig:eG (c::tx)≤9223372036854775807
    .rw[if_pos hbig]at hpd;refine aj (lQ (c::tx) _ (by omega) hpd (lV hbig) _) ?_;by_cases hmx:2147483647<eG (c::tx)
     .have hmx':(2147483647:Int)<((eG (c::tx):Nat):Int):=by omega
      simp -dsimp only[aw,seval,decide_eq_true hmx'];rw[if_pos hmx];exact bv (τ:=σ1) hb1 (v:=.tup [cy,.d (aa 3)]) (by simp[kU,aL,cv,bc,cy,cS,eH,aw,seval]) rfl Pg ⟨rfl,rfl⟩
     .have hmx':¬(2147483647:Int)<((eG (c::tx):Nat):Int):=by omega
      simp -dsimp only[aw,seval,decide_eq_false hmx'];rw[if_neg hmx];exact bv (τ:=σ1) hb1 (v:=.tup [cS 3 (eG (c::tx)) (c::tx) (T-((c::r).count 10:Nat)),.d (aa 0)]) (by simp[kU,aL,cv,bc,cy,cS,eH,aw,seval]) rfl Pg ⟨rfl,rfl⟩
    .rw[if_neg hbig]at hpd;refine aj (jf (c::tx) (by omega) hpd _) ?_;rw[if_pos (show 2147483647<eG (c::tx)by omega)];simp -dsimp only[aw,seval];exact bv (τ:=σ1) hb1 (v:=.tup [cy,.d (aa 3)]) (by simp[kU,aL,cv,bc,cy,cS,eH,aw,seval]) rfl Pg ⟨rfl,rfl⟩
   .rw[if_pos (.inr hsp)];have hsl:(0:Int)<((rs.takeWhile inn).length:Nat):=by have:=List.length_pos_iff.2 hsp;omega
    simp -dsimp only[aw,seval,decide_eq_true hsl];exact bv (τ:=σ1) hb1 (v:=.tup [cy,.d (aa 5)]) (by simp[kU,aL,cv,bc,cy,cS,eH,aw,seval]) rfl Pg ⟨rfl,rfl⟩
theorem oO(l:Bs):∀(ms:List Bs) (m:Bs) (b:Nat),ga (ms++[m]) b l=if ga ms b l<m.length/\m.isPrefixOf l=true then m.length else ga ms b l
 | [],m,b=>rfl
 | a::ms,m,b=>by simp only[Pn,ga];exact oO l ms m _
theorem CT(T:Int)(l:Bs)(i:Nat)(hl:l.length≤1200000)(h0:0≤T)(h1:T≤1000000000)(σ:LLV)(hi:σ[i]? = some (rdr T l)):
 Fun G 174 [.ptr i 0] σ fun o σ'=>o=.ret (.tup (if dW l=0 then[cy,.d (aa 5)]else[cS 4 0 (l.take (dW l)) (T-(l.count 10:Nat)),.d (aa 0)]))/\σ'=σ.set i (rdr T (l.drop (dW l))):=by
 have hli:i<σ.length:=(List.getElem?_eq_some_iff.1 hi).1;have hbm:=(xP l).1;have hmk:aV.length=36:=rfl;refine al Tryz.func174 NI rfl fun hb hw=>?_;unfold Jz;have hio:=fun t=>am hi t;unfold rdr rd at hio;have hg:∀ρ,ev G ρ (.g 1)=.row [.sl (aV.map fun s=>[.lit (.string (bs s))])] 0:=fun _=>rfl;simp -dsimp only[aw,seval,hio,hg,List.length_map,hmk];generalize hrows:(aV.map fun s=>[D.lit (Value.string (bs s))])=rows;have hlen:rows.length=36:=by rw[<-hrows];rfl
 refine oc (R:=fun(j:Nat) ρ σ'=>ρ=[(0,.ptr i 0),(2,.ptr σ.length 0),(4,aC .i64 (ga (aV.take j) 0 l:Nat)),(8,.d (.sl rows)),(9,aC .i64 36),(10,aC .i64 j)]/\σ'=σ++[[.d (aa 0),.d (aa 0),.d (ae ⟨#[]⟩),.d (aa 0)]]) 36 ⟨rfl,rfl⟩ ?_ _;rintro j ρ' σ' hj ⟨rfl,rfl⟩;by_cases hlt:j<36
 .have hjm:j<aV.length:=hlt;have hrj:rows[j]? = some [D.lit (Value.string (bs aV[j]))]:=by rw[<-hrows,List.getElem?_map,Pl hjm];rfl
  have hlt':(j:Int)<36:=by omega
  have htk:aV.take (j+1)=aV.take j++[aV[j]]:=by rw[List.take_add_one,Pl hjm];rfl
  have hbs:=oO l (aV.take j) aV[j] 0;rw[<-htk]at hbs;generalize hm:aV[j]=m at *;generalize hbe:ga (aV.take j) 0 l=best at *;have hml:m.length≤2:=(by decide:∀m,m∈aV->m.length≤2) m (hm▸List.getElem_mem hjm)
  have next:∀b:Nat,ga (aV.take (j+1)) 0 l=b->j<36/\Nxt σ.length (fun ρ σ'=>ρ=[(0,V.ptr i 0),(2,V.ptr σ.length 0),(4,aC IntKind.i64 (ga (List.take (j+1) aV) 0 l:Nat)),(8,V.d (D.sl rows)),(9,aC IntKind.i64 36),(10,aC IntKind.i64 ((j+1:Nat):Int))]/\σ'=σ++[[V.d (aa 0),V.d (aa 0),V.d (ae {data := #[]}),V.d (aa 0)]]) [(0,.ptr i 0),(2,.ptr σ.length 0),(4,aC .i64 b),(8,.d (.sl rows)),(9,aC .i64 36),(10,aC .i64 ((j+1:Nat):Int))] (σ++[[.d (aa 0),.d (aa 0),.d (ae ⟨#[]⟩),.d (aa 0)]]) .mk:=fun b h=>
   ⟨hlt,Nxt.same (by simp) (aq hb rfl) (by simp[an,V.under];omega) ⟨by rw[h],rfl⟩⟩
  simp -dsimp only[aw,seval,decide_eq_true hlt',hrj,hio,bW];by_cases hgt:best<m.length
  .have hgt':(best:Int)<(m.length:Nat):=by omega
   simp -dsimp only[aw,seval,decide_eq_true hgt',hio];refine aj (kQ l m _) ?_;cases hp:m.isPrefixOf l with
   | true=>
    simp -dsimp only[aw,seval,bW,aJ hlt (by decide)];exact next _ (by rw[hbs,if_pos ⟨hgt,hp⟩])
   | false=>
    simp -dsimp only[aw,seval,aJ hlt (by decide)];exact next _ (by rw[hbs,if_neg (fun h=>by rw[hp]at h;cases h.2)])
  .have hgt':¬(best:Int)<(m.length:Nat):=by omega
   simp -dsimp only[aw,seval,decide_eq_false hgt',aJ hlt (by decide)];exact next _ (by rw[hbs,if_neg (fun h=>hgt h.1)])
 .have hlt':¬(j:Int)<36:=by omega
  simp -dsimp only[aw,seval,decide_eq_false hlt',hio];have hbe:ga (aV.take j) 0 l=dW l:=by rw[Pj (by rw[hmk];omega)];rfl
  rw[hbe];by_cases hz:dW l=0
  .have hz':((dW l:Nat):Int)=0:=by omega
   have hself:σ.set i (rdr T (l.drop (dW l)))=σ:=by
    rw[hz,List.drop_zero,<-(List.getElem?_eq_some_iff.1 hi).2];exact Pr hli
   simp -dsimp only[aw,seval,decide_eq_true hz'];rw[if_pos hz,hself];exact bv (τ:=σ) hb (v:=.tup [cy,.d (aa 5)]) (by simp[B2,aL,cv,bc,cy,cS,eH,aw,seval]) rfl Pg ⟨rfl,rfl⟩
  .have hz':¬((dW l:Nat):Int)=0:=by omega
   simp -dsimp only[aw,seval,decide_eq_false hz',hio];refine cY (jr T l _ i hbm hl h0 h1 _ (am hi _)) ?_;rw[bj hi,if_neg hz];obtain⟨σ1,hs1⟩:∃x,x=σ.set i (rdr T (l.drop (dW l))):=⟨_,rfl⟩
   have hl1:σ1.length=σ.length:=by rw[hs1,Pi]
   have hb1:ai σ1.length σ1=true:=by rw[hl1,hs1];exact ct hb rfl
   rw[<-hs1,<-hl1];simp -dsimp only[aw,seval];exact bv (τ:=σ1) hb1 (v:=.tup [cS 4 0 (l.take (dW l)) (T-(l.count 10:Nat)),.d (aa 0)]) (by simp[B2,aL,cv,bc,cy,cS,eH,aw,seval]) rfl Pg ⟨rfl,rfl⟩
end Go.Proofs.YtnhphlmblenapaaGreatDoor
