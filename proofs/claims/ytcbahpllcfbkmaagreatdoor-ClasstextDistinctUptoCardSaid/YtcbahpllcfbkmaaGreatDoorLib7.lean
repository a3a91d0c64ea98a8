import Derived.Test.YtcbahpllcfbkmaaGreatDoorBr8
import Derived.Test.YtcbahpllcfbkmaaGreatDoorNames2
import Derived.Test.YtcbahpllcfbkmaaGreatDoorBl2
import Derived.Test.YtcbahpllcfbkmaaGreatDoorRows
import Derived.Test.YtcbahpllcfbkmaaGreatDoorData
import Derived.WalkKit
import Derived.WalkSpells
import Derived.WalkLawsBesides
import Derived.Deep.QuietTactic
import Derived.BigQuiet
import Derived.Lib.SlBytesRow
import Derived.Deep.Light
import Derived.Laws.ResultCell
import Derived.Test.YtcbahpllcfbkmaaGreatDoorA20
import Derived.ProofKit
import Derived.Deep.Slices
import Derived.ChangeArms
import Derived.Test.YtcbahpllcfbkmaaGreatDoorK
import Derived.Test.YtcbahpllcfbkmaaGreatDoorShelf
set_option linter.unusedVariables false
set_option linter.unusedSimpArgs false
set_option linter.unusedSectionVars false
namespace Go.Proofs.YtcbahpllcfbkmaaGreatDoor
open Go.RowKit
theorem rt{f:FuncId}{fn:Func}{args:List V}{x:V}{σ:List (List V)}(hf:Tryz.prog.funcs[f]? = some fn)(hn:(fn.name == "runtime.NumGoroutine")=false)(hb:fn.body.isNone=false)(hx:∀T k rows,x≠.own T k rows)
 (h:∀(M:av) (bm:List Nat) (w:World) (vs:List Value),G.cells M→M.hold w→vs.length=args.length→(∀i (h:i<args.length) (h':i<vs.length),Rep M bm args[i] vs[i])→
   Calls Tryz.prog f vs.toArray w fun e w'=>∃u,e=.returned u∧Ext w w'∧Rep (De w w') [] x u):Fun G f args σ (aZ x σ):=by
 refine⟨ck (P:=Tryz.prog) hf hn hb,fun M bm tk pr w vs hG hI ht hl hr=>(h M bm w vs hG.1 hI.facts hl hr).mono fun e w' ⟨u,he,hx',hu⟩=>?_⟩;have hlt:∀b,b<w.heap.size→∀o,(if w.heap.size≤b then w'.cell? ⟨b,o,none⟩else M b o)=M b o:=fun b hb o=>if_neg (by omega)
 have hle:M.le fun b o=>if w.heap.size≤b then w'.cell? ⟨b,o,none⟩else M b o:=fun b o x hm=>by
  have hb:=hI.facts.lt hm;show(if w.heap.size≤b then w'.cell? ⟨b,o,none⟩else M b o)=some x;rw[hlt b hb o];exact hm
 obtain⟨h1,h2⟩:=hI.grow (M':=fun b o=>if w.heap.size≤b then w'.cell? ⟨b,o,none⟩else M b o) hx' hle (fun b o x hm=>by
  by_cases hb:w.heap.size≤b
  ·simpa only[if_pos hb]using hm
  ·simp only[if_neg hb]at hm;exact hx'.cell (hI.facts b o x hm)) hlt
 refine⟨_,bm,tk,σ,.ret x,⟨rfl,rfl⟩,h1,h2,fun v e=>?_,fun v e=>by cases e⟩;cases e;refine⟨u,he,hu.mono (fun b o x hm=>?_) (fun i b h=>by simp at h),fun T k rows e=>absurd e (hx T k rows)⟩;unfold De at hm;split at hm
 ·rename_i hb;simp only[if_pos hb];exact hm
 ·cases hm
theorem wN{M:av}{l:List ByteArray}{p:Option Addr}{cap:Nat}(h1:l.length≤cap)(h2:cap≤maxLen)(hs:∀s,s∈l→s.size≤maxLen)
 (h:∀i s,l[i]? = some s→∃b off,p=some ⟨b,off,none⟩∧M b (off+i)=some (.string s)):DRep M (cT l) (.slice p l.length cap):=by
 have hlen:l.length=(l.map fun s=>[an s]).length:=by simp
 unfold cT;rw[hlen];refine .sl _ 1 p cap (fun i _=>.string (l[i]?.getD ⟨#[]⟩)) (fun r hr=>?_) (fun i j hi hj=>?_) (fun i hi=>?_) (by omega) h2
 ·obtain⟨s,-,rfl⟩:=List.mem_map.1 hr;rfl
 ·have hi':i<l.length:=by simpa using hi
  have hj0:j=0:=by simpa using hj
  subst hj0;simp only[List.getElem_map,List.getElem_cons_zero,List.getElem?_eq_getElem hi',Option.getD_some];exact .lit _ (hs _ (List.getElem_mem hi'))
 ·have hi':i<l.length:=by simpa using hi
  obtain⟨b,off,h7,h8⟩:=h i _ (List.getElem?_eq_getElem hi');refine⟨b,off,h7,fun j hj=>?_⟩;have hj0:j=0:=by omega
  subst hj0;simp only[List.getElem?_eq_getElem hi',Option.getD_some];simpa using h8
def pP(tk:aY)(g:Option Nat):aY:=fun i j=>match i,j with
 | none,0=>g
 | i,j=>tk i j
theorem kW{f:FuncId}{fn:Func}{args:List V}{l:List ByteArray}{σ:List (List V)}(hf:Tryz.prog.funcs[f]? = some fn)(hn:(fn.name == "runtime.NumGoroutine")=false)(hb:fn.body.isNone=false)
 (h:∀(M:av) (bm:List Nat) (w:World) (vs:List Value),G.cells M→M.hold w→vs.length=args.length→(∀i (h:i<args.length) (h':i<vs.length),Rep M bm args[i] vs[i])→(∀s,s∈l→s.size≤maxLen)∧Calls Tryz.prog f vs.toArray w (qj l w)):
 Fun G f args σ (aZ (.own 9 1 (l.map fun s=>[an s])) σ):=by
 refine⟨ck (P:=Tryz.prog) hf hn hb,fun M bm tk pr w vs hG hI ht hl hr=>(h M bm w vs hG.1 hI.facts hl hr).2.mono fun e w' ⟨v,he,hrow,hg,hx⟩=>?_⟩;have hs:=(h M bm w vs hG.1 hI.facts hl hr).1;have hlt:∀b,b<w.heap.size→∀o,(if w.heap.size≤b then(if o<l.length then w'.cell? ⟨b,o,none⟩else none)else M b o)=M b o:=fun b hb o=>if_neg (by omega)
 have hle:M.le fun b o=>if w.heap.size≤b then(if o<l.length then w'.cell? ⟨b,o,none⟩else none)else M b o:=fun b o x hm=>by
  have hb:=hI.facts.lt hm;show(if w.heap.size≤b then(if o<l.length then w'.cell? ⟨b,o,none⟩else none)else M b o)=some x;rw[hlt b hb o];exact hm
 obtain⟨h1,h2⟩:=hI.grow (M':=fun b o=>if w.heap.size≤b then(if o<l.length then w'.cell? ⟨b,o,none⟩else none)else M b o) hx hle (fun b o x hm=>by
  by_cases hb:w.heap.size≤b
  ·simp only[if_pos hb]at hm;split at hm
   ·exact hm
   ·cases hm
  ·simp only[if_neg hb]at hm;exact hx.cell (hI.facts b o x hm)) hlt
 have hgl:∀g,v.ownBlock=some g→g<w'.heap.size:=fun g hgg=>by
  obtain⟨-,⟨rfl,-⟩|⟨g',cap,cur,rfl,-,h3,-⟩⟩:=hrow
  ·cases hgg
  ·cases hgg;exact(Array.getElem?_eq_some_iff.1 h3).1
 have hbm:=hI.bm_lt
 have hI2:Inv (fun b o=>if w.heap.size≤b then(if o<l.length then w'.cell? ⟨b,o,none⟩else none)else M b o) bm σ (pP tk v.ownBlock) pr w':=by
  refine⟨h1.facts,h1.len,h1.box,h1.free,h1.bmnd,fun i j g hij=>?_,fun i j i' j' g h3 h4=>?_,h1.prlt⟩
  ·unfold pP at hij;split at hij
   ·have:=hg g hij;exact⟨hgl g hij,fun hb=>by have:=hbm g hb;omega,fun hp=>by have:=hI.prlt g hp;omega⟩
   ·exact h1.tok _ _ _ hij
  ·have old:∀i j,tk i j=some g→g<w.heap.size:=fun i j hij=>(hI.tok _ _ _ hij).1;unfold pP at h3 h4;split at h3<;>split at h4
   ·exact⟨rfl,rfl⟩
   ·have:=hg g h3;have:=old _ _ h4;omega
   ·have:=hg g h4;have:=old _ _ h3;omega
   ·exact h1.inj _ _ _ _ _ h3 h4
 refine⟨_,bm,pP tk v.ownBlock,σ,.ret (.own 9 1 (l.map fun s=>[an s])),⟨rfl,rfl⟩,hI2,h2,fun x e=>?_,fun x e=>by cases e⟩;cases e;have hlen:(l.map fun s=>[an s]).length=l.length:=by simp
 refine⟨v,he,.own ?_,fun T k rows e=>?_⟩
 ·obtain⟨p,cap,rfl,g1,g2,g3⟩:=kj hrow;refine wN g1 g2 hs fun i s hi=>?_;obtain⟨b,off,rfl,g4⟩:=g3 i s hi;refine⟨b,off,rfl,?_⟩
  have hb0:off=0:=by
   obtain⟨-,⟨e,-⟩|⟨g',cap',cur,e,-⟩⟩:=hrow
   ·cases e
   ·cases e;rfl
  subst hb0;have hil:=(List.getElem?_eq_some_iff.1 hi).1;have:=hg b rfl;simp only[Nat.zero_add]at g4 ⊢;rw[if_pos this,if_pos hil];exact g4
 ·cases e;have hrow':=hrow;obtain⟨g0,⟨rfl,g1⟩|⟨g,cap,cur,rfl,g2,g3,g4⟩⟩:=hrow
  ·exact .inl ⟨rfl,by have:l=[]:=List.eq_nil_of_length_eq_zero g1;simp[this]⟩
  ·refine .inr ⟨g,_,rfl,rfl,fun r hr=>?_,by rw[hlen];exact hrow',fun o x hm=>?_⟩
   ·obtain⟨s,-,rfl⟩:=List.mem_map.1 hr;rfl
   ·have:=hg g rfl;simp only[if_pos this]at hm;split at hm
    ·rw[hlen];omega
    ·cases hm
theorem sF{e:Ex}(h:bU e=0):b8 e=0:=by
 unfold bU at h;split at h
 ·cases h
 ·exact h
def mem(w:World):av:=fun b o=>w.cell? ⟨b,o,none⟩
theorem zk(w:World):(mem w).hold w:=fun _ _ _ h=>h
theorem vX(w:World):Inv (mem w) [] [] (fun _ _=>none) (fun b=>b<w.heap.size) w:=
 {facts:=zk w,len:=rfl,box:=fun i b cs h=>by simp at h,free:=fun b h=>by simp at h,bmnd:=List.nodup_nil,
  tok:=fun i j g h=>(nomatch h),inj:=fun i j i' j' g h=>(nomatch h),prlt:=fun b h=>h}
def ef(M:av)(ds:List D)(cs:List Value):Prop:=cs.length=ds.length∧∀i (h:i<ds.length) (h':i<cs.length),DRep M ds[i] cs[i]
theorem ef.nil{M:av}:ef M [] []:=⟨rfl,fun i h=>by simp at h⟩
theorem ef.cons{M:av}{d:D}{v:Value}{ds:List D}{cs:List Value}(h:DRep M d v)(hs:ef M ds cs):ef M (d::ds) (v::cs):=
 ⟨by simp[hs.1],fun i h1 h2=>by
   cases i with
   | zero=>exact h
   | succ i=>exact hs.2 i (by simpa using h1) (by simpa using h2)⟩
theorem ef.append{M:av}{ds ds':List D}{cs cs':List Value}(h:ef M ds cs)(h':ef M ds' cs'):ef M (ds++ds') (cs++cs'):=by
 refine⟨by simp[h.1,h'.1],fun i h1 h2=>?_⟩;by_cases hi:i<ds.length
 ·rw[List.getElem_append_left hi,List.getElem_append_left (by rw[h.1];exact hi)];exact h.2 i _ _
 ·rw[List.getElem_append_right (by omega),List.getElem_append_right (by rw[h.1];omega)];have hl:=h.1;simp only[hl];exact h'.2 (i-ds.length) (by simp at h1;omega) (by simp at h2;omega)
theorem ef.rep{M:av}{bm:List Nat}{ds:List D}{cs:List Value}(h:ef M ds cs):Rep M bm (.agg (ds.map V.d)) (.agg cs.toArray):=by
 refine .agg (by simp[h.1]) (fun i g g'=>?_) (fun v hv=>?_)
 ·simp only[List.getElem_map];exact .d (h.2 i (by simpa using g) g')
 ·obtain⟨i,hi,rfl⟩:=List.getElem_of_mem hv;exact(h.2 i (by rw[←h.1];exact hi) hi).one
theorem qf{w:World}{a:Addr}{v:Value}(h:w.cell? a=some v):a.spot=none:=by
 unfold World.cell? at h;split at h
 ·split at h
  ·cases h
  ·rename_i hs;simpa using hs
 ·cases h
section
variable {H : Type} {enc : TypeId × Value → H} {P : Program} {W : World} {base : Nat} {spare : Nat → Bool} {held : Bool} {fuel : Nat} {t : TypeId} {cs : List Value} {x : DataW H × List MemPlace}
theorem de(hu:P.underlying t=some (.int .i64))(h:DataW.trod enc P W base spare held fuel t cs=some x):∃n,cs=[.int .i64 n]∧ce (.int .i64 n):=by
 obtain⟨n,rfl,-,w0⟩:=DataW.trod_int hu h;exact⟨n,rfl,by simpa[ce,Lit.wf,IntKind.min,IntKind.max,IntKind.signed,IntKind.bits]using w0⟩
theorem dZ(hu:P.underlying t=some .string)(h:DataW.trod enc P W base spare held fuel t cs=some x):∃s:ByteArray,cs=[.string s]∧ce (.string s):=by
 obtain⟨n,rfl,-,w0⟩:=DataW.trod_string hu h;exact⟨n,rfl,w0⟩
theorem sj(hu:P.underlying t=some .bool)(h:DataW.trod enc P W base spare held fuel t cs=some x):∃b,cs=[.bool b]:=by
 obtain⟨n,rfl,-⟩:=DataW.trod_bool hu h;exact⟨n,rfl⟩
end
end Go.Proofs.YtcbahpllcfbkmaaGreatDoor
namespace Go.Proofs.YtcbahpllcfbkmaaGreatDoor
open Go.RowKit
theorem dB(s:ByteArray)(σ:List (List V)):Fun G 51 [.d (an s)] σ (aZ (.d (.lit (.bool (aD s)))) σ):=
 mW Tryz.func51 (by kernel_rfl) (by kernel_rfl) trivial fun M bm w v hG hM hr=>by
  cases hr with
  | d h=>cases h with
   | lit _ hs=>exact gk s w (by simp only[ce,maxLen]at hs;omega)
theorem mm{M:av}{bm:List Nat}{u v:Value}(h:Rep M bm (.d (.lit u)) v):v=u:=by
 cases h with
 | d h=>cases h with
 | lit _ _=>rfl
theorem xT{f:FuncId}{fn:Func}{a u:Value}{σ:List (List V)}(hf:Tryz.prog.funcs[f]? = some fn)(hn:(fn.name == "runtime.NumGoroutine")=false)(hb:fn.body.isNone=false)(hu:ce u)
 (h:∀pr w,G.kept pr w→Calls Tryz.prog f #[a] w fun e w'=>e=.returned u∧Ext w w'):Fun G f [.d (.lit a)] σ (aZ (.d (.lit u)) σ):=
 pO hf hn hb hu fun M bm pr w v hG hM h1=>by cases mm h1;exact h pr w hG.2
theorem qW{f:FuncId}{fn:Func}{a b u:Value}{σ:List (List V)}(hf:Tryz.prog.funcs[f]? = some fn)(hn:(fn.name == "runtime.NumGoroutine")=false)(hb:fn.body.isNone=false)(hu:ce u)
 (h:∀pr w,G.kept pr w→Calls Tryz.prog f #[a,b] w fun e w'=>e=.returned u∧Ext w w'):Fun G f [.d (.lit a),.d (.lit b)] σ (aZ (.d (.lit u)) σ):=
 t7 hf hn hb hu fun M bm pr w v v' hG hM h1 h2=>by cases mm h1;cases mm h2;exact h pr w hG.2
theorem rl{P:Program}{f:FuncId}{args:Array Value}{w:World}{u:Value}(h:Calls P f args w fun e w'=>e=.returned u∧w'=w):Calls P f args w fun e w'=>e=.returned u∧Ext w w':=
 h.mono fun e w' ⟨he,hw⟩=>⟨he,hw▸Ext.refl _⟩
theorem zp(n:Int)(h0 : -9223372036854775808≤n)(h1:n≤9223372036854775807)(hs:(Lib.itoa n).length≤maxLen)(σ:List (List V)):Fun G 61 [.d (az n)] σ (aZ (.d (an (bs (Lib.itoa n)))) σ):=
 xT Tryz.func61 (by kernel_rfl) (by kernel_rfl) (by show(bs (Lib.itoa n)).size≤maxLen;rw[dE];exact hs) fun pr w hk=>by
  obtain⟨-,cs,T,z,g1,rfl⟩:=hk 2 _ (by rfl);refine(Tryz.strconv_Itoa n h0 h1 w ?_).mono fun e w' ⟨he,k,os,hw⟩=>⟨he,?_⟩
  ·have hg:Tryz.prog.globalNamed "internal/strconv.uint64pow10" = some 2:=by kernel_rfl
   simp only[Lib.TabIs,World.var?,hg,Option.bind_some,g1]
  ·subst hw
   exact⟨rfl,rfl,rfl,by simp[Sort.grow,World.drewN],fun i hi=>by
    show((w.drewN k).heap++os)[i]? = _;rw[Array.getElem?_append_left (by show i<w.heap.size;omega)];rfl⟩
end Go.Proofs.YtcbahpllcfbkmaaGreatDoor
