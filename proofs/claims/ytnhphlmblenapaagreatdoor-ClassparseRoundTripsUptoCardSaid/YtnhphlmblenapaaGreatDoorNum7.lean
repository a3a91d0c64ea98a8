import Derived.Scope
import Derived.Test.YtnhphlmblenapaaGreatDoorIt1
set_option linter.unusedVariables false
set_option linter.unusedSimpArgs false
set_option linter.unusedSectionVars false
set_option maxRecDepth 1200000
set_option maxHeartbeats 2000000
open Bool renaming and_eq_false_iff->TU,eq_iff_iff->TV
open Int renaming cast_ofNat_Int->TW,natCast_zero->TX,lt_irrefl->TY
open List renaming getElem?_eq_getElem->TZ,take_left->T0,takeWhile_prefix->T3,length_set->T4,length_cons->T5,takeWhile_cons_of_pos->T6,take_of_length_le->T7,set_set->T8,getElem_cons_zero->T9,getElem_cons_succ->Ua,count_le_length->Ub,range->Uc,length_drop->Ud,cons_append->Ue,length_nil->Uf
open Nat renaming le_refl->Ug,le_trans->Uh
namespace Go.Proofs.YtnhphlmblenapaaGreatDoor
open Go.RowKit
open Nat renaming reduceLeDiff -> jA, reduceBEq -> jB, reduceLT -> jC, reduceEqDiff -> jD, reduceAdd -> jE, reduceSub -> jF, reduceMul -> jG
open V renaming copy -> jV, lend -> jW, lend1 -> jX, cells -> jY, boxable -> jZ
section
variable (fs : List (ByteArray × Int))
end
end Go.Proofs.YtnhphlmblenapaaGreatDoor
namespace Go.Proofs.YtnhphlmblenapaaGreatDoor
open Go.RowKit
open Nat renaming reduceLeDiff -> jA, reduceBEq -> jB, reduceLT -> jC, reduceEqDiff -> jD, reduceAdd -> jE, reduceSub -> jF, reduceMul -> jG
open V renaming copy -> jV, lend -> jW, lend1 -> jX, cells -> jY, boxable -> jZ
abbrev dbl(b:Bool):D:=.lit (.bool b)
def dwt(w:Wt):List D:=[ac w.lo,ac w.hi,ac w.w,dbl w.each]
mutual
def dit:It->List D
 | .mk k e nm ix ws l m bf af=>[ac k,ac e.op,ac e.num,ab e.name,.sl (e.args.map dex),ab nm,ab ix,.sl (ws.map dwt),.sl (EV l),.sl (EV m),.sl (bf.map fun s=>[ab s]),.sl (af.map fun s=>[ab s])]
def EV:List It->LLD
 | []=>[]
 | a::r=>dit a::EV r
end
theorem EX(l:List It):EV l=l.map dit:=by
 induction l with
 | nil=>rfl
 | cons a r ih=>simp only[EV,ih,List.map_cons]
theorem ea(x:It):dit x=[ac x.kind,ac x.ex.op,ac x.ex.num,ab x.ex.name,.sl (x.ex.args.map dex),ab x.name,ab x.idx,.sl (x.ws.map dwt),.sl (x.items.map dit),.sl (x.els.map dit),.sl (x.bef.map fun s=>[ab s]),.sl (x.aft.map fun s=>[ab s])]:=by
 cases x;simp only[dit,EX,It.kind,It.ex,It.name,It.idx,It.ws,It.items,It.els,It.bef,It.aft]
def vit(x:It):V:=.agg ((dit x).map V.d)
theorem bg(x:It):vit x=.agg [.d (ac x.kind),.d (ac x.ex.op),.d (ac x.ex.num),.d (ab x.ex.name),.d (.sl (x.ex.args.map dex)),.d (ab x.name),.d (ab x.idx),.d (.sl (x.ws.map dwt)),.d (.sl (x.items.map dit)),.d (.sl (x.els.map dit)),.d (.sl (x.bef.map fun s=>[ab s])),.d (.sl (x.aft.map fun s=>[ab s]))]:=by
 unfold vit;rw[ea];rfl
abbrev fF(l:List It):D:=.sl (l.map dit)
mutual
def fg:It->Nat
 | .mk _ e _ _ ws l m bf af=>1+aX e+ws.length+bf.length+af.length+aF l+aF m
def aF:List It->Nat
 | []=>0
 | a::r=>fg a+aF r
end
theorem dI(x:It):fg x=1+aX x.ex+x.ws.length+x.bef.length+x.aft.length+aF x.items+aF x.els:=by cases x;rfl
theorem ib{l:List It}{a:It}(h:a∈l):fg a≤aF l:=by
 induction l with
 | nil=>cases h
 | cons b r ih=>
  rw[aF];rcases List.mem_cons.1 h with rfl|h
  .omega
  .have:=ih h;omega
theorem ns(l:List It):l.length≤aF l:=by
 induction l with
 | nil=>exact Ug _
 | cons b r ih=>rw[aF,T5,dI];omega
theorem JG:∀l:List It,cQ l≤aF l:=by
 refine lx (Ug _) fun x r h1 h2 h3=>?_;rw[cQ,aF,oa,dI];omega
abbrev DO(d:Nat)(bd:List ByteArray):V:=.agg [.d (ac d),.d (.sl (bd.map fun s=>[ab s]))]
def mem(w:World):am:=fun b o=>w.cell? ⟨b,o,none⟩
theorem FW(w:World):(mem w).hold w:=fun _ _ _ h=>h
theorem Cj(w:World):Inv (mem w) [] [] (fun _ _=>none) (fun b=>b<w.heap.size) w:=
 {facts:=FW w,len:=rfl,box:=fun i b cs h=>by simp at h,free:=fun b h=>by simp at h,bmnd:=List.nodup_nil,
  tok:=fun i j g h=>(nomatch h),inj:=fun i j i' j' g h=>(nomatch h),prlt:=fun b h=>h}
theorem vY{w:World}{a:Addr}{v:Value}(h:w.cell? a=some v):a.spot=none:=by
 unfold World.cell? at h;split at h
 .split at h
  .cases h
  .rename_i hs;simpa using hs
 .cases h
theorem Eo{w:World}{a:Addr}{v:Value}(h:w.cell? a=some v):a.spot=none:=by
 unfold World.cell? at h;split at h
 .split at h
  .cases h
  .rename_i hs;simpa using hs
 .cases h
theorem vz(x:It):(dit x).length=12:=by rw[ea];rfl
section
variable {H : Type} {enc : TypeId × Value -> H} {P : Program} {W : World} {base : Nat} {spare : Nat -> Bool} {held : Bool} {fuel : Nat} {t : TypeId} {cs : List Value} {x : DataW H × List MemPlace}
theorem eF(hu:P.underlying t=some (.int .i64))(h:DataW.trod enc P W base spare held fuel t cs=some x):∃n,cs=[.int .i64 n]/\cV (.int .i64 n):=by
 obtain⟨n,rfl,-,w0⟩:=DataW.trod_int hu h;exact⟨n,rfl,by simpa[cV,Lit.wf,IntKind.min,IntKind.max,IntKind.signed,IntKind.bits]using w0⟩
theorem gh(hu:P.underlying t=some .string)(h:DataW.trod enc P W base spare held fuel t cs=some x):∃s:ByteArray,cs=[.string s]/\cV (.string s):=by
 obtain⟨n,rfl,-,w0⟩:=DataW.trod_string hu h;exact⟨n,rfl,w0⟩
theorem Ar(hu:P.underlying t=some .bool)(h:DataW.trod enc P W base spare held fuel t cs=some x):∃b,cs=[.bool b]:=by
 obtain⟨n,rfl,-⟩:=DataW.trod_bool hu h;exact⟨n,rfl⟩
end
end Go.Proofs.YtnhphlmblenapaaGreatDoor
namespace Go.Proofs.YtnhphlmblenapaaGreatDoor
open Go.RowKit
open Nat renaming reduceLeDiff -> jA, reduceBEq -> jB, reduceLT -> jC, reduceEqDiff -> jD, reduceAdd -> jE, reduceSub -> jF, reduceMul -> jG
open V renaming copy -> jV, lend -> jW, lend1 -> jX, cells -> jY, boxable -> jZ
section
variable {H : Type} {enc : TypeId × Value -> H} {P : Program} {W : World} {base : Nat} {spare : Nat -> Bool} {held : Bool} {fuel : Nat} {t : TypeId} {cs : List Value} {x : DataW H × List MemPlace}
theorem dJ{e:TypeId}{k:Nat}(hu:P.underlying t=some (.slice e))(hk:P.cellsOf e=k)(hk0:0<k){α:Type}[Inhabited α](dr:α->List D)(hdr:∀a,(dr a).length=k)(Q:α->DataW H->Prop)
 (h:DataW.trod enc P W base spare held fuel t cs=some x)(he:∀n,n<fuel->∀cs' y,DataW.trod enc P W base spare held n e cs'=some y->∃a,gD (mem W) (dr a) cs'/\Q a y.1):
 ∃(l:List α) (v:Value),cs=[v]/\DRep (mem W) (.sl (l.map dr)) v/\((x.1=.nil/\l=[])\/∃elems rest:List (DataW H),x.1=.slice elems rest/\elems.length=l.length/\∀i (h:i<l.length) (h':i<elems.length),Q l[i] elems[i]):=by
 rcases DataW.trod_slice hu h with⟨rfl,hx⟩|⟨ad,len,cap,elems,rest,n',hn',rfl,hx,hb,hl,hm,hlen2,hel,-,-⟩
 .exact⟨[],_,rfl,DRep.nil _,.inl ⟨by rw[hx],rfl⟩⟩
 .have hsp:0<len->ad.spot=none:=by
   intro hi;have h1:=hel 0 hi;rw[hk,TZ (by omega)]at h1;obtain⟨cs',hc,ht⟩:=Option.bind_eq_some_iff.1 h1;obtain⟨-,hcl,hcc⟩:=World.cells?_some hc;have h2:=hcc 0 hk0;rw[TZ (by omega)]at h2;have h3:=vY h2;simpa[Addr.add]using h3
  have hall:∀i,i<len->∃q:α×List Value,ad.spot=none/\(∀j,j<k->mem W ad.block (ad.off+i*k+j)=some (q.2[j]?.getD .nilIface))/\q.2.length=k/\gD (mem W) (dr q.1) q.2/\∀y,elems[i]? = some y->Q q.1 y.1:=by
   intro i hi;have h1:=hel i hi;rw[hk,TZ (by omega)]at h1;obtain⟨cs',hc,ht⟩:=Option.bind_eq_some_iff.1 h1;obtain⟨a,ha,hq⟩:=he n' (by omega) cs' _ ht;obtain⟨-,hcl,hcc⟩:=World.cells?_some hc;have hs0:=hsp (by omega);refine⟨(a,cs'),hs0,fun j hj=>?_,hcl,ha,fun y hy=>by rw[TZ (by omega)]at hy;cases hy;exact hq⟩;have h2:=hcc j hj;rw[TZ (by omega)]at h2
   have ha:(ad.add (i*k)).add j=⟨ad.block,ad.off+i*k+j,none⟩:=by
    cases ad;simp only at hs0;subst hs0;unfold Addr.add;by_cases h1:i*k=0
    .by_cases h2:j=0
     .subst h2;simp[h1]
     .simp[h1,h2]
    .by_cases h2:j=0
     .subst h2;simp[h1]
     .simp[h1,h2]
   rw[ha]at h2;show mem W _ _=some (cs'[j]?.getD .nilIface);rw[TZ (by omega),Option.getD_some];exact h2
  obtain⟨f,hfx⟩:=Go.Deep.choose_lt hall;refine⟨(Uc len).map fun i=>(f i).1,_,rfl,?_,.inr ⟨_,_,by rw[hx],by simp[hlen2],fun i h1 h2=>?_⟩⟩
  .have hlen:(((Uc len).map fun i=>(f i).1).map dr).length=len:=by simp
   generalize hrs:((Uc len).map fun i=>(f i).1).map dr=rows at hlen;have hri:∀i (h:i<rows.length),rows[i]=dr (f i).1:=fun i h=>by subst hrs;simp
   subst hlen;refine .sl rows k (some ad) cap (fun i j=>(f i).2[j]?.getD .nilIface) (fun r hr=>?_) (fun i j hi hj=>?_) (fun i hi=>?_) hl hm
   .obtain⟨i,hi,rfl⟩:=List.getElem_of_mem hr;rw[hri i hi];exact hdr _
   .obtain⟨k1,k2,k3,k4,-⟩:=hfx i hi;have hjk:j<k:=by rw[hri i hi,hdr]at hj;exact hj
    simp only[hri i hi];rw[TZ (by omega:j<(f i).2.length),Option.getD_some];exact k4.2 j (by rw[hdr];exact hjk) (by omega)
   .obtain⟨k1,k2,k3,k4,-⟩:=hfx i hi;exact⟨ad.block,ad.off,by cases ad;simp_all,fun j hj=>k2 j hj⟩
  .have hi:i<len:=by simpa using h1
   obtain⟨-,-,-,-,hq⟩:=hfx i hi;simp only[List.getElem_map,List.getElem_range];exact hq _ (TZ (by omega))
end
end Go.Proofs.YtnhphlmblenapaaGreatDoor
namespace Go.Proofs.YtnhphlmblenapaaGreatDoor
open Go.RowKit
open Nat renaming reduceLeDiff -> jA, reduceBEq -> jB, reduceLT -> jC, reduceEqDiff -> jD, reduceAdd -> jE, reduceSub -> jF, reduceMul -> jG
open V renaming copy -> jV, lend -> jW, lend1 -> jX, cells -> jY, boxable -> jZ
def oj:List ByteArray:=aY.map bs
theorem eK{M:am}{bm:List Nat}{u v:Value}(h:Rep M bm (.d (.lit u)) v):v=u:=by
 cases h with
 | d h=>cases h with
 | lit _ _=>rfl
theorem sa{f:FuncId}{fn:Func}{a u:Value}{σ:LLV}(hf:Tryz.prog.funcs[f]? = some fn)(hn:(fn.name == "runtime.NumGoroutine")=false)(hb:fn.body.isNone=false)(hu:cV u)
 (h:∀pr w,G.kept pr w->Calls Tryz.prog f #[a] w fun e w'=>e=.returned u/\Ext w w'):Fun G f [.d (.lit a)] σ (aP (.d (.lit u)) σ):=
 rt hf hn hb hu fun M bm pr w v hG hM h1=>by cases eK h1;exact h pr w hG.2
theorem lX{f:FuncId}{fn:Func}{a b u:Value}{σ:LLV}(hf:Tryz.prog.funcs[f]? = some fn)(hn:(fn.name == "runtime.NumGoroutine")=false)(hb:fn.body.isNone=false)(hu:cV u)
 (h:∀pr w,G.kept pr w->Calls Tryz.prog f #[a,b] w fun e w'=>e=.returned u/\Ext w w'):Fun G f [.d (.lit a),.d (.lit b)] σ (aP (.d (.lit u)) σ):=
 rz hf hn hb hu fun M bm pr w v v' hG hM h1 h2=>by cases eK h1;cases eK h2;exact h pr w hG.2
theorem kw{P:Program}{f:FuncId}{args:Array Value}{w:World}{u:Value}(h:Calls P f args w fun e w'=>e=.returned u/\w'=w):Calls P f args w fun e w'=>e=.returned u/\Ext w w':=
 h.mono fun e w' ⟨he,hw⟩=>⟨he,hw▸Ext.refl _⟩
theorem pp{n:Nat}(h:n≤9223372036854775807):cV (.int .i64 n):=by
 simp only[cV,IntKind.min,IntKind.max,IntKind.signed,IntKind.bits];omega
theorem DP(l:Bs)(hl:l.length≤9223372036854775807)(σ:LLV):Fun G 218 [.d (ab (bs l)),.d (ab ⟨#[10]⟩)] σ (aP (.d (ac (l.count 10:Nat))) σ):=
 lX Tryz.func218 (by kernel_rfl) (by kernel_rfl) (pp (Uh Ub hl)) fun pr w _=>by
  have:=kw (Tryz.strings_Count_one (bs l) 10 w);rw[bJ]at this;exact this
theorem nE(s p:Bs)(σ:LLV):Fun G 156 [.d (ab (bs s)),.d (ab (bs p))] σ (aP (.d (.lit (.bool (p.isPrefixOf s)))) σ):=
 lX Tryz.func156 (by kernel_rfl) (by kernel_rfl) trivial fun pr w _=>by
  have:=kw (Tryz.strings_HasPrefix (bs s) (bs p) w);rw[bJ,bJ]at this;exact this
theorem Ch:∀c:Nat,c<128->decide (0≤Lib.indexByte [32,9,10] ((c:Int).toNat.toUInt8))=(c==32||c==9||c==10):=by decide
theorem sr(n:Int)(h0 : -9223372036854775808≤n)(h1:n≤9223372036854775807)(hs:(Lib.itoa n).length≤maxLen)(σ:LLV):Fun G 159 [.d (ac n)] σ (aP (.d (ab (bs (Lib.itoa n)))) σ):=
 sa Tryz.func159 (by kernel_rfl) (by kernel_rfl) (by show(bs (Lib.itoa n)).size≤maxLen;rw[bF];exact hs) fun pr w hk=>by
  obtain⟨-,cs,T,z,g1,rfl⟩:=hk 3 _ (by rfl);refine(Tryz.strconv_Itoa n h0 h1 w ?_).mono fun e w' ⟨he,k,os,hw⟩=>⟨he,?_⟩
  .have hg:Tryz.prog.globalNamed "internal/strconv.uint64pow10" = some 3:=by kernel_rfl
   simp only[Lib.TabIs,World.var?,hg,Option.bind_some,g1]
  .subst hw
   exact⟨rfl,rfl,rfl,by simp[Sort.grow,World.drewN],fun i hi=>by
    show((w.drewN k).heap++os)[i]? = _;rw[Array.getElem?_append_left (by show i<w.heap.size;omega)];rfl⟩
theorem pc(l:Bs)(v:Int)(hl:l.length≤9223372036854775806)(hp:Lib.parseIntB 64 l=.ok v)(hv:cV (.int .i64 v))(σ:LLV):Fun G 220 [.d (ab (bs l)),.d (ac 10),.d (ac 64)] σ (aP (.tup [.d (ac v),.d (.lit .nilIface)]) σ):=
 sV Tryz.func220 (by kernel_rfl) (by kernel_rfl) (fun T k rows e=>by cases e) fun M bm pr w vs hG hM hl' hr=>by
  match vs,hl' with
  | [a,b,c],_=>
  have e1:=eK (hr 0 (by simp) (by simp));have e2:=eK (hr 1 (by simp) (by simp));have e3:=eK (hr 2 (by simp) (by simp));simp only[T9,Ua]at e1 e2 e3;subst e1 e2 e3;refine(Tryz.strconv_ParseInt_10_at64_ok (bs l) (by rw[bF];exact hl) v (by rw[bJ];exact hp) w).mono fun e w' ⟨he,hw⟩=>⟨_,he,?_,?_⟩
  .rcases hw with rfl|⟨t,rfl⟩
   .exact Ext.refl _
   .exact Lib.bytesWorld_below _ _ _
  .refine .tup (vs:=[_,_]) rfl fun i g g'=>?_
   match i with
   | 0=>exact .d (.lit _ hv)
   | 1=>exact .d (.lit _ trivial)
theorem lK(l:Bs)(hl:l.length≤281474976710656)(hp:Lib.parseIntB 64 l=.range)(σ:LLV):Fun G 220 [.d (ab (bs l)),.d (ac 10),.d (ac 64)] σ (aP (.tup [.junk,.iface 264 .junk]) σ):=
 sV Tryz.func220 (by kernel_rfl) (by kernel_rfl) (fun T k rows e=>by cases e) fun M bm pr w vs hG hM hl' hr=>by
  match vs,hl' with
  | [a,b,c],_=>
  have e1:=eK (hr 0 (by simp) (by simp));have e2:=eK (hr 1 (by simp) (by simp));have e3:=eK (hr 2 (by simp) (by simp));simp only[T9,Ua]at e1 e2 e3;subst e1 e2 e3;obtain⟨-,cs,T,z,g1,t,x,g2⟩:=hG.2 5 _ (by rfl);refine(Tryz.strconv_ParseInt_10_at64_range (bs l) (by rw[bF];exact hl) (by rw[bJ];exact hp) (.iface t x) w (by simp[World.cell?,g1,g2]) (.inr ⟨_,_,rfl⟩)).mono fun e w' ⟨N,he,h1,h2,h3⟩=>⟨_,he,h3,?_⟩
  refine .tup (vs:=[_,_]) rfl fun i g g'=>?_
  match i with
  | 0=>exact .junk _
  | 1=>exact .iface (.junk _)
theorem GA(l:List ByteArray)(hn:l.length≤140737488355328)(hlen:(Lib.join (l.map (·.data.toList)) [32]).length≤140737488355328)(σ:LLV):
 Fun G 244 [.d (dy l),.d (ab ⟨#[32]⟩)] σ (aP (.d (ab (bs (Lib.join (l.map (·.data.toList)) [32])))) σ):=
 rz Tryz.func244 (by kernel_rfl) (by kernel_rfl) (by show(bs _).size≤maxLen;rw[bF];unfold maxLen;omega) fun M bm pr w v v' hG hM h1 h2=>by
  cases eK h2;obtain⟨p,cap,rfl,g1,g2,g3⟩:=lu hM h1;by_cases h0:l=[]
  .subst h0;exact kw (Tryz.strings_Join_none p cap ⟨#[32]⟩ w)
  .have hp:0<l.length:=List.length_pos_iff.2 h0;obtain⟨b,off,rfl,g4⟩:=g3 0 (l[0]'hp) (TZ hp);refine Tryz.strings_Join b off cap l ⟨#[32]⟩ w (fun j x hj=>?_) (Lib.lt_of_cell g4) hn g1 hlen;obtain⟨b',off',e,g5⟩:=g3 j x hj;cases e;exact g5
theorem IF:ByteP inn i6:=⟨fun b hb=>rfl,false,fun c h=>m9 h,fun b hb=>m9 (by omega)⟩
theorem FR:ByteP dig d5:=⟨fun b hb=>rfl,false,fun c h=>by simp only[d5,TU,decide_eq_false_iff_not];omega,fun b hb=>by simp only[dig,d5,TU,decide_eq_false_iff_not];omega⟩
theorem De:ByteP (fun b=>b != 10) (fun c=>decide (c≠10)):=by
 refine⟨fun b hb=>?_,true,fun c h=>by simp;omega,fun b hb=>?_⟩
 .rw[TV];simp only[ne_eq,decide_eq_true_eq,bne_iff_ne];refine not_congr ⟨fun h=>UInt8.toNat_inj.1 (by show b.toNat=10;omega),fun h=>by rw[h];rfl⟩
 .simp only[bne_iff_ne,ne_eq];intro e;rw[e]at hb;revert hb;decide
theorem DE(c:Int)(w:World):Calls Tryz.prog 168 #[.int .i32 c] w fun e w'=>e=.returned (.bool (decide (c≠10)))/\w=w':=by
 go_enter Tryz.func168,Tryz.ntmps168;go_wp2_with fail;go_ret;exact⟨cu (by by_cases h:c=10<;>simp[h]),rfl⟩
theorem rL{F:FuncId}{q:UInt8->Bool}{p:Int->Bool}(hq:ByteP q p)(hF:∀args w,(callFunc F args).run Tryz.prog w=.ok (.enter F args) w)
 (H:∀(c:Int) (w:World),Calls Tryz.prog F #[.int .i32 c] w fun e w'=>e=.returned (.bool (p c))/\w=w')(l:Bs)(hl:l.length≤9223372036854775807)(σ:LLV):
 Fun G 167 [.d (ab (bs l)),.fn F []] σ (aP (.d (ac (l.takeWhile q).length)) σ):=
 rz Tryz.func167 (by kernel_rfl) (by kernel_rfl) (pp (Uh (T3 _).length_le hl)) fun M bm pr w v v' hG hM h1 h2=>by
  cases eK h1;cases h2 with
  | @fn _ _ vs hl' h=>
  have:vs=[]:=List.eq_nil_of_length_eq_zero hl';subst this;have:=Fa F #[] q p hq hF (fun c w=>H c w) (bs l) w (by rw[bF];exact hl);rw[bJ]at this;exact this
theorem sK(l:Bs)(hl:l.length≤9223372036854775807)(σ:LLV):Fun G 167 [.d (ab (bs l)),.fn 200 []] σ (aP (.d (ac (l.takeWhile inn).length)) σ):=
 rL IF (bH (P:=Tryz.prog) Tryz.func200 (by kernel_rfl) (by kernel_rfl)) iu l hl σ
theorem Hu(l:Bs)(hl:l.length≤9223372036854775807)(σ:LLV):Fun G 167 [.d (ab (bs l)),.fn 172 []] σ (aP (.d (ac (l.takeWhile dig).length)) σ):=
 rL FR (bH (P:=Tryz.prog) Tryz.func172 (by kernel_rfl) (by kernel_rfl)) ig l hl σ
theorem CV(l:Bs)(hl:l.length≤9223372036854775807)(σ:LLV):Fun G 167 [.d (ab (bs l)),.fn 168 []] σ (aP (.d (ac (l.takeWhile (· != 10)).length)) σ):=
 rL De (bH (P:=Tryz.prog) Tryz.func168 (by kernel_rfl) (by kernel_rfl)) DE l hl σ
theorem AP(c:Nat)(h1:128≤c)(h2:c<256):∃x y:UInt8,Utf8.encode c=⟨#[x,y]⟩/\128≤y.toNat:=by
 refine⟨UInt8.ofNat (192+c/64),UInt8.ofNat (128+c%64),?_,?_⟩
 .have hv:Utf8.valid (c:Int)=true:=by simp only[Utf8.valid];simp;omega
  unfold Utf8.encode;simp only[hv,if_true,Int.toNat_natCast,show ¬c<128 by omega,if_false,show c<2048 by omega]
 .rw[UInt8.toNat_ofNat'];omega
theorem sH(c:Nat)(h1:128≤c)(h2:c<256)(w:World):Calls Tryz.prog 219 #[.string ⟨#[32,9,10]⟩,.int .i32 c] w fun e w'=>e=.returned (.int .i64 (-1))/\Ext w w':=by
 obtain⟨x,y,he,hy⟩:=AP c h1 h2;have n1:(decide ((c:Int)<128))=false:=by simp;omega
 have n2:((c:Int)==65533)=false:=by simp;omega
 have n3:Lib.validRune (c:Int)=true:=by simp[Lib.validRune];omega
 have n4:((9:Int)==((y.toNat:Nat):Int))=false:=by simp;omega
 have n5:Lib.indexByte [10] ((y.toNat:Int).toNat.toUInt8) = -1:=by
  have:(10:UInt8)≠y:=by intro e;rw[<-e]at hy;revert hy;decide
  have e:(y.toNat:Int).toNat.toUInt8=y:=by simp
  rw[e];simp[Lib.indexByte,this]
 go_enter Tryz.func219,Tryz.ntmps219;go_wp2_with (first|(go_at_call 249;refine(Tryz.utf8_ValidRune _ _).mono ?_;rintro e w' ⟨rfl,rfl⟩)|(go_at_call 248;refine(Tryz.strings_IndexByte _ _ _).mono ?_;rintro e w' ⟨rfl,rfl⟩));refine wp_scope_straight ?_;go_wp2_with (first|(go_at_call 249;refine(Tryz.utf8_ValidRune _ _).mono ?_;rintro e w' ⟨rfl,rfl⟩)|(go_at_call 248;refine(Tryz.strings_IndexByte _ _ _).mono ?_;rintro e w' ⟨rfl,rfl⟩));go_loop [9,10,11,12] (fun i j k l=>i=.int .i64 1) (fun i j k l=>0);case atStart=>rfl
 case round=>
  subst hrel;go_wp2_with (first|(go_at_call 249;refine(Tryz.utf8_ValidRune _ _).mono ?_;rintro e w' ⟨rfl,rfl⟩)|(go_at_call 248;refine(Tryz.strings_IndexByte _ _ _).mono ?_;rintro e w' ⟨rfl,rfl⟩));refine wp_scope_straight ?_;go_wp2_with (first|(go_at_call 249;refine(Tryz.utf8_ValidRune _ _).mono ?_;rintro e w' ⟨rfl,rfl⟩)|(go_at_call 248;refine(Tryz.strings_IndexByte _ _ _).mono ?_;rintro e w' ⟨rfl,rfl⟩))
  have n6:∀(h1:1<(⟨#[32,9,10]⟩:ByteArray).size) (h2:1<(⟨#[x,y]⟩:ByteArray).size),((((⟨#[32,9,10]⟩:ByteArray)[1]'h1).toNat:Int) != (((⟨#[x,y]⟩:ByteArray)[1]'h2).toNat:Int))=true:=fun h1 h2=>by
   have a1:(⟨#[32,9,10]⟩:ByteArray)[1]'h1=9:=rfl;have a2:(⟨#[x,y]⟩:ByteArray)[1]'h2=y:=rfl;rw[a1,a2,bne,show(((9:UInt8).toNat:Int)==(y.toNat:Int))=false from n4];rfl
  have n7:∀(h2:1<(⟨#[x,y]⟩:ByteArray).size),Lib.indexByte [10] ((⟨#[x,y]⟩:ByteArray)[1]'h2) = -1:=fun h2=>by
   have a2:(⟨#[x,y]⟩:ByteArray)[1]'h2=y:=rfl;rw[a2];have e:(y.toNat:Int).toNat.toUInt8=y:=by simp
   rw[e]at n5;exact n5
  go_region;go_wp2_with fail;go_region_with (first|(go_at_call 248;refine(Tryz.strings_IndexByte _ _ _).mono ?_;rintro e w' ⟨rfl,rfl⟩));all_goals (go_wp2_with fail)
  all_goals (rw[Exit.noGoto_ret];go_wp2_with fail)
  all_goals (rw[Exit.noGoto_ret];go_wp2_with fail;go_ret;exact⟨rfl,(Ext.refl _).drew.drew⟩)
theorem o0(c:Nat)(h1:128≤c)(h2:c<256)(w:World):Calls Tryz.prog 169 #[.string ⟨#[32,9,10]⟩,.int .i32 c] w fun e w'=>e=.returned (.bool false)/\Ext w w':=by
 go_enter Tryz.func169,Tryz.ntmps169;go_wp2_with (go_at_call 219;refine(sH c h1 h2 _).mono ?_;rintro e w' ⟨rfl,hx⟩);go_ret;exact⟨rfl,hx⟩
theorem zy(l:Bs)(n:Nat)(h:n≤l.length):tM true 0 (V.d (ab (bs l))) none (some (V.d (ac n)))=some (V.d (ab (bs (l.take n)))):=by
 simp[tM,gA,AO,bF,h,KV]
theorem y5(l:Bs)(n:Nat)(h:n≤l.length):tM true 0 (V.d (ab (bs l))) (some (V.d (ac n))) none=some (V.d (ab (bs (l.drop n)))):=by
 have:=J6 l n;rw[bF]at this;simp[tM,gA,AO,bF,h,this]
theorem ik:decide (bs []=({data := #[]}:ByteArray))=true:=by rw[decide_eq_true_eq];rfl
theorem EZ(c:UInt8)(r:Bs):decide (bs (c::r)=({data := #[]}:ByteArray))=false:=by
 rw[decide_eq_false_iff_not];intro h;have h2:=rJ.1 (h:bs (c::r)=bs []);cases h2
theorem oQ(c:UInt8)(r:Bs):ixV (V.d (ab (bs (c::r)))) (V.d (.lit (.int .i64 0)))=some (aB .u8 c.toNat):=by simp[ixV,bJ]
theorem F5(n:Nat)(h:n<256):IntKind.i32.wrap (n:Int)=n:=by
 simp[IntKind.wrap,IntKind.bits,IntKind.signed];split<;>omega
theorem DF(c:UInt8):(c.toNat==32||c.toNat==9||c.toNat==10)=lT c:=by
 rw[TV];simp[lT,<-UInt8.toNat_inj]
theorem Bu(q:UInt8->Bool):∀l:Bs,l.drop (l.takeWhile q).length=l.dropWhile q
 | []=>rfl
 | a::r=>by
  by_cases h:q a=true
  .rw[T6 h,List.dropWhile_cons_of_pos h,T5,List.drop_succ_cons,Bu q r]
  .rw[List.takeWhile_cons_of_neg h,List.dropWhile_cons_of_neg h];rfl
def rd(l:Bs)(n:Int):List V:=[.d (ab (bs l)),.d (ac n)]
theorem cE{k:Nat}{σ:LLV}{cs:List V}{i:Nat}(h:aj k σ=true)(hc:V.unders k cs=true):aj k (σ.set i cs)=true:=by
 unfold aj at h ⊢;rw[List.all_eq_true]at h ⊢;intro x hx;rcases List.mem_or_eq_of_mem_set hx with h1|rfl
 .exact h x h1
 .exact hc
theorem bQ{σ σ' τ:LLV}{ρ:ah}{rs:List RV}{Q:Out->LLV->Prop}(hb:aj σ.length τ=true){v:V}(h:be σ' ρ rs=some v)(hv:V.under σ.length v=true)(hσ:σ'.take σ.length=τ)(hq:Q (.ret v) τ):fin σ.length rs Q .ret ρ σ':=
 ⟨ρ,σ',.refl _ _ _,v,h,σ.length,Ug _,by rw[hσ];exact hb,hv,by rw[hσ];exact hq⟩
theorem dL{C:Cx}{f:FuncId}{args:List V}{σ τ:LLV}{v:V}{K P:V->LLV->Prop}{s:Tag K}{t:Tag P}(h:Fun C f args σ fun o σ'=>o=.ret v/\σ'=τ)(hk:K v τ):kf C f args σ K P s t:=
 h.mono fun o σ' ⟨e1,e2⟩=>by subst e1;subst e2;exact hk
def rdr(T:Int)(l:Bs):List V:=rd l (T-(l.count 10:Nat))
theorem mu(T:Int)(l:Bs)(n i:Nat)(hn:n≤l.length)(hl:l.length≤1200000)(h0:0≤T)(h1:T≤1000000000)(σ:LLV)(hi:σ[i]? = some (rdr T l)):
 Fun G 166 [.ptr i 0,.d (ac n)] σ fun o σ'=>o=.ret (.d (ab (bs (l.take n))))/\σ'=σ.set i (rdr T (l.drop n)):=by
 have hlt:i<σ.length:=(List.getElem?_eq_some_iff.1 hi).1;have hcl:(l.count 10:Nat)=(l.take n).count 10+(l.drop n).count 10:=by rw[<-List.count_append,List.take_append_drop]
 have hc2:l.count 10≤l.length:=Ub;refine ai Tryz.func166 Ta rfl fun hb hw=>?_;unfold ON;unfold rdr rd at hi;have hi':(σ.set i [.d (ab (bs (l.drop n))),.d (ac (T-(l.count 10:Nat)))])[i]? = some [.d (ab (bs (l.drop n))),.d (ac (T-(l.count 10:Nat)))]:=by simp[hlt]
 simp -dsimp only[aw,jV,jW,jX,jY,jZ,jA,reduceIte,reduceCtorEq,jB,jC,jD,jE,jF,jG,hi,zy l n hn,y5 l n hn,hi'];refine aA (DP _ (by rw[List.length_take];omega) _) ?_;simp -dsimp only[aw,jV,jW,jX,jY,jZ,jA,reduceIte,reduceCtorEq,jB,jC,jD,jE,jF,jG,hi'];rw[ba (by omega) (by omega),T8,show T-(l.count 10:Nat)+((l.take n).count 10:Nat)=T-((l.drop n).count 10:Nat)by omega];exact bQ (τ:=σ.set i (rdr T (l.drop n))) (cE hb rfl) rfl rfl (by rw[T7 (by rw[T4];exact Ug _)];rfl) ⟨rfl,rfl⟩
theorem xL(c:Nat)(hc:c<256)(σ:LLV):Fun G 169 [.d (ab ⟨#[32,9,10]⟩),.d (.lit (.int .i32 c))] σ (aP (.d (.lit (.bool (c==32||c==9||c==10)))) σ):=
 lX Tryz.func169 (by kernel_rfl) (by kernel_rfl) trivial fun pr w _=>by
  by_cases h:c<128
  .have:=kw (Tryz.strings_ContainsRune_ascii ⟨#[32,9,10]⟩ c w (by omega) (by omega));rw[<-Ch c h];exact this
  .have e:(c==32||c==9||c==10)=false:=by simp;omega
   rw[e];exact o0 c (by omega) hc w
theorem yN(T:Int)(l:Bs)(i:Nat)(hl:l.length≤1200000)(h0:0≤T)(h1:T≤1000000000)(σ:LLV)(hi:σ[i]? = some (rdr T l)):
 Fun G 115 [.ptr i 0] σ fun o σ'=>o=.ret (.tup [])/\σ'=σ.set i (rdr T (ck l)):=by
 have hlt:i<σ.length:=(List.getElem?_eq_some_iff.1 hi).1;have hset:∀X:List V,(σ.set i X)[i]? = some X:=fun X=>by simp[hlt]
 have hself:σ.set i (rdr T l)=σ:=by rw[<-List.getElem?_eq_some_iff.1 hi |>.2];exact List.set_getElem_self hlt
 refine ai Tryz.func115 SF rfl fun hb hw=>?_;unfold Pi;simp -dsimp only[aw,jV,jW,jX,jY,jZ,jA,reduceIte,reduceCtorEq,jB,jC,jD,jE,jF,jG];refine rA (R:=fun(j:Nat) ρ σ'=>∃r:Bs,ck r=ck l/\r.length+j≤l.length/\ρ=[(0,.ptr i 0)]/\σ'=σ.set i (rdr T r)) (l.length+1) ⟨l,rfl,by omega,rfl,hself.symm⟩ ?_ _;rintro j ρ' σ' hj ⟨r,hr,hrl,rfl,rfl⟩;have hset':=hset (rdr T r);have hset2:=hset';unfold rdr rd at hset2;simp -dsimp only[aw,jV,jW,jX,jY,jZ,jA,reduceIte,reduceCtorEq,jB,jC,jD,jE,jF,jG,hset2,rdr,rd];refine ae (nE r [47,47] _) ?_
 have next:∀r2:Bs,ck r2=ck l->r2.length<r.length->j<l.length+1/\Nxt σ.length (fun ρ σ'=>∃r,ck r=ck l/\r.length+(j+1)≤l.length/\ρ=[(0,V.ptr i 0)]/\σ'=σ.set i (rdr T r)) [(0,.ptr i 0)] (σ.set i (rdr T r2)) .mk:=fun r2 h2 h3=>
  ⟨by omega,Nxt.same (by simp) (by rw[T4];exact cE hb rfl) (by simp[aq,V.under,hlt]) ⟨r2,h2,by omega,rfl,rfl⟩⟩
 cases hpre:([47,47]:Bs).isPrefixOf r with
 | true=>
  obtain⟨r2,hr2⟩:=List.isPrefixOf_iff_prefix.1 hpre;have hdw:r.drop (r.takeWhile (· != 10)).length=r.dropWhile (· != 10):=Bu _ r
  have hsk:ck r=ck (r.dropWhile (· != 10)):=by
   subst hr2;rw[Ue,eX,if_neg (by decide),if_pos ⟨rfl,rfl⟩]
  have htw:(r.takeWhile (· != 10)).length≤r.length:=(T3 _).length_le
  have htp:1≤(r.takeWhile (· != 10)).length:=by
   subst hr2;rw[Ue,T6 (by decide)];simp
  simp -dsimp only[aw,jV,jW,jX,jY,jZ,jA,reduceIte,reduceCtorEq,jB,jC,jD,jE,jF,jG,hset2];refine ae (CV r (by omega) _) ?_;simp -dsimp only[aw,jV,jW,jX,jY,jZ,jA,reduceIte,reduceCtorEq,jB,jC,jD,jE,jF,jG];refine dL (mu T r _ i htw (by omega) h0 h1 _ hset2) ?_;rw[T8];simp -dsimp only[aw,jV,jW,jX,jY,jZ,jA,reduceIte,reduceCtorEq,jB,jC,jD,jE,jF,jG];exact next _ (by rw[hdw,<-hsk,hr]) (by rw[Ud];omega)
 | false=>
  match r with
  | []=>
   simp -dsimp only[aw,jV,jW,jX,jY,jZ,jA,reduceIte,reduceCtorEq,jB,jC,jD,jE,jF,jG,hset2,ik];rw[jd]at hr;exact bQ (τ:=σ.set i (rdr T [])) (cE hb rfl) rfl rfl (by rw[T7 (by rw[T4];exact Ug _)];rfl) ⟨rfl,by rw[<-hr]⟩
  | c::r2=>
   simp -dsimp only[aw,jV,jW,jX,jY,jZ,jA,reduceIte,reduceCtorEq,jB,jC,jD,jE,jF,jG,hset2,EZ,oQ];have hc:c.toNat<256:=c.toNat_lt;rw[F5 _ hc];refine ae (xL c.toNat hc _) ?_;rw[DF];cases hbl:lT c with
   | true=>
    simp -dsimp only[aw,jV,jW,jX,jY,jZ,jA,reduceIte,reduceCtorEq,jB,jC,jD,jE,jF,jG,hset2];refine dL (mu T (c::r2) 1 i (by simp) (by omega) h0 h1 _ hset2) ?_;rw[T8];simp -dsimp only[aw,jV,jW,jX,jY,jZ,jA,reduceIte,reduceCtorEq,jB,jC,jD,jE,jF,jG];exact next r2 (by rw[<-hr,eX,if_pos hbl]) (by simp)
   | false=>
    simp -dsimp only[aw,jV,jW,jX,jY,jZ,jA,reduceIte,reduceCtorEq,jB,jC,jD,jE,jF,jG,hset2]
    have hs:ck (c::r2)=c::r2:=by
     rw[eX,if_neg (by rw[hbl];decide),if_neg];rintro⟨rfl,h⟩
     match r2,h with
     | d::r3,h=>
      simp only[List.head?_cons,Option.some.injEq]at h;subst h;simp at hpre
    exact bQ (τ:=σ.set i (rdr T (c::r2))) (cE hb rfl) rfl rfl (by rw[T7 (by rw[T4];exact Ug _)];rfl) ⟨rfl,by rw[<-hr,hs]⟩
def dE(kind num:Int)(text:Bs)(line:Int):V:=.agg [.d (ac kind),.d (ac num),.d (ab (bs text)),.d (ac line)]
def cH:V:=dE 0 0 [] 0
theorem wX(s:Bs)(σ:LLV):Fun G 147 [.d (ab (bs s))] σ (aP (.d (.lit (.bool (inB (bs s) em)))) σ):=
 rt Tryz.func147 (by kernel_rfl) (by kernel_rfl) trivial fun M bm pr w v hG hM h1=>by
  cases eK h1;exact(ij (bs s) w (rp hG.1 hM)).mono fun e w' ⟨h1,h2⟩=>⟨h1,h2▸Ext.refl _⟩
theorem GL(T:Int)(l:Bs)(i:Nat)(hl:l.length≤1200000)(h0:0≤T)(h1:T≤1000000000)(σ:LLV)(hi:σ[i]? = some (rdr T l)):
 Fun G 171 [.ptr i 0] σ fun o σ'=>o=.ret (.tup (if 16<(l.takeWhile inn).length then[cH,.d (ac 2)]else[dE (if inB (bs (l.takeWhile inn)) em=true then 2 else 1) 0 (l.takeWhile inn) (T-(l.count 10:Nat)),.d (ac 0)]))/\σ'=σ.set i (rdr T (l.drop (l.takeWhile inn).length)):=by
 have hlt:i<σ.length:=(List.getElem?_eq_some_iff.1 hi).1;have htw:(l.takeWhile inn).length≤l.length:=(T3 _).length_le;have htk:l.take (l.takeWhile inn).length=l.takeWhile inn:=List.prefix_iff_eq_take.1 (T3 _) |>.symm
 refine ai Tryz.func171 RX rfl fun hb hw=>?_;unfold c171;have hio:=fun t=>al hi t;unfold rdr rd at hio;simp -dsimp only[aw,jV,jW,jX,jY,jZ,jA,reduceIte,reduceCtorEq,jB,jC,jD,jE,jF,jG,hio];refine ae (sK l (by omega) _) ?_;simp -dsimp only[aw,jV,jW,jX,jY,jZ,jA,reduceIte,reduceCtorEq,jB,jC,jD,jE,jF,jG];refine dL (mu T l _ i htw hl h0 h1 _ (al hi _)) ?_;rw[bN hi,htk];obtain⟨σ1,hs1⟩:∃x,x=σ.set i (rdr T (l.drop (l.takeWhile inn).length)):=⟨_,rfl⟩
 have hl1:σ1.length=σ.length:=by rw[hs1,T4]
 have hb1:aj σ1.length σ1=true:=by rw[hl1,hs1];exact cE hb rfl
 rw[<-hs1,<-hl1];simp -dsimp only[aw,jV,jW,jX,jY,jZ,jA,reduceIte,reduceCtorEq,jB,jC,jD,jE,jF,jG,bF];by_cases h16:16<(l.takeWhile inn).length
 .have h16':(16:Int)<((l.takeWhile inn).length:Nat):=by omega
  simp -dsimp only[aw,jV,jW,jX,jY,jZ,jA,reduceIte,reduceCtorEq,jB,jC,jD,jE,jF,jG,decide_eq_true h16'];rw[if_pos h16];exact bQ (τ:=σ1) hb1 (v:=.tup [cH,.d (ac 2)]) (by simp[BM,be,dp,bL,cH,dE,fG,aw,jV,jW,jX,jY,jZ,jA,reduceIte,reduceCtorEq,jB,jC,jD,jE,jF,jG]) rfl T0 ⟨rfl,rfl⟩
 .have h16':¬(16:Int)<((l.takeWhile inn).length:Nat):=by omega
  simp -dsimp only[aw,jV,jW,jX,jY,jZ,jA,reduceIte,reduceCtorEq,jB,jC,jD,jE,jF,jG,decide_eq_false h16'];rw[if_neg h16];refine ae (wX _ _) ?_;cases hkw:inB (bs (l.takeWhile inn)) em with
  | true=>
   simp -dsimp only[aw,jV,jW,jX,jY,jZ,jA,reduceIte,reduceCtorEq,jB,jC,jD,jE,jF,jG];exact bQ (τ:=σ1) hb1 (v:=.tup [dE 2 0 (l.takeWhile inn) (T-(l.count 10:Nat)),.d (ac 0)]) (by simp[BM,be,dp,bL,cH,dE,fG,aw,jV,jW,jX,jY,jZ,jA,reduceIte,reduceCtorEq,jB,jC,jD,jE,jF,jG]) rfl T0 ⟨rfl,rfl⟩
  | false=>
   simp -dsimp only[aw,jV,jW,jX,jY,jZ,jA,reduceIte,reduceCtorEq,jB,jC,jD,jE,jF,jG];exact bQ (τ:=σ1) hb1 (v:=.tup [dE 1 0 (l.takeWhile inn) (T-(l.count 10:Nat)),.d (ac 0)]) (by simp[BM,be,dp,bL,cH,dE,fG,aw,jV,jW,jX,jY,jZ,jA,reduceIte,reduceCtorEq,jB,jC,jD,jE,jF,jG]) rfl T0 ⟨rfl,rfl⟩
theorem zf(T:Int)(c:UInt8)(r:Bs)(i:Nat)(hl:(c::r).length≤1200000)(hc:dig c=true)(h0:0≤T)(h1:T≤1000000000)(σ:LLV)(hi:σ[i]? = some (rdr T (c::r))):
 Fun G 173 [.ptr i 0] σ fun o σ'=>o=.ret (.tup (if(1<(c::r.takeWhile dig).length/\c=48)\/(r.drop (r.takeWhile dig).length).takeWhile inn≠[]then[cH,.d (ac 5)]else if 2147483647<eQ (c::r.takeWhile dig)then[cH,.d (ac 3)]else[dE 3 (eQ (c::r.takeWhile dig)) (c::r.takeWhile dig) (T-((c::r).count 10:Nat)),.d (ac 0)]))/\σ'=σ.set i (rdr T (r.drop (r.takeWhile dig).length)):=by
 have hlt:i<σ.length:=(List.getElem?_eq_some_iff.1 hi).1;have htc:(c::r).takeWhile dig=c::r.takeWhile dig:=T6 hc;have htw:((c::r).takeWhile dig).length≤(c::r).length:=(T3 _).length_le;have htk:(c::r).take ((c::r).takeWhile dig).length=(c::r).takeWhile dig:=List.prefix_iff_eq_take.1 (T3 _) |>.symm
 have hdr:(c::r).drop ((c::r).takeWhile dig).length=r.drop (r.takeWhile dig).length:=by rw[htc];rfl
 have hds:∀x,x∈c::r.takeWhile dig->dig x=true:=fun x hx=>by rw[<-htc]at hx;exact List.all_eq_true.1 (List.all_takeWhile (l:=c::r) (p:=dig)) x hx
 refine ai Tryz.func173 TH rfl fun hb hw=>?_;unfold c173;have hio:=fun t=>al hi t;unfold rdr rd at hio;simp -dsimp only[aw,jV,jW,jX,jY,jZ,jA,reduceIte,reduceCtorEq,jB,jC,jD,jE,jF,jG,hio];refine ae (Hu (c::r) (by omega) _) ?_;simp -dsimp only[aw,jV,jW,jX,jY,jZ,jA,reduceIte,reduceCtorEq,jB,jC,jD,jE,jF,jG];refine dL (mu T (c::r) _ i htw hl h0 h1 _ (al hi _)) ?_;rw[bN hi,htk,hdr,htc];rw[htc]at htw;generalize htx:r.takeWhile dig=tx at *;generalize hrs:r.drop tx.length=rs at *;obtain⟨σ1,hs1⟩:∃x,x=σ.set i (rdr T rs):=⟨_,rfl⟩
 have hl1:σ1.length=σ.length:=by rw[hs1,T4]
 have hb1:aj σ1.length σ1=true:=by rw[hl1,hs1];exact cE hb rfl
 have hi1:σ1[i]? = some (rdr T rs):=by rw[hs1];simp[hlt]
 have hio1:=fun t=>al hi1 t;unfold rdr rd at hio1;rw[<-hs1,<-hl1];have hrl:rs.length≤1200000:=by rw[<-hrs,Ud];simp only[T5]at hl;omega
 simp -dsimp only[aw,jV,jW,jX,jY,jZ,jA,reduceIte,reduceCtorEq,jB,jC,jD,jE,jF,jG,bF,oQ,hio1]
 have e48:decide ((c.toNat:Int)=48)=decide (c=48):=by
  rw[decide_eq_decide];exact⟨fun h=>UInt8.toNat_inj.1 (by show c.toNat=48;omega),fun h=>by rw[h];rfl⟩
 have hy:((tx.length:Nat)+1:Nat)=(c::tx).length:=rfl;by_cases hx:1<(c::tx).length/\c=48
 .obtain⟨ha,hc48⟩:=hx;have ha':(1:Int)<((tx.length+1:Nat):Int):=by simp only[T5]at ha;omega
  simp -dsimp only[aw,jV,jW,jX,jY,jZ,jA,reduceIte,reduceCtorEq,jB,jC,jD,jE,jF,jG,decide_eq_true ha',oQ,e48,decide_eq_true hc48];rw[if_pos (.inl ⟨ha,hc48⟩)];exact bQ (τ:=σ1) hb1 (v:=.tup [cH,.d (ac 5)]) (by simp[nN,be,dp,bL,cH,dE,fG,aw,jV,jW,jX,jY,jZ,jA,reduceIte,reduceCtorEq,jB,jC,jD,jE,jF,jG]) rfl T0 ⟨rfl,rfl⟩
 .by_cases ha:(1:Int)<((tx.length+1:Nat):Int)
  rotate_left
  .simp -dsimp only[aw,jV,jW,jX,jY,jZ,jA,reduceIte,reduceCtorEq,jB,jC,jD,jE,jF,jG,decide_eq_false ha,hio1];refine ae (sK rs (by omega) _) ?_;by_cases hsp:rs.takeWhile inn=[]
   .rw[if_neg (fun h=>h.elim hx (fun h=>h hsp)),hsp];simp -dsimp only[aw,jV,jW,jX,jY,jZ,jA,reduceIte,reduceCtorEq,jB,jC,jD,jE,jF,jG,Uf,TX,TW,TY,decide_false];have hpd:=oF (l:=c::tx) (by simp) hds;by_cases hbig:eQ (c::tx)≤9223372036854775807
    .rw[if_pos hbig]at hpd;refine ae (pc (c::tx) _ (by omega) hpd (pp hbig) _) ?_;by_cases hmx:2147483647<eQ (c::tx)
     .have hmx':(2147483647:Int)<((eQ (c::tx):Nat):Int):=by omega
      simp -dsimp only[aw,jV,jW,jX,jY,jZ,jA,reduceIte,reduceCtorEq,jB,jC,jD,jE,jF,jG,decide_eq_true hmx'];rw[if_pos hmx];exact bQ (τ:=σ1) hb1 (v:=.tup [cH,.d (ac 3)]) (by simp[nN,be,dp,bL,cH,dE,fG,aw,jV,jW,jX,jY,jZ,jA,reduceIte,reduceCtorEq,jB,jC,jD,jE,jF,jG]) rfl T0 ⟨rfl,rfl⟩
     .have hmx':¬(2147483647:Int)<((eQ (c::tx):Nat):Int):=by omega
      simp -dsimp only[aw,jV,jW,jX,jY,jZ,jA,reduceIte,reduceCtorEq,jB,jC,jD,jE,jF,jG,decide_eq_false hmx'];rw[if_neg hmx];exact bQ (τ:=σ1) hb1 (v:=.tup [dE 3 (eQ (c::tx)) (c::tx) (T-((c::r).count 10:Nat)),.d (ac 0)]) (by simp[nN,be,dp,bL,cH,dE,fG,aw,jV,jW,jX,jY,jZ,jA,reduceIte,reduceCtorEq,jB,jC,jD,jE,jF,jG]) rfl T0 ⟨rfl,rfl⟩
    .rw[if_neg hbig]at hpd;refine ae (lK (c::tx) (by omega) hpd _) ?_;rw[if_pos (show 2147483647<eQ (c::tx)by omega)];simp -dsimp only[aw,jV,jW,jX,jY,jZ,jA,reduceIte,reduceCtorEq,jB,jC,jD,jE,jF,jG];exact bQ (τ:=σ1) hb1 (v:=.tup [cH,.d (ac 3)]) (by simp[nN,be,dp,bL,cH,dE,fG,aw,jV,jW,jX,jY,jZ,jA,reduceIte,reduceCtorEq,jB,jC,jD,jE,jF,jG]) rfl T0 ⟨rfl,rfl⟩
   .rw[if_pos (.inr hsp)];have hsl:(0:Int)<((rs.takeWhile inn).length:Nat):=by have:=List.length_pos_iff.2 hsp;omega
    simp -dsimp only[aw,jV,jW,jX,jY,jZ,jA,reduceIte,reduceCtorEq,jB,jC,jD,jE,jF,jG,decide_eq_true hsl];exact bQ (τ:=σ1) hb1 (v:=.tup [cH,.d (ac 5)]) (by simp[nN,be,dp,bL,cH,dE,fG,aw,jV,jW,jX,jY,jZ,jA,reduceIte,reduceCtorEq,jB,jC,jD,jE,jF,jG]) rfl T0 ⟨rfl,rfl⟩
  .have hc48:¬c=48:=fun h=>hx ⟨by simp only[T5];omega,h⟩;simp -dsimp only[aw,jV,jW,jX,jY,jZ,jA,reduceIte,reduceCtorEq,jB,jC,jD,jE,jF,jG,decide_eq_true ha,oQ,e48,decide_eq_false hc48,hio1];refine ae (sK rs (by omega) _) ?_;by_cases hsp:rs.takeWhile inn=[]
   .rw[if_neg (fun h=>h.elim hx (fun h=>h hsp)),hsp];simp -dsimp only[aw,jV,jW,jX,jY,jZ,jA,reduceIte,reduceCtorEq,jB,jC,jD,jE,jF,jG,Uf,TX,TW,TY,decide_false];have hpd:=oF (l:=c::tx) (by simp) hds;by_cases hbig:eQ (c::tx)≤9223372036854775807
    .rw[if_pos hbig]at hpd;refine ae (pc (c::tx) _ (by omega) hpd (pp hbig) _) ?_;by_cases hmx:2147483647<eQ (c::tx)
     .have hmx':(2147483647:Int)<((eQ (c::tx):Nat):Int):=by omega
      simp -dsimp only[aw,jV,jW,jX,jY,jZ,jA,reduceIte,reduceCtorEq,jB,jC,jD,jE,jF,jG,decide_eq_true hmx'];rw[if_pos hmx];exact bQ (τ:=σ1) hb1 (v:=.tup [cH,.d (ac 3)]) (by simp[nN,be,dp,bL,cH,dE,fG,aw,jV,jW,jX,jY,jZ,jA,reduceIte,reduceCtorEq,jB,jC,jD,jE,jF,jG]) rfl T0 ⟨rfl,rfl⟩
     .have hmx':¬(2147483647:Int)<((eQ (c::tx):Nat):Int):=by omega
      simp -dsimp only[aw,jV,jW,jX,jY,jZ,jA,reduceIte,reduceCtorEq,jB,jC,jD,jE,jF,jG,decide_eq_false hmx'];rw[if_neg hmx];exact bQ (τ:=σ1) hb1 (v:=.tup [dE 3 (eQ (c::tx)) (c::tx) (T-((c::r).count 10:Nat)),.d (ac 0)]) (by simp[nN,be,dp,bL,cH,dE,fG,aw,jV,jW,jX,jY,jZ,jA,reduceIte,reduceCtorEq,jB,jC,jD,jE,jF,jG]) rfl T0 ⟨rfl,rfl⟩
    .rw[if_neg hbig]at hpd;refine ae (lK (c::tx) (by omega) hpd _) ?_;rw[if_pos (show 2147483647<eQ (c::tx)by omega)];simp -dsimp only[aw,jV,jW,jX,jY,jZ,jA,reduceIte,reduceCtorEq,jB,jC,jD,jE,jF,jG];exact bQ (τ:=σ1) hb1 (v:=.tup [cH,.d (ac 3)]) (by simp[nN,be,dp,bL,cH,dE,fG,aw,jV,jW,jX,jY,jZ,jA,reduceIte,reduceCtorEq,jB,jC,jD,jE,jF,jG]) rfl T0 ⟨rfl,rfl⟩
   .rw[if_pos (.inr hsp)];have hsl:(0:Int)<((rs.takeWhile inn).length:Nat):=by have:=List.length_pos_iff.2 hsp;omega
    simp -dsimp only[aw,jV,jW,jX,jY,jZ,jA,reduceIte,reduceCtorEq,jB,jC,jD,jE,jF,jG,decide_eq_true hsl];exact bQ (τ:=σ1) hb1 (v:=.tup [cH,.d (ac 5)]) (by simp[nN,be,dp,bL,cH,dE,fG,aw,jV,jW,jX,jY,jZ,jA,reduceIte,reduceCtorEq,jB,jC,jD,jE,jF,jG]) rfl T0 ⟨rfl,rfl⟩
end Go.Proofs.YtnhphlmblenapaaGreatDoor
