import Derived.Test.YthoebpnbhgmoiaaGreatDoorK
import Derived.Test.YthoebpnbhgmoiaaGreatDoorData
import Derived.Test.YthoebpnbhgmoiaaGreatDoorElem
import Derived.Test.YthoebpnbhgmoiaaGreatDoorA20
import Derived.ProofKit
import Derived.Deep.Slices
import Derived.ChangeArms
import Derived.Test.YthoebpnbhgmoiaaGreatDoorRows
import Derived.WalkKit
import Derived.WalkSpells
import Derived.WalkLawsBesides
import Derived.Deep.QuietTactic
import Derived.BigQuiet
import Derived.Lib.SlBytesRow
import Derived.Deep.Light
import Derived.Test.YthoebpnbhgmoiaaGreatDoorNames2
set_option linter.unusedVariables false
set_option linter.unusedSimpArgs false
set_option linter.unusedSectionVars false
open List renaming getElem?_eq_getElem→JH,getElem_cons_zero→JI,getElem_mem→JJ,getElem_map→JK,range→JL,getElem_append_right→JM,getElem_append_left→JO,getElem_of_mem→JP,getElem_range→JQ,getElem?_map→JR,mem_cons→JS
open Option renaming getD_some→JT
namespace Go.Proofs.YthoebpnbhgmoiaaGreatDoor
open Go.RowKit
abbrev ah(n:Int):D:=.lit (.int .i64 n)
abbrev al(s:ByteArray):D:=.lit (.string s)
def aQ(l:List ByteArray):D:=.sl (l.map fun s=>[al s])
mutual
def dex:Ex→List D
 | .mk o n s l=>[ah o,ah n,al s,.sl (AR l)]
def AR:List Ex→List (List D)
 | []=>[]
 | a::r=>dex a::AR r
end
theorem rE(l:List Ex):AR l=l.map dex:=by
 induction l with
 | nil=>rfl
 | cons a r ih=>simp only[AR,ih,List.map_cons]
theorem aT(e:Ex):dex e=[ah e.op,ah e.num,al e.name,.sl (e.args.map dex)]:=by
 cases e;simp only[dex,rE,Ex.op,Ex.num,Ex.name,Ex.args]
def vex(e:Ex):V:=.agg ((dex e).map V.d)
theorem am(e:Ex):vex e=.agg [.d (ah e.op),.d (ah e.num),.d (al e.name),.d (.sl (e.args.map dex))]:=by
 unfold vex;rw[aT];rfl
section
variable {M : ax} {w : World}
theorem zK(hM:M.hold w)(e:Ex):∀(vs:List Value),vs.length=(dex e).length→(∀i (h:i<(dex e).length) (h':i<vs.length),DRep M (dex e)[i] vs[i])→ExRep w e vs:=by
 induction e using Ex.ind with
 | h o n s l ih=>
 intro vs hl hr;simp only[dex,rE]at hl hr
 match vs,hl with
 | [v0,v1,v2,v3],_=>
 have r0:=hr 0 (by simp) (by simp);have r1:=hr 1 (by simp) (by simp);have r2:=hr 2 (by simp) (by simp);have r3:=hr 3 (by simp) (by simp);simp only[JI,List.getElem_cons_succ,ah,al]at r0 r1 r2 r3;cases r0 with|lit _ h0=>
 cases r1 with|lit _ h1=>
 cases r2 with|lit _ h2=>
 cases r3 with
 | sl _ k p cap val hk hd hf hc hm=>
 have hlen:(l.map dex).length=l.length:=by simp
 have h4:∀a:Ex,(dex a).length=4:=fun a=>by rw[aT];rfl
 refine .mk o n s l _ ((JL l.length).map fun i=>(JL 4).map fun j=>val i j) (by simp) (fun i h h'=>?_) ?_ ?_ ?_ h2
 ·simp only[JK,JQ];refine ih _ (JJ h) _ (by rw[h4];simp) (fun j g g'=>?_);simp only[JK,JQ];have:=hd i j (by simpa using h) (by simpa using g);simpa using this
 ·refine⟨p,cap,by simp,by simpa using hc,hm,fun i cs hi=>?_⟩;rw[JR]at hi;obtain⟨q,hq,rfl⟩:=Option.map_eq_some_iff.1 hi;have hql:=(List.getElem?_eq_some_iff.1 hq).1;have hqe:q=i:=by have:=(List.getElem?_eq_some_iff.1 hq).2;simpa using this.symm
  subst hqe;have hlt:q<(l.map dex).length:=by simpa using hql
  obtain⟨b,off,h5,h6⟩:=hf q hlt;have hk4:k=4:=by rw[←hk _ (JJ hlt)];simp[h4]
  subst hk4;refine⟨b,off,h5,by simp,fun j v hj=>?_⟩;rw[JR]at hj;obtain⟨j',hj',rfl⟩:=Option.map_eq_some_iff.1 hj;have hjl:=(List.getElem?_eq_some_iff.1 hj').1;have hje:j'=j:=by have:=(List.getElem?_eq_some_iff.1 hj').2;simpa using this.symm
  subst hje;exact hM _ _ _ (h6 j' (by simpa using hjl))
 ·simp only[cR,IntKind.min,IntKind.max,IntKind.signed,IntKind.bits]at h0;simpa using h0
 ·simp only[cR,IntKind.min,IntKind.max,IntKind.signed,IntKind.bits]at h1;simpa using h1
theorem fR{bm:List Nat}(hM:M.hold w){e:Ex}{v:Value}(h:Rep M bm (vex e) v):dh w e v:=by
 unfold vex at h;generalize hcs:(dex e).map V.d=cs at h;cases h with
 | @agg _ vs hl hh h1=>
 refine⟨vs,zK hM e vs (by rw[hl,←hcs];simp) (fun i g g'=>?_),rfl⟩;have:=hh i (by rw[←hcs];simpa using g) g';have e1:cs[i]'(by rw[←hcs];simpa using g)=.d (dex e)[i]:=by subst hcs;simp
 rw[e1]at this;cases this with|d h=>exact h
theorem gR{bm:List Nat}(hM:M.hold w){l:List ByteArray}{v:Value}(h:Rep M bm (.d (aQ l)) v):dq w l v:=by
 cases h with
 | d h=>
 unfold aQ at h;generalize hrs:(l.map fun s=>[al s])=rows at h;have hlen:rows.length=l.length:=by rw[←hrs];simp
 cases h with
 | sl _ k p cap val hk hd hf hc hm=>
 rw[hlen];refine⟨p,cap,rfl,by omega,hm,fun i s hi=>?_⟩;have hil:=(List.getElem?_eq_some_iff.1 hi).1;have hir:i<rows.length:=by omega
 obtain⟨b,off,rfl,h6⟩:=hf i hir;have hri:rows[i]=[al s]:=by subst hrs;simp[(List.getElem?_eq_some_iff.1 hi).2]
 have hk1:k=1:=by rw[←hk _ (JJ hir),hri];rfl
 subst hk1;refine⟨b,off,rfl,?_⟩;have h7:=h6 0 (by omega);have h8:=hd i 0 hir (by rw[hri];simp);simp only[hri,JI,al]at h8;generalize hv:val i 0=u at h7 h8;cases h8 with|lit _ _=>
 have:=hM _ _ _ h7;simpa using this
theorem ul(hG:G.cells M)(hM:M.hold w):jf w:=by
 obtain⟨val,h1,h2⟩:=hG 0 [aQ cD] (by rfl);have h3:=h2 0 (by simp);have h4:=h1 0 (by simp);simp only[JI]at h3;exact⟨val 0,hM _ _ _ h4,gR (bm:=[]) hM (.d h3)⟩
end
theorem Ag{f:FuncId}{fn:Func}{args:List V}{u:Value}{σ:List (List V)}(hf:Tryz.prog.funcs[f]? = some fn)(hn:(fn.name == "runtime.NumGoroutine")=false)(hb:fn.body.isNone=false)(hu:cR u)
 (h:∀(M:ax) (bm:List Nat) (w:World) (vs:List Value),G.cells M→M.hold w→vs.length=args.length→(∀i (h:i<args.length) (h':i<vs.length),Rep M bm args[i] vs[i])→Calls Tryz.prog f vs.toArray w fun e w'=>e=.returned u∧Ext w w'):
 Fun G f args σ (aO (.d (.lit u)) σ):=by
 refine⟨di (P:=Tryz.prog) hf hn hb,fun M bm tk pr w vs hG hI ht hl hr=>(h M bm w vs hG.1 hI.facts hl hr).mono fun e w' ⟨he,hx⟩=>?_⟩;obtain⟨h1,h2⟩:=hI.ext hx;refine⟨M,bm,tk,σ,.ret (.d (.lit u)),⟨rfl,rfl⟩,h1,h2,fun v e=>?_,fun v e=>by cases e⟩;cases e;exact⟨u,he,.d (.lit u hu),fun _ _ _ e=>by cases e⟩
theorem kg{f:FuncId}{fn:Func}{a:V}{u:Value}{σ:List (List V)}(hf:Tryz.prog.funcs[f]? = some fn)(hn:(fn.name == "runtime.NumGoroutine")=false)(hb:fn.body.isNone=false)(hu:cR u)
 (h:∀(M:ax) (bm:List Nat) (w:World) (v:Value),G.cells M→M.hold w→Rep M bm a v→Calls Tryz.prog f #[v] w fun e w'=>e=.returned u∧Ext w w'):Fun G f [a] σ (aO (.d (.lit u)) σ):=
 Ag hf hn hb hu fun M bm w vs hG hM hl hr=>match vs,hl with
  | [v],_=>h M bm w v hG hM (hr 0 (by simp) (by simp))
theorem ud{f:FuncId}{fn:Func}{a b:V}{u:Value}{σ:List (List V)}(hf:Tryz.prog.funcs[f]? = some fn)(hn:(fn.name == "runtime.NumGoroutine")=false)(hb:fn.body.isNone=false)(hu:cR u)
 (h:∀(M:ax) (bm:List Nat) (w:World) (v v':Value),G.cells M→M.hold w→Rep M bm a v→Rep M bm b v'→Calls Tryz.prog f #[v,v'] w fun e w'=>e=.returned u∧Ext w w'):Fun G f [a,b] σ (aO (.d (.lit u)) σ):=
 Ag hf hn hb hu fun M bm w vs hG hM hl hr=>match vs,hl with
  | [v,v'],_=>h M bm w v v' hG hM (hr 0 (by simp) (by simp)) (hr 1 (by simp) (by simp))
end Go.Proofs.YthoebpnbhgmoiaaGreatDoor
namespace Go.Proofs.YthoebpnbhgmoiaaGreatDoor
open Go.RowKit
def mem(w:World):ax:=fun b o=>w.cell? ⟨b,o,none⟩
theorem yk(w:World):(mem w).hold w:=fun _ _ _ h=>h
theorem wR(w:World):Inv (mem w) [] [] (fun _ _=>none) (fun b=>b<w.heap.size) w:=
 {facts:=yk w,len:=rfl,box:=fun i b cs h=>by simp at h,free:=fun b h=>by simp at h,bmnd:=List.nodup_nil,
  tok:=fun i j g h=>(nomatch h),inj:=fun i j i' j' g h=>(nomatch h),prlt:=fun b h=>h}
def dM(M:ax)(ds:List D)(cs:List Value):Prop:=cs.length=ds.length∧∀i (h:i<ds.length) (h':i<cs.length),DRep M ds[i] cs[i]
theorem dM.nil{M:ax}:dM M [] []:=⟨rfl,fun i h=>by simp at h⟩
theorem dM.cons{M:ax}{d:D}{v:Value}{ds:List D}{cs:List Value}(h:DRep M d v)(hs:dM M ds cs):dM M (d::ds) (v::cs):=
 ⟨by simp[hs.1],fun i h1 h2=>by
   cases i with
   | zero=>exact h
   | succ i=>exact hs.2 i (by simpa using h1) (by simpa using h2)⟩
theorem dM.append{M:ax}{ds ds':List D}{cs cs':List Value}(h:dM M ds cs)(h':dM M ds' cs'):dM M (ds++ds') (cs++cs'):=by
 refine⟨by simp[h.1,h'.1],fun i h1 h2=>?_⟩;by_cases hi:i<ds.length
 ·rw[JO hi,JO (by rw[h.1];exact hi)];exact h.2 i _ _
 ·rw[JM (by omega),JM (by rw[h.1];omega)];have hl:=h.1;simp only[hl];exact h'.2 (i-ds.length) (by simp at h1;omega) (by simp at h2;omega)
theorem dM.rep{M:ax}{bm:List Nat}{ds:List D}{cs:List Value}(h:dM M ds cs):Rep M bm (.agg (ds.map V.d)) (.agg cs.toArray):=by
 refine .agg (by simp[h.1]) (fun i g g'=>?_) (fun v hv=>?_)
 ·simp only[JK];exact .d (h.2 i (by simpa using g) g')
 ·obtain⟨i,hi,rfl⟩:=JP hv;exact(h.2 i (by rw[←h.1];exact hi) hi).one
theorem kG{w:World}{a:Addr}{v:Value}(h:w.cell? a=some v):a.spot=none:=by
 unfold World.cell? at h;split at h
 ·split at h
  ·cases h
  ·rename_i hs;simpa using hs
 ·cases h
section
variable {H : Type} {enc : TypeId × Value → H} {P : Program} {W : World} {base : Nat} {spare : Nat → Bool} {held : Bool} {fuel : Nat} {t : TypeId} {cs : List Value} {x : DataW H × List MemPlace}
theorem cT(hu:P.underlying t=some (.int .i64))(h:DataW.trod enc P W base spare held fuel t cs=some x):∃n,cs=[.int .i64 n]∧cR (.int .i64 n):=by
 obtain⟨n,rfl,-,w0⟩:=DataW.trod_int hu h;exact⟨n,rfl,by simpa[cR,Lit.wf,IntKind.min,IntKind.max,IntKind.signed,IntKind.bits]using w0⟩
theorem d5(hu:P.underlying t=some .string)(h:DataW.trod enc P W base spare held fuel t cs=some x):∃s:ByteArray,cs=[.string s]∧cR (.string s):=by
 obtain⟨n,rfl,-,w0⟩:=DataW.trod_string hu h;exact⟨n,rfl,w0⟩
theorem ti(hu:P.underlying t=some .bool)(h:DataW.trod enc P W base spare held fuel t cs=some x):∃b,cs=[.bool b]:=by
 obtain⟨n,rfl,-⟩:=DataW.trod_bool hu h;exact⟨n,rfl⟩
theorem qI{e:TypeId}{k:Nat}(hu:P.underlying t=some (.slice e))(hk:P.cellsOf e=k)(hk0:0<k){α:Type}[Inhabited α](dr:α→List D)(hdr:∀a,(dr a).length=k)
 (h:DataW.trod enc P W base spare held fuel t cs=some x)(he:∀n,n<fuel→∀cs' y,DataW.trod enc P W base spare held n e cs'=some y→∃a,dM (mem W) (dr a) cs'):
 ∃(l:List α) (v:Value),cs=[v]∧DRep (mem W) (.sl (l.map dr)) v:=by
 rcases DataW.trod_slice hu h with⟨rfl,-⟩|⟨ad,len,cap,elems,rest,n',hn',rfl,-,hb,hl,hm,hlen2,hel,-,-⟩
 ·exact⟨[],_,rfl,DRep.nil _⟩
 ·have hsp:0<len→ad.spot=none:=by
   intro hi;have h1:=hel 0 hi;rw[hk,JH (by omega)]at h1;obtain⟨cs',hc,ht⟩:=Option.bind_eq_some_iff.1 h1;obtain⟨-,hcl,hcc⟩:=World.cells?_some hc;have h2:=hcc 0 hk0;rw[JH (by omega)]at h2;have h3:=kG h2;simpa[Addr.add]using h3
  have hall:∀i,i<len→∃q:α×List Value,ad.spot=none∧(∀j,j<k→mem W ad.block (ad.off+i*k+j)=some (q.2[j]?.getD .nilIface))∧q.2.length=k∧dM (mem W) (dr q.1) q.2:=by
   intro i hi;have h1:=hel i hi;rw[hk,JH (by omega)]at h1;obtain⟨cs',hc,ht⟩:=Option.bind_eq_some_iff.1 h1;obtain⟨a,ha⟩:=he n' (by omega) cs' _ ht;obtain⟨-,hcl,hcc⟩:=World.cells?_some hc;have hs0:=hsp (by omega);refine⟨(a,cs'),hs0,fun j hj=>?_,hcl,ha⟩;have h2:=hcc j hj;rw[JH (by omega)]at h2
   have ha:(ad.add (i*k)).add j=⟨ad.block,ad.off+i*k+j,none⟩:=by
    cases ad;simp only at hs0;subst hs0;unfold Addr.add;by_cases h1:i*k=0
    ·by_cases h2:j=0
     ·subst h2;simp[h1]
     ·simp[h1,h2]
    ·by_cases h2:j=0
     ·subst h2;simp[h1]
     ·simp[h1,h2]
   rw[ha]at h2;show mem W _ _=some (cs'[j]?.getD .nilIface);rw[JH (by omega),JT];exact h2
  obtain⟨f,hfx⟩:=Go.Deep.choose_lt hall;refine⟨(JL len).map fun i=>(f i).1,_,rfl,?_⟩;have hlen:(((JL len).map fun i=>(f i).1).map dr).length=len:=by simp
  generalize hrs:((JL len).map fun i=>(f i).1).map dr=rows at hlen;have hri:∀i (h:i<rows.length),rows[i]=dr (f i).1:=fun i h=>by subst hrs;simp
  subst hlen;refine .sl rows k (some ad) cap (fun i j=>(f i).2[j]?.getD .nilIface) (fun r hr=>?_) (fun i j hi hj=>?_) (fun i hi=>?_) hl hm
  ·obtain⟨i,hi,rfl⟩:=JP hr;rw[hri i hi];exact hdr _
  ·obtain⟨k1,k2,k3,k4⟩:=hfx i hi;have hjk:j<k:=by rw[hri i hi,hdr]at hj;exact hj
   simp only[hri i hi];rw[JH (by omega:j<(f i).2.length),JT];exact k4.2 j (by rw[hdr];exact hjk) (by omega)
  ·obtain⟨k1,k2,k3,k4⟩:=hfx i hi;exact⟨ad.block,ad.off,by cases ad;simp_all,fun j hj=>k2 j hj⟩
end
end Go.Proofs.YthoebpnbhgmoiaaGreatDoor
namespace Go.Proofs.YthoebpnbhgmoiaaGreatDoor
open Go.RowKit
theorem zQ{w:World}(h:jf w):G.glob (mem w) (fun b=>b<w.heap.size) w:=by
 refine⟨?_,fun g p hg=>by cases hg⟩;intro g cs hg
 have h1:g=0∧cs=[aQ cD]:=by
  change (if g=0 then some [aQ cD]else none)=some cs at hg;split at hg
  ·rename_i h;exact⟨h,by simpa using hg.symm⟩
  ·cases hg
 obtain⟨rfl,rfl⟩:=h1;obtain⟨v,h2,p,cap,rfl,h4,h5,h6⟩:=h;refine⟨fun _=>.slice p cD.length cap,fun j hj=>?_,fun j hj=>?_⟩
 ·have hj0:j=0:=by simpa using hj
  subst hj0;exact h2
 ·have hj0:j=0:=by simpa using hj
  subst hj0;have hlen:cD.length=(cD.map fun s=>[al s]).length:=by simp
  simp only[JI,aQ];rw[hlen];refine .sl _ 1 p cap (fun i _=>.string (cD[i]?.getD ⟨#[]⟩)) (fun r hr=>?_) (fun i j hi hj=>?_) (fun i hi=>?_) (by omega) h5
  ·obtain⟨s,-,rfl⟩:=List.mem_map.1 hr;rfl
  ·have hi':i<cD.length:=by simpa using hi
   have hj0:j=0:=by simpa using hj
   subst hj0;simp only[JK,JI,JH hi',JT];exact .lit _ ((of_decide_eq_true (by decide +kernel):∀s,s∈cD→s.size≤maxLen) _ (JJ hi'))
  ·have hi':i<cD.length:=by simpa using hi
   obtain⟨b,off,h7,h8⟩:=h6 i _ (JH hi');refine⟨b,off,h7,fun j hj=>?_⟩;have hj0:j=0:=by omega
   subst hj0;simp only[JH hi',JT];simpa[mem]using h8
theorem fA{f:FuncId}{args:List V}{vs:List Value}{u:Value}{w:World}(hk:jf w)(h:Fun G f args [] (aO (.d (.lit u)) []))(hl:vs.length=args.length)
 (hr:∀i (h:i<args.length) (h':i<vs.length),Rep (mem w) [] args[i] vs[i]):Calls Tryz.prog f vs.toArray w fun e w'=>e=.returned u∧Ext w w':=by
 refine(h.2 _ _ _ _ _ _ (zQ hk) (wR w) (fun _=>rfl) hl hr).mono fun e w' ⟨M',bm',tk',σ',o,⟨h1,h2⟩,h3,h4,h5⟩=>?_;subst h1;obtain⟨v,h6,h7,-⟩:=h5.1 _ rfl;cases h7 with
 | d h7=>
 cases h7 with
 | lit _ _=>exact⟨h6,h4.os,h4.tape,h4.output,h4.size,fun b hb=>h4.keep b hb⟩
theorem pD(e:Ex)(n:Int)(hn:0≤n)(hn':n≤1000)(σ:List (List V)):Fun G 17 [vex e,.d (ah n)] σ (aO (.d (.lit (.bool (decide (cnt e n≤n))))) σ):=
 ud Tryz.func17 (by kernel_rfl) (by kernel_rfl) trivial fun M bm w v v' hG hM hr hr'=>by
  cases hr' with
  | d hr'=>
  cases hr' with
  | lit _ _=>exact Cf e n v w hn hn' (fR hM hr)
theorem C5(a n:Int)(h0:0≤a)(h1:a<65536):0≤a/2^n.toNat∧a/2^n.toNat<65536:=by
 have hp:(0:Int)<2^n.toNat:=Int.pow_pos (by decide);refine⟨Int.ediv_nonneg h0 (by omega),?_⟩;have:=Int.ediv_le_self (2^n.toNat) h0;omega
def rm(a n:Int):Int:=if n<0∨16≤n then 0 else(a*2^n.toNat)%65536
def nW(a n:Int):Int:=if n<0∨16≤n then 0 else a/2^n.toNat
def kA:Nat→Nat→Nat
 | 0,_=>0
 | f+1,x=>x%2+kA f (x/2)
theorem uj(f:Nat):∀x,kA f x≤f:=by
 induction f with
 | zero=>intro x;simp[kA]
 | succ f ih=>intro x;have:=ih (x/2);simp only[kA];omega
structure Sig where
 name:ByteArray
 val:Int
def bK:List Sig→ByteArray→Option Int
 | [],_=>none
 | a::r,s=>if a.name=s then some (a.val%65536)else bK r s
def aB(a:ByteArray)(i:Nat):ByteArray:=⟨(a.data.toList++[91,(48+i).toUInt8,93]).toArray⟩
def atS(l:List Sig)(a:ByteArray)(i:Int):Option Int:=if 0≤i∧i<8 then bK l (aB a i.toNat)else none
theorem qR(l:List Sig)(s:ByteArray):0≤(bK l s).getD 0∧(bK l s).getD 0<65536:=by
 induction l with
 | nil=>simp[bK]
 | cons a r ih=>simp only[bK];split
                ·simp;omega
                ·exact ih
def fZ(l:List Sig)(a:ByteArray):Nat→Int
 | 0=>0
 | k+1=>(fZ l a k+(bK l (aB a k)).getD 0)%65536
def b2i(b:Bool):Int:=if b then 1 else 0
def kh(op a:Int):Int:=if op=4 then b2i (a==0)else if op=5 then 65535-a%65536 else if op=6 then(-a)%65536 else(kA 16 (a%65536).toNat:Nat)
def fv(op a b:Int):Int:=
 if op=7 then(a+b)%65536 else if op=8 then(a-b)%65536 else if op=9 then(a*b)%65536
 else if op=10 then((a.toNat &&& b.toNat:Nat):Int)else if op=11 then((a.toNat ||| b.toNat:Nat):Int)else if op=12 then((a.toNat ^^^ b.toNat:Nat):Int)
 else if op=13 then rm (a%65536) b else if op=14 then nW (a%65536) b
 else if op=15 then b2i (a==b)else if op=16 then b2i (a != b)else if op=17 then b2i (decide (a<b))else if op=18 then b2i (decide (a≤b))
 else if op=19 then b2i (a != 0&&b != 0)else if op=20 then b2i (a != 0||b != 0)else b2i (a==0||b != 0)
def ic(x:Int):List Int→Bool
 | a::b::r=>(decide (a≤x)&&decide (x≤b))||ic x r
 | _=>false
def kz(op:Int)(l:List Int):Int:=
 if op=22 then(match l with | [a,b,c]=>if a=0 then c else b|_=>0)
 else if op=23 then(match l with|x::r=>b2i (ic x r)|_=>0)
 else match l with | [a]=>kh op a | [a,b]=>fv op a b|_=>0
def jw(l:List Sig)(e:Ex):Bool:=(eC [2] e).all (fun s=>(bK l s).isSome)&&(eC [3,24] e).all (fun s=>(bK l (aB s 0)).isSome)
def gz(env:List Sig)(o n:Int)(s:ByteArray)(vs:List Int):Int:=
 if o=1 then n else if o=2 then(bK env s).getD 0 else if o=3 then(match vs with|x::_=>(atS env s x).getD 0 | []=>0)
 else if o=24 then fZ env s 8 else kz o vs
mutual
def cJ(env:List Sig):Ex→Int
 | .mk o n s l=>gz env o n s (dv env l)
def dv(env:List Sig):List Ex→List Int
 | []=>[]
 | a::r=>cJ env a::dv env r
end
theorem rH(env:List Sig)(l:List Ex):(dv env l).length=l.length:=by
 induction l with
 | nil=>rfl
 | cons a r ih=>simp[dv,ih]
theorem fg{l:List Ex}(h:gW l=0):∀a,a∈l→ed a=0:=by
 induction l with
 | nil=>intro a ha;cases ha
 | cons b r ih=>
  simp only[gW]at h;split at h
  ·rename_i hb;intro a ha;rcases List.mem_cons.1 ha with e|e
   ·rw[e];exact hb
   ·exact ih h a e
  ·rename_i hb;exact absurd h hb
theorem fE{o n:Int}{s:ByteArray}{l:List Ex}(h:ed (.mk o n s l)=0):aJ o n s l.length=0∧gW l=0:=by
 simp only[ed]at h;split at h
 ·exact⟨by assumption,h⟩
 ·rename_i hb;exact absurd h hb
theorem kK{o n:Int}{s:ByteArray}{k:Nat}(h:aJ o n s k=0):
 1≤o∧o≤25∧(o=1→0≤n∧n≤65535)∧cY o k=true∧(o=2→bv s=true)∧(o=3∨o=24→bH s=true)∧(¬o=1→n=0)∧(cf o=false→s.toList=[]):=by
 unfold aJ at h;split at h
 ·cases h
 ·split at h
  ·cases h
  ·split at h
   ·cases h
   ·split at h
    ·cases h
    ·rename_i h1 h2 h3 h4;refine⟨by omega,by omega,fun e=>by omega,?_,fun e=>?_,fun e=>?_,fun e=>by omega,fun e=>?_⟩
     ·cases hb:cY o k with
      | true=>rfl
      | false=>exact absurd (.inr hb) h3
     ·cases hb:bv s with
      | true=>rfl
      | false=>exact absurd (.inl ⟨e,hb⟩) h4
     ·cases hb:bH s with
      | true=>rfl
      | false=>exact absurd (.inr ⟨e,hb⟩) h4
     ·apply Classical.byContradiction;intro hn;exact h3 (.inl ⟨e,hn⟩)
theorem dC{s:ByteArray}(h:bH s=true):s.size≤16:=by simp[bH]at h;exact h.1.2
def Wd(x:Int):Prop:=0≤x∧x<65536
theorem Wd.ite{c:Prop}[Decidable c]{x y:Int}(h1:Wd x)(h2:Wd y):Wd (if c then x else y):=by split<;>assumption
theorem Wd.mod(x:Int):Wd (x%65536):=⟨by omega,by omega⟩
theorem sM(b:Bool):Wd (b2i b):=by cases b<;>simp[b2i,Wd]
theorem sE(o a:Int):Wd (kh o a):=by
 unfold kh;have:=uj 16 (a%65536).toNat;repeat' (first|exact sM _|exact Wd.mod _|refine Wd.ite ?_ ?_|exact⟨by omega,by omega⟩)
theorem A5(a n:Int):Wd (rm a n):=by unfold rm;exact Wd.ite ⟨by omega,by omega⟩ (Wd.mod _)
theorem Ca(a n:Int)(h:Wd a):Wd (nW a n):=by unfold nW;exact Wd.ite ⟨by omega,by omega⟩ (C5 a n h.1 h.2)
theorem rY(o a b:Int)(h:Wd a)(h':Wd b):Wd (fv o a b):=by
 obtain⟨h0,h1⟩:=h;obtain⟨h2,h3⟩:=h';obtain⟨a,rfl⟩:=Int.eq_ofNat_of_zero_le h0;obtain⟨b,rfl⟩:=Int.eq_ofNat_of_zero_le h2;have e1:a &&& b<2^16:=Nat.and_lt_two_pow _ (by omega);have e2:a ||| b<2^16:=Nat.or_lt_two_pow (by omega) (by omega)
 have e3:a ^^^ b<2^16:=Nat.xor_lt_two_pow (by omega) (by omega);unfold fv;simp only[Int.toNat_natCast];repeat' (first|exact sM _|exact Wd.mod _|exact A5 _ _|exact Ca _ _ (Wd.mod _)|refine Wd.ite ?_ ?_|exact⟨by omega,by omega⟩)
theorem z8(o:Int)(l:List Int)(h:∀x,x∈l→Wd x):Wd (kz o l):=by
 have z:Wd 0:=⟨by omega,by omega⟩
 unfold kz;refine Wd.ite ?_ (Wd.ite ?_ ?_)
 ·split
  ·exact Wd.ite (h _ (by simp)) (h _ (by simp))
  ·exact z
 ·split
  ·exact sM _
  ·exact z
 ·split
  ·exact sE _ _
  ·exact rY _ _ _ (h _ (by simp)) (h _ (by simp))
  ·exact z
theorem qh(l:List Sig)(s:ByteArray):Wd ((bK l s).getD 0):=qR l s
theorem EG(l:List Sig)(s:ByteArray)(i:Int):Wd ((atS l s i).getD 0):=by
 unfold atS;split
 ·exact qh _ _
 ·exact⟨by simp,by simp⟩
theorem nR(l:List Sig)(s:ByteArray):∀k,Wd (fZ l s k)
 | 0=>⟨by simp[fZ],by simp[fZ]⟩
 | k+1=>Wd.mod _
theorem xO(env:List Sig)(o n:Int)(s:ByteArray)(vs:List Int)(hn:o=1→0≤n∧n≤65535)(h:∀x,x∈vs→Wd x):Wd (gz env o n s vs):=by
 unfold gz;by_cases h1:o=1
 ·rw[if_pos h1];have:=hn h1;exact⟨by omega,by omega⟩
 rw[if_neg h1];refine Wd.ite (qh _ _) (Wd.ite ?_ (Wd.ite (nR _ _ _) (z8 _ _ h)));split
 ·exact EG _ _ _
 ·exact⟨by omega,by omega⟩
theorem uq(env:List Sig)(e:Ex):ed e=0→Wd (cJ env e):=by
 induction e using Ex.ind with
 | h o n s l ih=>
  intro he;obtain⟨h1,h2⟩:=fE he;have hok:=kK h1
  have H:∀(r:List Ex),(∀a,a∈r→a∈l)→∀x,x∈dv env r→Wd x:=by
   intro r
   induction r with
   | nil=>intro _ x hx;cases hx
   | cons a r ihr=>
    intro hm x hx;simp only[dv,JS]at hx;rcases hx with e|hx
    ·rw[e];exact ih a (hm a (by simp)) (fg h2 a (hm a (by simp)))
    ·exact ihr (fun y hy=>hm y (by simp[hy])) x hx
  simp only[cJ];exact xO env o n s _ hok.2.2.1 (H l (fun _ h=>h))
theorem Ce(env:List Sig)(l:List Ex)(h:gW l=0):∀x,x∈dv env l→Wd x:=by
 induction l with
 | nil=>intro x hx;cases hx
 | cons a r ih=>
  intro x hx;have hm:=fg h;simp only[dv,JS]at hx;rcases hx with e|hx
  ·rw[e];exact uq env a (hm a (by simp))
  ·refine ih ?_ x hx;simp only[gW]at h;rw[if_pos (hm a (by simp))]at h;exact h
def ii(e:Ex)(env:List Sig):Int×Int:=if aX e=0 then(if jw env e=true then(cJ env e,0)else(0,7))else(0,1)
theorem cw{e:Ex}(h:aX e=0):ed e=0:=by
 unfold aX at h;split at h
 ·cases h
 ·exact h
end Go.Proofs.YthoebpnbhgmoiaaGreatDoor
