import Derived.Test.YthoebpnbhgmoiaaGreatDoorA20
import Derived.ProofKit
import Derived.Deep.Slices
import Derived.ChangeArms
import Derived.Test.YthoebpnbhgmoiaaGreatDoorBr8
import Derived.Test.YthoebpnbhgmoiaaGreatDoorData
import Derived.Test.YthoebpnbhgmoiaaGreatDoorRows
import Derived.WalkKit
import Derived.WalkSpells
import Derived.WalkLawsBesides
import Derived.Deep.QuietTactic
import Derived.BigQuiet
import Derived.Lib.SlBytesRow
import Derived.Deep.Light
set_option linter.unusedVariables false
set_option linter.unusedSimpArgs false
set_option linter.unusedSectionVars false
namespace Go.Proofs.YthoebpnbhgmoiaaGreatDoor
open Go.RowKit
def mem(w:World):Facts:=fun b o=>w.cell? ⟨b,o,none⟩
theorem mem_hold(w:World):(mem w).hold w:=fun _ _ _ h=>h
theorem inv_start(w:World):Inv (mem w) [] [] (fun _ _=>none) (fun b=>b<w.heap.size) w:=
 {facts:=mem_hold w,len:=rfl,box:=fun i b cs h=>by simp at h,free:=fun b h=>by simp at h,bmnd:=List.nodup_nil,
  tok:=fun i j g h=>(nomatch h),inj:=fun i j i' j' g h=>(nomatch h),prlt:=fun b h=>h}
def DReps(M:Facts)(ds:List D)(cs:List Value):Prop:=cs.length=ds.length∧∀i (h:i<ds.length) (h':i<cs.length),DRep M ds[i] cs[i]
theorem DReps.nil{M:Facts}:DReps M [] []:=⟨rfl,fun i h=>by simp at h⟩
theorem DReps.cons{M:Facts}{d:D}{v:Value}{ds:List D}{cs:List Value}(h:DRep M d v)(hs:DReps M ds cs):DReps M (d::ds) (v::cs):=
 ⟨by simp[hs.1],fun i h1 h2=>by
   cases i with
   | zero=>exact h
   | succ i=>exact hs.2 i (by simpa using h1) (by simpa using h2)⟩
theorem DReps.append{M:Facts}{ds ds':List D}{cs cs':List Value}(h:DReps M ds cs)(h':DReps M ds' cs'):DReps M (ds++ds') (cs++cs'):=by
 refine⟨by simp[h.1,h'.1],fun i h1 h2=>?_⟩;by_cases hi:i<ds.length
 ·rw[List.getElem_append_left hi,List.getElem_append_left (by rw[h.1];exact hi)];exact h.2 i _ _
 ·rw[List.getElem_append_right (by omega),List.getElem_append_right (by rw[h.1];omega)];have hl:=h.1;simp only[hl];exact h'.2 (i-ds.length) (by simp at h1;omega) (by simp at h2;omega)
theorem DReps.rep{M:Facts}{bm:List Nat}{ds:List D}{cs:List Value}(h:DReps M ds cs):Rep M bm (.agg (ds.map V.d)) (.agg cs.toArray):=by
 refine .agg (by simp[h.1]) (fun i g g'=>?_) (fun v hv=>?_)
 ·simp only[List.getElem_map];exact .d (h.2 i (by simpa using g) g')
 ·obtain⟨i,hi,rfl⟩:=List.getElem_of_mem hv;exact(h.2 i (by rw[←h.1];exact hi) hi).one
theorem spot_of_cell{w:World}{a:Addr}{v:Value}(h:w.cell? a=some v):a.spot=none:=by
 unfold World.cell? at h;split at h
 ·split at h
  ·cases h
  ·rename_i hs;simpa using hs
 ·cases h
section
variable {H : Type} {enc : TypeId × Value → H} {P : Program} {W : World} {base : Nat} {spare : Nat → Bool} {held : Bool} {fuel : Nat} {t : TypeId} {cs : List Value} {x : DataW H × List MemPlace}
theorem int_reads(hu:P.underlying t=some (.int .i64))(h:DataW.trod enc P W base spare held fuel t cs=some x):∃n,cs=[.int .i64 n]∧Fits (.int .i64 n):=by
 obtain⟨n,rfl,-,w0⟩:=DataW.trod_int hu h;exact⟨n,rfl,by simpa[Fits,Lit.wf,IntKind.min,IntKind.max,IntKind.signed,IntKind.bits]using w0⟩
theorem str_reads(hu:P.underlying t=some .string)(h:DataW.trod enc P W base spare held fuel t cs=some x):∃s:ByteArray,cs=[.string s]∧Fits (.string s):=by
 obtain⟨n,rfl,-,w0⟩:=DataW.trod_string hu h;exact⟨n,rfl,w0⟩
theorem bool_reads(hu:P.underlying t=some .bool)(h:DataW.trod enc P W base spare held fuel t cs=some x):∃b,cs=[.bool b]:=by
 obtain⟨n,rfl,-⟩:=DataW.trod_bool hu h;exact⟨n,rfl⟩
theorem slice_reads{e:TypeId}{k:Nat}(hu:P.underlying t=some (.slice e))(hk:P.cellsOf e=k)(hk0:0<k){α:Type}[Inhabited α](dr:α→List D)(hdr:∀a,(dr a).length=k)
 (h:DataW.trod enc P W base spare held fuel t cs=some x)(he:∀n,n<fuel→∀cs' y,DataW.trod enc P W base spare held n e cs'=some y→∃a,DReps (mem W) (dr a) cs'):
 ∃(l:List α) (v:Value),cs=[v]∧DRep (mem W) (.sl (l.map dr)) v:=by
 rcases DataW.trod_slice hu h with⟨rfl,-⟩|⟨ad,len,cap,elems,rest,n',hn',rfl,-,hb,hl,hm,hlen2,hel,-,-⟩
 ·exact⟨[],_,rfl,DRep.nil _⟩
 ·have hsp:0<len→ad.spot=none:=by
   intro hi;have h1:=hel 0 hi;rw[hk,List.getElem?_eq_getElem (by omega)]at h1;obtain⟨cs',hc,ht⟩:=Option.bind_eq_some_iff.1 h1;obtain⟨-,hcl,hcc⟩:=World.cells?_some hc;have h2:=hcc 0 hk0;rw[List.getElem?_eq_getElem (by omega)]at h2;have h3:=spot_of_cell h2;simpa[Addr.add]using h3
  have hall:∀i,i<len→∃q:α×List Value,ad.spot=none∧(∀j,j<k→mem W ad.block (ad.off+i*k+j)=some (q.2[j]?.getD .nilIface))∧q.2.length=k∧DReps (mem W) (dr q.1) q.2:=by
   intro i hi;have h1:=hel i hi;rw[hk,List.getElem?_eq_getElem (by omega)]at h1;obtain⟨cs',hc,ht⟩:=Option.bind_eq_some_iff.1 h1;obtain⟨a,ha⟩:=he n' (by omega) cs' _ ht;obtain⟨-,hcl,hcc⟩:=World.cells?_some hc;have hs0:=hsp (by omega);refine⟨(a,cs'),hs0,fun j hj=>?_,hcl,ha⟩;have h2:=hcc j hj;rw[List.getElem?_eq_getElem (by omega)]at h2
   have ha:(ad.add (i*k)).add j=⟨ad.block,ad.off+i*k+j,none⟩:=by
    cases ad;simp only at hs0;subst hs0;unfold Addr.add;by_cases h1:i*k=0
    ·by_cases h2:j=0
     ·subst h2;simp[h1]
     ·simp[h1,h2]
    ·by_cases h2:j=0
     ·subst h2;simp[h1]
     ·simp[h1,h2]
   rw[ha]at h2;show mem W _ _=some (cs'[j]?.getD .nilIface);rw[List.getElem?_eq_getElem (by omega),Option.getD_some];exact h2
  obtain⟨f,hfx⟩:=Go.Deep.choose_lt hall;refine⟨(List.range len).map fun i=>(f i).1,_,rfl,?_⟩;have hlen:(((List.range len).map fun i=>(f i).1).map dr).length=len:=by simp
  generalize hrs:((List.range len).map fun i=>(f i).1).map dr=rows at hlen;have hri:∀i (h:i<rows.length),rows[i]=dr (f i).1:=fun i h=>by subst hrs;simp
  subst hlen;refine .sl rows k (some ad) cap (fun i j=>(f i).2[j]?.getD .nilIface) (fun r hr=>?_) (fun i j hi hj=>?_) (fun i hi=>?_) hl hm
  ·obtain⟨i,hi,rfl⟩:=List.getElem_of_mem hr;rw[hri i hi];exact hdr _
  ·obtain⟨k1,k2,k3,k4⟩:=hfx i hi;have hjk:j<k:=by rw[hri i hi,hdr]at hj;exact hj
   simp only[hri i hi];rw[List.getElem?_eq_getElem (by omega:j<(f i).2.length),Option.getD_some];exact k4.2 j (by rw[hdr];exact hjk) (by omega)
  ·obtain⟨k1,k2,k3,k4⟩:=hfx i hi;exact⟨ad.block,ad.off,by cases ad;simp_all,fun j hj=>k2 j hj⟩
end
end Go.Proofs.YthoebpnbhgmoiaaGreatDoor
namespace Go.Proofs.YthoebpnbhgmoiaaGreatDoor
open Go.RowKit
theorem glob_mem{w:World}(h:Keys w):G.glob (mem w) (fun b=>b<w.heap.size) w:=by
 refine⟨?_,fun g p hg=>by cases hg⟩;intro g cs hg
 have h1:g=0∧cs=[dstrs kwList]:=by
  change (if g=0 then some [dstrs kwList]else none)=some cs at hg;split at hg
  ·rename_i h;exact⟨h,by simpa using hg.symm⟩
  ·cases hg
 obtain⟨rfl,rfl⟩:=h1;obtain⟨v,h2,p,cap,rfl,h4,h5,h6⟩:=h;refine⟨fun _=>.slice p kwList.length cap,fun j hj=>?_,fun j hj=>?_⟩
 ·have hj0:j=0:=by simpa using hj
  subst hj0;exact h2
 ·have hj0:j=0:=by simpa using hj
  subst hj0;have hlen:kwList.length=(kwList.map fun s=>[dstr s]).length:=by simp
  simp only[List.getElem_cons_zero,dstrs];rw[hlen];refine .sl _ 1 p cap (fun i _=>.string (kwList[i]?.getD ⟨#[]⟩)) (fun r hr=>?_) (fun i j hi hj=>?_) (fun i hi=>?_) (by omega) h5
  ·obtain⟨s,-,rfl⟩:=List.mem_map.1 hr;rfl
  ·have hi':i<kwList.length:=by simpa using hi
   have hj0:j=0:=by simpa using hj
   subst hj0;simp only[List.getElem_map,List.getElem_cons_zero,List.getElem?_eq_getElem hi',Option.getD_some];exact .lit _ ((of_decide_eq_true (by decide +kernel):∀s,s∈kwList→s.size≤maxLen) _ (List.getElem_mem hi'))
  ·have hi':i<kwList.length:=by simpa using hi
   obtain⟨b,off,h7,h8⟩:=h6 i _ (List.getElem?_eq_getElem hi');refine⟨b,off,h7,fun j hj=>?_⟩;have hj0:j=0:=by omega
   subst hj0;simp only[List.getElem?_eq_getElem hi',Option.getD_some];simpa[mem]using h8
theorem calls_of_fun{f:FuncId}{args:List V}{vs:List Value}{u:Value}{w:World}(hk:Keys w)(h:Fun G f args [] (RetV (.d (.lit u)) []))(hl:vs.length=args.length)
 (hr:∀i (h:i<args.length) (h':i<vs.length),Rep (mem w) [] args[i] vs[i]):Calls Tryz.prog f vs.toArray w fun e w'=>e=.returned u∧Ext w w':=by
 refine(h.2 _ _ _ _ _ _ (glob_mem hk) (inv_start w) (fun _=>rfl) hl hr).mono fun e w' ⟨M',bm',tk',σ',o,⟨h1,h2⟩,h3,h4,h5⟩=>?_;subst h1;obtain⟨v,h6,h7,-⟩:=h5.1 _ rfl;cases h7 with
 | d h7=>
 cases h7 with
 | lit _ _=>exact⟨h6,h4.os,h4.tape,h4.output,h4.size,fun b hb=>h4.keep b hb⟩
theorem fun_few(e:Ex)(n:Int)(hn:0≤n)(hn':n≤1000)(σ:List (List V)):Fun G 17 [vex e,.d (dint n)] σ (RetV (.d (.lit (.bool (decide (cnt e n≤n))))) σ):=
 fun_of2 Tryz.func17 (by kernel_rfl) (by kernel_rfl) trivial fun M bm w v v' hG hM hr hr'=>by
  cases hr' with
  | d hr'=>
  cases hr' with
  | lit _ _=>exact few_any e n v w hn hn' (exval_of hM hr)
theorem shr_bd(a n:Int)(h0:0≤a)(h1:a<65536):0≤a/2^n.toNat∧a/2^n.toNat<65536:=by
 have hp:(0:Int)<2^n.toNat:=Int.pow_pos (by decide);refine⟨Int.ediv_nonneg h0 (by omega),?_⟩;have:=Int.ediv_le_self (2^n.toNat) h0;omega
def shlS(a n:Int):Int:=if n<0∨16≤n then 0 else(a*2^n.toNat)%65536
def shrS(a n:Int):Int:=if n<0∨16≤n then 0 else a/2^n.toNat
def popc:Nat→Nat→Nat
 | 0,_=>0
 | f+1,x=>x%2+popc f (x/2)
theorem popc_le(f:Nat):∀x,popc f x≤f:=by
 induction f with
 | zero=>intro x;simp[popc]
 | succ f ih=>intro x;have:=ih (x/2);simp only[popc];omega
structure Sig where
 name:ByteArray
 val:Int
def findS:List Sig→ByteArray→Option Int
 | [],_=>none
 | a::r,s=>if a.name=s then some (a.val%65536)else findS r s
def elemName(a:ByteArray)(i:Nat):ByteArray:=⟨(a.data.toList++[91,(48+i).toUInt8,93]).toArray⟩
def atS(l:List Sig)(a:ByteArray)(i:Int):Option Int:=if 0≤i∧i<8 then findS l (elemName a i.toNat)else none
theorem findS_bd(l:List Sig)(s:ByteArray):0≤(findS l s).getD 0∧(findS l s).getD 0<65536:=by
 induction l with
 | nil=>simp[findS]
 | cons a r ih=>simp only[findS];split
                ·simp;omega
                ·exact ih
def sumTo(l:List Sig)(a:ByteArray):Nat→Int
 | 0=>0
 | k+1=>(sumTo l a k+(findS l (elemName a k)).getD 0)%65536
def b2i(b:Bool):Int:=if b then 1 else 0
def singleS(op a:Int):Int:=if op=4 then b2i (a==0)else if op=5 then 65535-a%65536 else if op=6 then(-a)%65536 else(popc 16 (a%65536).toNat:Nat)
def doubleS(op a b:Int):Int:=
 if op=7 then(a+b)%65536 else if op=8 then(a-b)%65536 else if op=9 then(a*b)%65536
 else if op=10 then((a.toNat &&& b.toNat:Nat):Int)else if op=11 then((a.toNat ||| b.toNat:Nat):Int)else if op=12 then((a.toNat ^^^ b.toNat:Nat):Int)
 else if op=13 then shlS (a%65536) b else if op=14 then shrS (a%65536) b
 else if op=15 then b2i (a==b)else if op=16 then b2i (a != b)else if op=17 then b2i (decide (a<b))else if op=18 then b2i (decide (a≤b))
 else if op=19 then b2i (a != 0&&b != 0)else if op=20 then b2i (a != 0||b != 0)else b2i (a==0||b != 0)
def insideL(x:Int):List Int→Bool
 | a::b::r=>(decide (a≤x)&&decide (x≤b))||insideL x r
 | _=>false
def operS(op:Int)(l:List Int):Int:=
 if op=22 then(match l with | [a,b,c]=>if a=0 then c else b|_=>0)
 else if op=23 then(match l with|x::r=>b2i (insideL x r)|_=>0)
 else match l with | [a]=>singleS op a | [a,b]=>doubleS op a b|_=>0
end Go.Proofs.YthoebpnbhgmoiaaGreatDoor
