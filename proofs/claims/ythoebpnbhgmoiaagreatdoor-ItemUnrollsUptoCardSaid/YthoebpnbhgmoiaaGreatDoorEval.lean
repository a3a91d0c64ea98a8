import Derived.Test.YthoebpnbhgmoiaaGreatDoorA20
import Derived.ProofKit
import Derived.Deep.Slices
import Derived.ChangeArms
import Derived.Test.YthoebpnbhgmoiaaGreatDoorBr8
import Derived.Test.YthoebpnbhgmoiaaGreatDoorData
import Derived.Test.YthoebpnbhgmoiaaGreatDoorRows
import Derived.WalkKit
import Derived.WalkSpells
import Derived.WalkLawsBesides
import Derived.Deep.QuietTactic
import Derived.BigQuiet
import Derived.Lib.SlBytesRow
import Derived.Deep.Light
import Derived.Test.YthoebpnbhgmoiaaGreatDoorNames2
set_option linter.unusedVariables false
set_option linter.unusedSimpArgs false
set_option linter.unusedSectionVars false
namespace Go.Proofs.YthoebpnbhgmoiaaGreatDoor
open Go.RowKit
def mem(w:World):Facts:=fun b o=>w.cell? ⟨b,o,none⟩
theorem mem_hold(w:World):(mem w).hold w:=fun _ _ _ h=>h
theorem inv_start(w:World):Inv (mem w) [] [] (fun _ _=>none) (fun b=>b<w.heap.size) w:=
 {facts:=mem_hold w,len:=rfl,box:=fun i b cs h=>by simp at h,free:=fun b h=>by simp at h,bmnd:=List.nodup_nil,
  tok:=fun i j g h=>(nomatch h),inj:=fun i j i' j' g h=>(nomatch h),prlt:=fun b h=>h}
def DReps(M:Facts)(ds:List D)(cs:List Value):Prop:=cs.length=ds.length∧∀i (h:i<ds.length) (h':i<cs.length),DRep M ds[i] cs[i]
theorem DReps.nil{M:Facts}:DReps M [] []:=⟨rfl,fun i h=>by simp at h⟩
theorem DReps.cons{M:Facts}{d:D}{v:Value}{ds:List D}{cs:List Value}(h:DRep M d v)(hs:DReps M ds cs):DReps M (d::ds) (v::cs):=
 ⟨by simp[hs.1],fun i h1 h2=>by
   cases i with
   | zero=>exact h
   | succ i=>exact hs.2 i (by simpa using h1) (by simpa using h2)⟩
theorem DReps.append{M:Facts}{ds ds':List D}{cs cs':List Value}(h:DReps M ds cs)(h':DReps M ds' cs'):DReps M (ds++ds') (cs++cs'):=by
 refine⟨by simp[h.1,h'.1],fun i h1 h2=>?_⟩;by_cases hi:i<ds.length
 ·rw[List.getElem_append_left hi,List.getElem_append_left (by rw[h.1];exact hi)];exact h.2 i _ _
 ·rw[List.getElem_append_right (by omega),List.getElem_append_right (by rw[h.1];omega)];have hl:=h.1;simp only[hl];exact h'.2 (i-ds.length) (by simp at h1;omega) (by simp at h2;omega)
theorem DReps.rep{M:Facts}{bm:List Nat}{ds:List D}{cs:List Value}(h:DReps M ds cs):Rep M bm (.agg (ds.map V.d)) (.agg cs.toArray):=by
 refine .agg (by simp[h.1]) (fun i g g'=>?_) (fun v hv=>?_)
 ·simp only[List.getElem_map];exact .d (h.2 i (by simpa using g) g')
 ·obtain⟨i,hi,rfl⟩:=List.getElem_of_mem hv;exact(h.2 i (by rw[←h.1];exact hi) hi).one
theorem spot_of_cell{w:World}{a:Addr}{v:Value}(h:w.cell? a=some v):a.spot=none:=by
 unfold World.cell? at h;split at h
 ·split at h
  ·cases h
  ·rename_i hs;simpa using hs
 ·cases h
section
variable {H : Type} {enc : TypeId × Value → H} {P : Program} {W : World} {base : Nat} {spare : Nat → Bool} {held : Bool} {fuel : Nat} {t : TypeId} {cs : List Value} {x : DataW H × List MemPlace}
theorem int_reads(hu:P.underlying t=some (.int .i64))(h:DataW.trod enc P W base spare held fuel t cs=some x):∃n,cs=[.int .i64 n]∧Fits (.int .i64 n):=by
 obtain⟨n,rfl,-,w0⟩:=DataW.trod_int hu h;exact⟨n,rfl,by simpa[Fits,Lit.wf,IntKind.min,IntKind.max,IntKind.signed,IntKind.bits]using w0⟩
theorem str_reads(hu:P.underlying t=some .string)(h:DataW.trod enc P W base spare held fuel t cs=some x):∃s:ByteArray,cs=[.string s]∧Fits (.string s):=by
 obtain⟨n,rfl,-,w0⟩:=DataW.trod_string hu h;exact⟨n,rfl,w0⟩
theorem bool_reads(hu:P.underlying t=some .bool)(h:DataW.trod enc P W base spare held fuel t cs=some x):∃b,cs=[.bool b]:=by
 obtain⟨n,rfl,-⟩:=DataW.trod_bool hu h;exact⟨n,rfl⟩
theorem slice_reads{e:TypeId}{k:Nat}(hu:P.underlying t=some (.slice e))(hk:P.cellsOf e=k)(hk0:0<k){α:Type}[Inhabited α](dr:α→List D)(hdr:∀a,(dr a).length=k)
 (h:DataW.trod enc P W base spare held fuel t cs=some x)(he:∀n,n<fuel→∀cs' y,DataW.trod enc P W base spare held n e cs'=some y→∃a,DReps (mem W) (dr a) cs'):
 ∃(l:List α) (v:Value),cs=[v]∧DRep (mem W) (.sl (l.map dr)) v:=by
 rcases DataW.trod_slice hu h with⟨rfl,-⟩|⟨ad,len,cap,elems,rest,n',hn',rfl,-,hb,hl,hm,hlen2,hel,-,-⟩
 ·exact⟨[],_,rfl,DRep.nil _⟩
 ·have hsp:0<len→ad.spot=none:=by
   intro hi;have h1:=hel 0 hi;rw[hk,List.getElem?_eq_getElem (by omega)]at h1;obtain⟨cs',hc,ht⟩:=Option.bind_eq_some_iff.1 h1;obtain⟨-,hcl,hcc⟩:=World.cells?_some hc;have h2:=hcc 0 hk0;rw[List.getElem?_eq_getElem (by omega)]at h2;have h3:=spot_of_cell h2;simpa[Addr.add]using h3
  have hall:∀i,i<len→∃q:α×List Value,ad.spot=none∧(∀j,j<k→mem W ad.block (ad.off+i*k+j)=some (q.2[j]?.getD .nilIface))∧q.2.length=k∧DReps (mem W) (dr q.1) q.2:=by
   intro i hi;have h1:=hel i hi;rw[hk,List.getElem?_eq_getElem (by omega)]at h1;obtain⟨cs',hc,ht⟩:=Option.bind_eq_some_iff.1 h1;obtain⟨a,ha⟩:=he n' (by omega) cs' _ ht;obtain⟨-,hcl,hcc⟩:=World.cells?_some hc;have hs0:=hsp (by omega);refine⟨(a,cs'),hs0,fun j hj=>?_,hcl,ha⟩;have h2:=hcc j hj;rw[List.getElem?_eq_getElem (by omega)]at h2
   have ha:(ad.add (i*k)).add j=⟨ad.block,ad.off+i*k+j,none⟩:=by
    cases ad;simp only at hs0;subst hs0;unfold Addr.add;by_cases h1:i*k=0
    ·by_cases h2:j=0
     ·subst h2;simp[h1]
     ·simp[h1,h2]
    ·by_cases h2:j=0
     ·subst h2;simp[h1]
     ·simp[h1,h2]
   rw[ha]at h2;show mem W _ _=some (cs'[j]?.getD .nilIface);rw[List.getElem?_eq_getElem (by omega),Option.getD_some];exact h2
  obtain⟨f,hfx⟩:=Go.Deep.choose_lt hall;refine⟨(List.range len).map fun i=>(f i).1,_,rfl,?_⟩;have hlen:(((List.range len).map fun i=>(f i).1).map dr).length=len:=by simp
  generalize hrs:((List.range len).map fun i=>(f i).1).map dr=rows at hlen;have hri:∀i (h:i<rows.length),rows[i]=dr (f i).1:=fun i h=>by subst hrs;simp
  subst hlen;refine .sl rows k (some ad) cap (fun i j=>(f i).2[j]?.getD .nilIface) (fun r hr=>?_) (fun i j hi hj=>?_) (fun i hi=>?_) hl hm
  ·obtain⟨i,hi,rfl⟩:=List.getElem_of_mem hr;rw[hri i hi];exact hdr _
  ·obtain⟨k1,k2,k3,k4⟩:=hfx i hi;have hjk:j<k:=by rw[hri i hi,hdr]at hj;exact hj
   simp only[hri i hi];rw[List.getElem?_eq_getElem (by omega:j<(f i).2.length),Option.getD_some];exact k4.2 j (by rw[hdr];exact hjk) (by omega)
  ·obtain⟨k1,k2,k3,k4⟩:=hfx i hi;exact⟨ad.block,ad.off,by cases ad;simp_all,fun j hj=>k2 j hj⟩
end
end Go.Proofs.YthoebpnbhgmoiaaGreatDoor
namespace Go.Proofs.YthoebpnbhgmoiaaGreatDoor
open Go.RowKit
theorem glob_mem{w:World}(h:Keys w):G.glob (mem w) (fun b=>b<w.heap.size) w:=by
 refine⟨?_,fun g p hg=>by cases hg⟩;intro g cs hg
 have h1:g=0∧cs=[dstrs kwList]:=by
  change (if g=0 then some [dstrs kwList]else none)=some cs at hg;split at hg
  ·rename_i h;exact⟨h,by simpa using hg.symm⟩
  ·cases hg
 obtain⟨rfl,rfl⟩:=h1;obtain⟨v,h2,p,cap,rfl,h4,h5,h6⟩:=h;refine⟨fun _=>.slice p kwList.length cap,fun j hj=>?_,fun j hj=>?_⟩
 ·have hj0:j=0:=by simpa using hj
  subst hj0;exact h2
 ·have hj0:j=0:=by simpa using hj
  subst hj0;have hlen:kwList.length=(kwList.map fun s=>[dstr s]).length:=by simp
  simp only[List.getElem_cons_zero,dstrs];rw[hlen];refine .sl _ 1 p cap (fun i _=>.string (kwList[i]?.getD ⟨#[]⟩)) (fun r hr=>?_) (fun i j hi hj=>?_) (fun i hi=>?_) (by omega) h5
  ·obtain⟨s,-,rfl⟩:=List.mem_map.1 hr;rfl
  ·have hi':i<kwList.length:=by simpa using hi
   have hj0:j=0:=by simpa using hj
   subst hj0;simp only[List.getElem_map,List.getElem_cons_zero,List.getElem?_eq_getElem hi',Option.getD_some];exact .lit _ ((of_decide_eq_true (by decide +kernel):∀s,s∈kwList→s.size≤maxLen) _ (List.getElem_mem hi'))
  ·have hi':i<kwList.length:=by simpa using hi
   obtain⟨b,off,h7,h8⟩:=h6 i _ (List.getElem?_eq_getElem hi');refine⟨b,off,h7,fun j hj=>?_⟩;have hj0:j=0:=by omega
   subst hj0;simp only[List.getElem?_eq_getElem hi',Option.getD_some];simpa[mem]using h8
theorem calls_of_fun{f:FuncId}{args:List V}{vs:List Value}{u:Value}{w:World}(hk:Keys w)(h:Fun G f args [] (RetV (.d (.lit u)) []))(hl:vs.length=args.length)
 (hr:∀i (h:i<args.length) (h':i<vs.length),Rep (mem w) [] args[i] vs[i]):Calls Tryz.prog f vs.toArray w fun e w'=>e=.returned u∧Ext w w':=by
 refine(h.2 _ _ _ _ _ _ (glob_mem hk) (inv_start w) (fun _=>rfl) hl hr).mono fun e w' ⟨M',bm',tk',σ',o,⟨h1,h2⟩,h3,h4,h5⟩=>?_;subst h1;obtain⟨v,h6,h7,-⟩:=h5.1 _ rfl;cases h7 with
 | d h7=>
 cases h7 with
 | lit _ _=>exact⟨h6,h4.os,h4.tape,h4.output,h4.size,fun b hb=>h4.keep b hb⟩
theorem fun_few(e:Ex)(n:Int)(hn:0≤n)(hn':n≤1000)(σ:List (List V)):Fun G 17 [vex e,.d (dint n)] σ (RetV (.d (.lit (.bool (decide (cnt e n≤n))))) σ):=
 fun_of2 Tryz.func17 (by kernel_rfl) (by kernel_rfl) trivial fun M bm w v v' hG hM hr hr'=>by
  cases hr' with
  | d hr'=>
  cases hr' with
  | lit _ _=>exact few_any e n v w hn hn' (exval_of hM hr)
structure Sig where
 name:ByteArray
 val:Int
def elemName(a:ByteArray)(i:Nat):ByteArray:=⟨(a.data.toList++[91,(48+i).toUInt8,93]).toArray⟩
theorem errL_mem{l:List Ex}(h:errL l=0):∀a,a∈l→errE a=0:=by
 induction l with
 | nil=>intro a ha;cases ha
 | cons b r ih=>
  simp only[errL]at h;split at h
  ·rename_i hb;intro a ha;rcases List.mem_cons.1 ha with e|e
   ·rw[e];exact hb
   ·exact ih h a e
  ·rename_i hb;exact absurd h hb
theorem errE_node{o n:Int}{s:ByteArray}{l:List Ex}(h:errE (.mk o n s l)=0):nodeErr o n s l.length=0∧errL l=0:=by
 simp only[errE]at h;split at h
 ·exact⟨by assumption,h⟩
 ·rename_i hb;exact absurd h hb
theorem node_ok{o n:Int}{s:ByteArray}{k:Nat}(h:nodeErr o n s k=0):
 1≤o∧o≤25∧(o=1→0≤n∧n≤65535)∧operB o k=true∧(o=2→isVarB s=true)∧(o=3∨o=24→nameB s=true)∧(¬o=1→n=0)∧(namedB o=false→s.toList=[]):=by
 unfold nodeErr at h;split at h
 ·cases h
 ·split at h
  ·cases h
  ·split at h
   ·cases h
   ·split at h
    ·cases h
    ·rename_i h1 h2 h3 h4;refine⟨by omega,by omega,fun e=>by omega,?_,fun e=>?_,fun e=>?_,fun e=>by omega,fun e=>?_⟩
     ·cases hb:operB o k with
      | true=>rfl
      | false=>exact absurd (.inr hb) h3
     ·cases hb:isVarB s with
      | true=>rfl
      | false=>exact absurd (.inl ⟨e,hb⟩) h4
     ·cases hb:nameB s with
      | true=>rfl
      | false=>exact absurd (.inr ⟨e,hb⟩) h4
     ·apply Classical.byContradiction;intro hn;exact h3 (.inl ⟨e,hn⟩)
theorem nameB_size{s:ByteArray}(h:nameB s=true):s.size≤16:=by simp[nameB]at h;exact h.1.2
theorem validE_err{e:Ex}(h:validE e=0):errE e=0:=by
 unfold validE at h;split at h
 ·cases h
 ·exact h
end Go.Proofs.YthoebpnbhgmoiaaGreatDoor
