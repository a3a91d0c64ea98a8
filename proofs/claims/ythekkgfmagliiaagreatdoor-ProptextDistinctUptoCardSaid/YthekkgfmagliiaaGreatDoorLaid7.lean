import Derived.Test.YthekkgfmagliiaaGreatDoorRead
import Derived.Test.YthekkgfmagliiaaGreatDoorJoin7
import Derived.Test.YthekkgfmagliiaaGreatDoorRows
import Derived.LaidLaws
import Derived.Lib.LaidTab
import Derived.OpenShut
set_option linter.unusedVariables false
set_option linter.unusedSimpArgs false
set_option linter.unusedSectionVars false
namespace Go.Proofs.YthekkgfmagliiaaGreatDoor
open Go.RowKit
section
variable {H : Type} {enc : TypeId × Value → H} {P : Program} {W : World} {base : Nat} {spare : Nat → Bool} {held : Bool} {fuel : Nat} {t : TypeId} {cs : List Value} {x : DataW H × List MemPlace}
theorem lB{e:TypeId}{k:Nat}(hu:P.underlying t=some (.slice e))(hk:P.cellsOf e=k)(hk0:0<k){α:Type}[Inhabited α](dr:α→List D)(hdr:∀a,(dr a).length=k)(Q:α→DataW H→Prop)
 (h:DataW.trod enc P W base spare held fuel t cs=some x)(he:∀n,n<fuel→∀cs' y,DataW.trod enc P W base spare held n e cs'=some y→∃a,fY (mem W) (dr a) cs'∧Q a y.1):
 ∃(l:List α) (v:Value),cs=[v]∧DRep (mem W) (.sl (l.map dr)) v∧((x.1=.nil∧l=[])∨∃elems rest:List (DataW H),x.1=.slice elems rest∧elems.length=l.length∧∀i (h:i<l.length) (h':i<elems.length),Q l[i] elems[i]):=by
 rcases DataW.trod_slice hu h with⟨rfl,hx⟩|⟨ad,len,cap,elems,rest,n',hn',rfl,hx,hb,hl,hm,hlen2,hel,-,-⟩
 ·exact⟨[],_,rfl,DRep.nil _,.inl ⟨by rw[hx],rfl⟩⟩
 ·have hsp:0<len→ad.spot=none:=by
   intro hi;have h1:=hel 0 hi;rw[hk,List.getElem?_eq_getElem (by omega)]at h1;obtain⟨cs',hc,ht⟩:=Option.bind_eq_some_iff.1 h1;obtain⟨-,hcl,hcc⟩:=World.cells?_some hc;have h2:=hcc 0 hk0;rw[List.getElem?_eq_getElem (by omega)]at h2;have h3:=sL h2;simpa[Addr.add]using h3
  have hall:∀i,i<len→∃q:α×List Value,ad.spot=none∧(∀j,j<k→mem W ad.block (ad.off+i*k+j)=some (q.2[j]?.getD .nilIface))∧q.2.length=k∧fY (mem W) (dr q.1) q.2∧∀y,elems[i]? = some y→Q q.1 y.1:=by
   intro i hi;have h1:=hel i hi;rw[hk,List.getElem?_eq_getElem (by omega)]at h1;obtain⟨cs',hc,ht⟩:=Option.bind_eq_some_iff.1 h1;obtain⟨a,ha,hq⟩:=he n' (by omega) cs' _ ht;obtain⟨-,hcl,hcc⟩:=World.cells?_some hc;have hs0:=hsp (by omega);refine⟨(a,cs'),hs0,fun j hj=>?_,hcl,ha,fun y hy=>by rw[List.getElem?_eq_getElem (by omega)]at hy;cases hy;exact hq⟩;have h2:=hcc j hj;rw[List.getElem?_eq_getElem (by omega)]at h2
   have ha:(ad.add (i*k)).add j=⟨ad.block,ad.off+i*k+j,none⟩:=by
    cases ad;simp only at hs0;subst hs0;unfold Addr.add;by_cases h1:i*k=0
    ·by_cases h2:j=0
     ·subst h2;simp[h1]
     ·simp[h1,h2]
    ·by_cases h2:j=0
     ·subst h2;simp[h1]
     ·simp[h1,h2]
   rw[ha]at h2;show mem W _ _=some (cs'[j]?.getD .nilIface);rw[List.getElem?_eq_getElem (by omega),Option.getD_some];exact h2
  obtain⟨f,hfx⟩:=Go.Deep.choose_lt hall;refine⟨(List.range len).map fun i=>(f i).1,_,rfl,?_,.inr ⟨_,_,by rw[hx],by simp[hlen2],fun i h1 h2=>?_⟩⟩
  ·have hlen:(((List.range len).map fun i=>(f i).1).map dr).length=len:=by simp
   generalize hrs:((List.range len).map fun i=>(f i).1).map dr=rows at hlen;have hri:∀i (h:i<rows.length),rows[i]=dr (f i).1:=fun i h=>by subst hrs;simp
   subst hlen;refine .sl rows k (some ad) cap (fun i j=>(f i).2[j]?.getD .nilIface) (fun r hr=>?_) (fun i j hi hj=>?_) (fun i hi=>?_) hl hm
   ·obtain⟨i,hi,rfl⟩:=List.getElem_of_mem hr;rw[hri i hi];exact hdr _
   ·obtain⟨k1,k2,k3,k4,-⟩:=hfx i hi;have hjk:j<k:=by rw[hri i hi,hdr]at hj;exact hj
    simp only[hri i hi];rw[List.getElem?_eq_getElem (by omega:j<(f i).2.length),Option.getD_some];exact k4.2 j (by rw[hdr];exact hjk) (by omega)
   ·obtain⟨k1,k2,k3,k4,-⟩:=hfx i hi;exact⟨ad.block,ad.off,by cases ad;simp_all,fun j hj=>k2 j hj⟩
  ·have hi:i<len:=by simpa using h1
   obtain⟨-,-,-,-,hq⟩:=hfx i hi;simp only[List.getElem_map,List.getElem_range];exact hq _ (List.getElem?_eq_getElem (by omega))
end
end Go.Proofs.YthekkgfmagliiaaGreatDoor
namespace Go.Proofs.YthekkgfmagliiaaGreatDoor
open Go.RowKit
theorem m4{P:Program}{W:World}{n:String}{d:DataW Unit}:∀{l:List (String×DataW Unit)} {ps:List MemPlace},DataW.LaidVars P W l ps→(n,d)∈l→
 ∃g t cs fuel p,P.globalNamed n=some g∧(P.globals[g]?).map (·.type)=some t∧W.var? P n=some cs∧DataW.trod (fun _=>()) P W 0 (fun _=>true) false fuel t cs.toList=some (d,p)
 | [],_,_,h=>by cases h
 | (n',d')::r,ps,hv,h=>by
  obtain⟨g,t,cs,fuel,p,q,h1,h2,h3,h4,h5,-⟩:=hv;rcases List.mem_cons.1 h with h|h
  ·cases h;exact⟨g,t,cs,fuel,p,h1,h2,h3,h4⟩
  ·exact m4 h5 h
theorem lx{W:World}{n:String}{g:Nat}{l:List ByteArray}{d:DataW Unit}(hg:Tryz.prog.globalNamed n=some g)(ht:(Tryz.prog.globals[g]?).map (·.type)=some 92)(hd:d=.slice (l.map fun s=>.lit (.string s.data.toList)) [])(hl:0<l.length)
 {cs:Array Value}{fuel:Nat}{p:List MemPlace}(hvar:W.var? Tryz.prog n=some cs)(hr:DataW.trod (fun _=>()) Tryz.prog W 0 (fun _=>true) false fuel 92 cs.toList=some (d,p)):∃v,W.cell? ⟨g,0,none⟩=some v∧cZ W l v:=by
 subst hd;rcases DataW.trod_slice Tryz.underlying92 hr with⟨-,hx⟩|⟨ad,len,cap,elems,rest,n',hn',g3,hx,hb,hl',hm,hlen2,hel,-,-⟩
 ·simp at hx
 ·simp only[Prod.mk.injEq,DataW.slice.injEq]at hx;obtain⟨⟨hx1,-⟩,-⟩:=hx;have hlen:len=l.length:=by have h9:=congrArg List.length hx1;rw[List.length_map,List.length_map]at h9;rw[←hlen2,h9]
  have hc0:=World.var?_cell hg hvar 0;have hv:cs.toList[0]? = some (.slice (some ad) len cap):=by rw[g3];rfl
  refine⟨.slice (some ad) len cap,by rw[hc0];simpa using hv,?_⟩
  have hcell:∀i (hi:i<len),∃s:ByteArray,W.cell? (ad.add i)=some (.string s)∧l[i]? = some s:=by
   intro i hi;have h1:=hel i hi;rw[show Tryz.prog.cellsOf 9=1 by kernel_rfl,Nat.mul_one,List.getElem?_eq_getElem (by omega)]at h1;obtain⟨cs',hc,ht⟩:=Option.bind_eq_some_iff.1 h1;obtain⟨-,hcl,hcc⟩:=World.cells?_some hc;obtain⟨s,rfl,hs,-⟩:=DataW.trod_string Tryz.underlying9 ht;have h2:=hcc 0 (by omega);refine⟨s,by simpa[Addr.add]using h2,?_⟩;have h3:=congrArg (·[i]?) hx1;simp only[List.getElem?_map,List.getElem?_eq_getElem (show i<elems.length by omega),Option.map_some,hs]at h3;rw[Option.map_eq_some_iff]at h3;obtain⟨s',h4,h5⟩:=h3;rw[h4];simp only[DataW.lit.injEq,Lit.string.injEq]at h5;congr 1;cases s';cases s;simp at h5;simp[h5]
  have hsp:ad.spot=none:=by
   obtain⟨s,h1,-⟩:=hcell 0 (by rw[hlen];exact hl);have:=zJ h1;simpa[Addr.add]using this
  rw[hlen];refine⟨some ad,cap,rfl,by omega,hm,fun i s hi=>⟨ad.block,ad.off,by cases ad;simp_all,?_⟩⟩;obtain⟨s',h1,h2⟩:=hcell i (by rw[hlen];exact(List.getElem?_eq_some_iff.1 hi).1);rw[hi]at h2;cases h2
  have ha:ad.add i=⟨ad.block,ad.off+i,none⟩:=by
   cases ad;simp only at hsp;subst hsp;unfold Addr.add;by_cases h:i=0
   ·subst h;simp
   ·simp[h]
  rw[ha]at h1;exact h1
theorem wm{w:World}{l:List ByteArray}{v:Value}(h:cZ w l v)(hs:∀s,s∈l→s.size≤maxLen):DRep (mem w) (dy l) v:=by
 obtain⟨p,cap,rfl,h4,h5,h6⟩:=h;have hlen:l.length=(l.map fun s=>[an s]).length:=by simp
 unfold dy;rw[hlen];refine .sl _ 1 p cap (fun i _=>.string (l[i]?.getD ⟨#[]⟩)) (fun r hr=>?_) (fun i j hi hj=>?_) (fun i hi=>?_) (by omega) h5
 ·obtain⟨s,-,rfl⟩:=List.mem_map.1 hr;rfl
 ·have hi':i<l.length:=by simpa using hi
  have hj0:j=0:=by simpa using hj
  subst hj0;simp only[List.getElem_map,List.getElem_cons_zero,List.getElem?_eq_getElem hi',Option.getD_some];exact .lit _ (hs _ (List.getElem_mem hi'))
 ·have hi':i<l.length:=by simpa using hi
  obtain⟨b,off,h7,h8⟩:=h6 i _ (List.getElem?_eq_getElem hi');refine⟨b,off,h7,fun j hj=>?_⟩;have hj0:j=0:=by omega
  subst hj0;simp only[List.getElem?_eq_getElem hi',Option.getD_some];simpa[mem]using h8
def rO:List (String×DataW Unit):=[("math/bits.deBruijn32tab",Rows.laid_math_bits_deBruijn32tab),("math/bits.deBruijn64tab",Rows.laid_math_bits_deBruijn64tab),("internal/strconv.uint64pow10",Rows.laid_internal_strconv_uint64pow10),("strconv.ErrRange",Rows.laid_strconv_ErrRange),("strconv.ErrSyntax",Rows.laid_strconv_ErrSyntax),("testbench/lexer.keywords",Rows.laid_testbench_lexer_keywords),("testbench/lexer.marks",Rows.laid_testbench_lexer_marks)]
theorem KK{w:World}(h:laidMet Tryz.prog rO w):G.glob (mem w) (fun b=>b<w.heap.size) w:=by
 obtain⟨ps,hv,-,hpl⟩:=h;have at':=fun n d=>@m4 Tryz.prog w n d rO ps hv;refine⟨fun g cs hg=>?_,fun g p hg=>?_⟩
 ·change (if g=0 then some [dy dx]else if g=1 then some [.sl (cN.map fun s=>[.lit (.string (bs s))])]else none)=some cs at hg
  have fin:∀(l:List ByteArray),(∃v,w.cell? ⟨g,0,none⟩=some v∧cZ w l v)→(∀s,s∈l→s.size≤maxLen)→cs=[dy l]→∃val:Nat→Value,(∀j,j<cs.length→mem w g j=some (val j))∧∀j (h:j<cs.length),DRep (mem w) cs[j] (val j):=by
   rintro l ⟨v,h1,h2⟩ hs rfl;refine⟨fun _=>v,fun j hj=>?_,fun j hj=>?_⟩
   ·have hj0:j=0:=by simpa using hj
    subst hj0;exact h1
   ·have hj0:j=0:=by simpa using hj
    subst hj0;exact wm h2 hs
  split at hg
  ·rename_i e;subst e;obtain⟨g',t,vs,fuel,p,h1,h2,h3,h4⟩:=at' "testbench/lexer.keywords" Rows.laid_testbench_lexer_keywords (by simp[rO]);obtain rfl:=Option.some.inj ((show Tryz.prog.globalNamed "testbench/lexer.keywords" = some 0 by kernel_rfl).symm.trans h1);obtain rfl:=Option.some.inj ((show(Tryz.prog.globals[0]?).map (·.type)=some 92 by kernel_rfl).symm.trans h2);exact fin dx (lx h1 h2 (show Rows.laid_testbench_lexer_keywords (H:=Unit)=.slice (dx.map fun s=>.lit (.string s.data.toList)) []by kernel_rfl) (by decide) h3 h4) (by decide +kernel) (by simpa using hg.symm)
  ·split at hg
   ·rename_i e;subst e;obtain⟨g',t,vs,fuel,p,h1,h2,h3,h4⟩:=at' "testbench/lexer.marks" Rows.laid_testbench_lexer_marks (by simp[rO]);obtain rfl:=Option.some.inj ((show Tryz.prog.globalNamed "testbench/lexer.marks" = some 1 by kernel_rfl).symm.trans h1);obtain rfl:=Option.some.inj ((show(Tryz.prog.globals[1]?).map (·.type)=some 92 by kernel_rfl).symm.trans h2);exact fin rI (lx h1 h2 (show Rows.laid_testbench_lexer_marks (H:=Unit)=.slice (rI.map fun s=>.lit (.string s.data.toList)) []by kernel_rfl) (by decide) h3 h4) (by decide +kernel) (by have:=Option.some.inj hg;rw[←this];unfold dy rI;rw[List.map_map];rfl)
   ·cases hg
 ·have block:∀{n:String} {g:Nat} {cs:Array Value},Tryz.prog.globalNamed n=some g→w.var? Tryz.prog n=some cs→g<w.heap.size∧∃T z,w.heap[g]? = some (.cells cs T z):=by
   intro n g cs h1 h2;unfold World.var? at h2;rw[h1,Option.bind_some]at h2;split at h2
   ·rename_i cs' T z hh;cases h2;exact⟨(Array.getElem?_eq_some_iff.1 hh).1,T,z,hh⟩
   ·cases h2
  change (if g=3 then some (fun cs=>cs=(Lib.pow10Tab.map fun z=>Value.int .u64 z).toArray)else if g=5 then some (fun cs=>∃t x,cs[0]? = some (.iface t x))else none)=some p at hg;split at hg
  ·rename_i e;subst e;cases hg;obtain⟨g',t,vs,fuel,p,h1,h2,h3,h4⟩:=at' "internal/strconv.uint64pow10" Rows.laid_internal_strconv_uint64pow10 (by simp[rO]);obtain rfl:=Option.some.inj ((show Tryz.prog.globalNamed "internal/strconv.uint64pow10" = some 3 by kernel_rfl).symm.trans h1);obtain rfl:=Option.some.inj ((show(Tryz.prog.globals[3]?).map (·.type)=some 189 by kernel_rfl).symm.trans h2);obtain⟨k1,T,z,k2⟩:=block h1 h3;refine⟨k1,vs,T,z,k2,?_⟩;have e:Rows.laid_internal_strconv_uint64pow10 (H:=Unit)=Lib.tabData .u64 Lib.pow10Tab:=by kernel_rfl
   rw[e]at h4;have:=Lib.cells_of_tab (n:=20) Tryz.underlying189 Tryz.underlying171 (by kernel_rfl) (by kernel_rfl) h4;rw[←this]
  ·split at hg
   ·rename_i e;subst e;cases hg;obtain⟨g',t,vs,fuel,p,h1,h2,h3,h4⟩:=at' "strconv.ErrRange" Rows.laid_strconv_ErrRange (by simp[rO]);obtain rfl:=Option.some.inj ((show Tryz.prog.globalNamed "strconv.ErrRange" = some 5 by kernel_rfl).symm.trans h1);obtain rfl:=Option.some.inj ((show(Tryz.prog.globals[5]?).map (·.type)=some 126 by kernel_rfl).symm.trans h2);obtain⟨k1,T,z,k2⟩:=block h1 h3;refine⟨k1,vs,T,z,k2,?_⟩;cases fuel with
    | zero=>simp[DataW.trod]at h4
    | succ fuel=>
     obtain⟨ms,hms⟩:∃ms,Tryz.prog.underlying 126=some (.interface ms):=⟨_,Tryz.underlying126⟩
     unfold DataW.trod at h4;rw[hms]at h4
     have hl:∃a,vs.toList=[a]∧∃t x,a=.iface t x:=by
      split at h4<;>simp_all[Rows.laid_strconv_ErrRange]
     obtain⟨a,ha,t,x,rfl⟩:=hl;exact⟨t,x,by rw[←Array.getElem?_toList,ha];rfl⟩
   ·cases hg
theorem pU{f:FuncId}{args:List V}{vs:List Value}{u:Value}{w:World}(hk:laidMet Tryz.prog rO w)(h:Fun G f args [] (aG (.d (.lit u)) []))(hl:vs.length=args.length)
 (hr:∀i (h:i<args.length) (h':i<vs.length),Rep (mem w) [] args[i] vs[i]):Calls Tryz.prog f vs.toArray w fun e w'=>e=.returned u∧Ext w w':=by
 refine(h.2 _ _ _ _ _ _ (KK hk) (Ar w) (fun _=>rfl) hl hr).mono fun e w' ⟨M',bm',tk',σ',o,⟨h1,h2⟩,h3,h4,h5⟩=>?_;subst h1;obtain⟨v,h6,h7,-⟩:=h5.1 _ rfl;cases h7 with
 | d h7=>
 cases h7 with
 | lit _ _=>exact⟨h6,h4.os,h4.tape,h4.output,h4.size,fun b hb=>h4.keep b hb⟩
end Go.Proofs.YthekkgfmagliiaaGreatDoor
