import Derived.LaidLaws
import Derived.OpenShut
import Derived.ChangeSame
import Derived.ChangeVars
import Derived.JoinedOf
import Derived.RowKitTokens
import Derived.ChangeOld
import Derived.Below
import Derived.Test.YtnhphlmblenapaaGreatDoorCz7
set_option linter.unusedVariables false
set_option linter.unusedSimpArgs false
set_option linter.unusedSectionVars false
set_option maxRecDepth 100000
set_option maxHeartbeats 8000000
open Int renaming ofNat_lt->TJ
open List renaming getElem?_eq_getElem->TK,length_map->TL,getElem?_map->TM,getElem_mem->TN
open Option renaming getD_some->TO,bind_some->TP
namespace Go.Proofs.YtnhphlmblenapaaGreatDoor
open Go.RowKit
theorem KD(a b:Kl):a=b↔a.name=b.name/\a.par=b.par/\a.flds=b.flds/\a.blks=b.blks:=by
 cases a;cases b
 exact⟨fun h=>by cases h;exact⟨rfl,rfl,rfl,rfl⟩,fun⟨h1,h2,h3,h4⟩=>by
  simp only at h1 h2 h3 h4;subst h1 h2 h3 h4;rfl⟩
theorem zf(a b:Kl)(hk:B5 a≤1100000)(hf:a.flds.length≤1200000)(hbk:a.blks.length≤1200000)(r:Bool)(hr:r=true↔a=b)(σ:LLV):Fun G 14 [vkl a,vkl b] σ (aN (ao r) σ):=by
 rw[KD]at hr;refine ae Tryz.func14 k14 rfl fun hb hw=>?_;unfold c14;by_cases n1:a.name=b.name
 case neg=>
  obtain rfl:=eU hr fun e=>n1 e.1;simp -dsimp only[aw,seval,decide_eq_false n1];exact ak hb rfl rfl
 by_cases n2:a.par=b.par
 case neg=>
  obtain rfl:=eU hr fun e=>n2 e.2.1;simp -dsimp only[aw,seval,decide_eq_true n1,decide_eq_false n2];exact ak hb rfl rfl
 by_cases l1:a.flds.length=b.flds.length
 case neg=>
  obtain rfl:=eU hr fun e=>l1 (by rw[e.2.2.1]);have d1:decide (((a.flds.length:Nat):Int)=(b.flds.length:Nat))=false:=decide_eq_false (by omega);simp -dsimp only[aw,seval,decide_eq_true n1,decide_eq_true n2,TL,d1];exact ak hb rfl rfl
 have d1:decide (((a.flds.length:Nat):Int)=(b.flds.length:Nat))=true:=decide_eq_true (by omega);by_cases l2:a.blks.length=b.blks.length
 case neg=>
  obtain rfl:=eU hr fun e=>l2 (by rw[e.2.2.2]);have d2:decide (((a.blks.length:Nat):Int)=(b.blks.length:Nat))=false:=decide_eq_false (by omega);simp -dsimp only[aw,seval,decide_eq_true n1,decide_eq_true n2,TL,d1,d2];exact ak hb rfl rfl
 have d2:decide (((a.blks.length:Nat):Int)=(b.blks.length:Nat))=true:=decide_eq_true (by omega);simp -dsimp only[aw,seval,decide_eq_true n1,decide_eq_true n2,TL,d1,d2];generalize hbx:[[V.d (ai a.name),V.d (ai a.par),V.d (.sl (a.flds.map dfl)),V.d (.sl (a.blks.map dbk))],[V.d (ai b.name),V.d (ai b.par),V.d (.sl (b.flds.map dfl)),V.d (.sl (b.blks.map dbk))]]=bx;have hbb:am (σ++bx).length (σ++bx)=true:=by rw[<-hbx];exact aq hb rfl
 have hb2:2=bx.length:=by rw[<-hbx];rfl
 refine aL [2,3,5] (fun(j:Nat) ρ σ'=>ρ=[(2,.ptr σ.length 0),(3,.ptr (σ.length+1) 0),(5,aF .i64 j)]/\σ'=σ++bx/\a.flds.take j=b.flds.take j) a.flds.length ⟨rfl,rfl,rfl⟩ ?_ _;rintro j ρ' σ' hj ⟨rfl,rfl,hI⟩;have fin0:=fun hs (e:a.flds.take (j+1)=b.flds.take (j+1))=>Nxt.same (n0:=σ.length) (σ:=σ++bx) (R:=fun ρ s=>ρ=[(2,.ptr σ.length 0),(3,.ptr (σ.length+1) 0),(5,aF .i64 ((j+1:Nat):Int))]/\s=σ++bx/\a.flds.take (j+1)=b.flds.take (j+1)) (ρ:=[(2,.ptr σ.length 0),(3,.ptr (σ.length+1) 0),(5,aF .i64 ((j+1:Nat):Int))]) (by simp) hbb hs ⟨rfl,rfl,e⟩;have fin:=fin0 (by simp[an,V.under,<-hb2]);by_cases hlt:j<a.flds.length
 .subst hbx;have hlt':j<b.flds.length:=by omega
  have wj:=aJ hlt (show a.flds.length≤9223372036854775807 by omega);have e1:(a.flds.map dfl)[j]? = some (dfl a.flds[j]):=by rw[TM,TK hlt];rfl
  have e2:(b.flds.map dfl)[j]? = some (dfl b.flds[j]):=by rw[TM,TK hlt'];rfl
  have q1:=Kq a.flds[j] b.flds[j];have q2:=KP a.flds[j] b.flds[j];generalize (decide (a.flds[j].name=b.flds[j].name)&&(decide (a.flds[j].width=b.flds[j].width)&&(decide (a.flds[j].size=b.flds[j].size)&&(decide (a.flds[j].mode=b.flds[j].mode)&&decide (a.flds[j].init=b.flds[j].init)))))=u at q1 q2;simp -dsimp only[aw,seval,TL,TJ,hlt,decide_true,e1,e2,mV a.flds[j],mV b.flds[j]];refine bg (by kernel_rfl) ?_;cases u with
  | true=>
   simp -dsimp only[aw,seval,q1,wj];first|exact fin (fB hlt hlt' hI (q2.1 rfl))|exact⟨hlt,fin (fB hlt hlt' hI (q2.1 rfl))⟩
  | false=>
   obtain rfl:=eU hr fun e=>ou hlt hlt' (fun h=>by cases q2.2 h) e.2.2.1;simp -dsimp only[aw,seval,q1];exact ak hb rfl rfl
 have hfl:=kP (by omega) l1 hI;clear fin fin0;subst hbx;simp -dsimp only[aw,seval,TL,TJ,hlt];clear hI hlt hj j;generalize hbx:[[V.d (ai a.name),V.d (ai a.par),V.d (.sl (a.flds.map dfl)),V.d (.sl (a.blks.map dbk))],[V.d (ai b.name),V.d (ai b.par),V.d (.sl (b.flds.map dfl)),V.d (.sl (b.blks.map dbk))]]=bx;rw[hbx]at hbb hb2;refine aL [2,3,6] (fun(j:Nat) ρ σ'=>ρ=[(2,.ptr σ.length 0),(3,.ptr (σ.length+1) 0),(6,aF .i64 j)]/\σ'=σ++bx/\a.blks.take j=b.blks.take j) a.blks.length ⟨rfl,rfl,rfl⟩ ?_ _;rintro j ρ' σ' hj ⟨rfl,rfl,hI⟩
 have fin:=fun hs (e:a.blks.take (j+1)=b.blks.take (j+1))=>Nxt.same (n0:=σ.length) (σ:=σ++bx) (R:=fun ρ s=>ρ=[(2,.ptr σ.length 0),(3,.ptr (σ.length+1) 0),(6,aF .i64 ((j+1:Nat):Int))]/\s=σ++bx/\a.blks.take (j+1)=b.blks.take (j+1)) (ρ:=[(2,.ptr σ.length 0),(3,.ptr (σ.length+1) 0),(6,aF .i64 ((j+1:Nat):Int))]) (by simp) hbb hs ⟨rfl,rfl,e⟩;have fin:=fin (by simp[an,V.under,<-hb2]);subst hbx;by_cases hlt:j<a.blks.length
 .have hlt':j<b.blks.length:=by omega
  have wj:=aJ hlt (show a.blks.length≤9223372036854775807 by omega);have e1:(a.blks.map dbk)[j]? = some (dbk a.blks[j]):=by rw[TM,TK hlt];rfl
  have e2:(b.blks.map dbk)[j]? = some (dbk b.blks[j]):=by rw[TM,TK hlt'];rfl
  have hm:=Ff (TN hlt);obtain⟨s,hs⟩:=lP (a.blks[j].2=b.blks[j].2);have f1:=fun σ=>vC a.blks[j].2 (by omega) b.blks[j].2 s hs σ;by_cases hq:a.blks[j].1=b.blks[j].1
  case neg=>
   obtain rfl:=eU hr fun e=>ou hlt hlt' (fun h=>hq (by rw[h])) e.2.2.2;simp -dsimp only[aw,seval,TL,TJ,hlt,decide_true,e1,e2,ly a.blks[j],ly b.blks[j],decide_eq_false hq];exact ak hb rfl rfl
  simp -dsimp only[aw,seval,TL,TJ,hlt,decide_true,e1,e2,ly a.blks[j],ly b.blks[j],decide_eq_true hq];refine bo (f1 _) ?_;cases s with
  | true=>
   have he:a.blks[j]=b.blks[j]:=Prod.ext hq (hs.1 rfl);simp -dsimp only[aw,seval,wj];first|exact fin (fB hlt hlt' hI he)|exact⟨hlt,fin (fB hlt hlt' hI he)⟩
  | false=>
   obtain rfl:=eU hr fun e=>ou hlt hlt' (fun h=>by have:=hs.2 (by rw[h]);cases this) e.2.2.2;simp -dsimp only[aw,seval];exact ak hb rfl rfl
 .obtain rfl:=hr.2 ⟨n1,n2,hfl,kP (by omega) l2 hI⟩;simp -dsimp only[aw,seval,TL,TJ,hlt];exact ak hb rfl rfl
theorem GQ{ts:List Tok}{N:Nat}{s:PS}(h:s.2.2≠0):∃v,klP ts (N+1) s=some (v,s):=⟨_,by
 unfold klP;simp only[bw h,oa h,clM,yN h,pT h,TP,qa h];rfl⟩
theorem G8(d:Kl):B5 d+d.flds.length+d.blks.length≤2*ksz d:=by
 have h1:=uk d.blks
 have h2:B5 d≤bsz d.blks:=by
  unfold B5 bsz;generalize d.blks=l
  induction l with
  | nil=>exact Nat.le_refl _
  | cons a r ih=>simp only[List.map_cons,List.sum_cons];omega
 unfold ksz;omega
theorem G7{l:Bs}(hl:l.length≤16384):∃(N:Nat) (v:Kl) (s1:PS),N≤100000000/\klP (bgT l) N (bgS l)=some (v,s1)/\((mM (bgT l) s1).2.2=0->ksz v≤1100000)/\qc v (mM (bgT l) s1)=gJ l/\ksz (gJ l).1≤16384:=by
 refine⟨2*(bgT l).length+4,?_⟩;obtain⟨HT,hT⟩:=I5 hl;have hZ:ksz kZ=1:=rfl
 have hR:fy kZ (fun ts=>se (zLs ts) ts) l=match cS l with
  | .err n e=>(kZ,n,e)
  | .ok ts=>pH kZ (se (zLs ts) ts):=by unfold fy;rw[if_neg (by omega)];cases cS l<;>rfl
 unfold gJ;rw[hR];unfold bgT bgS at *;cases hx:cS l with
 | err n e=>
  have he:=oN hx;simp only;obtain⟨v,hv⟩:=GQ (ts:=[]) (N:=2*([]:List Tok).length+3) (s:=(0,n,e)) he;refine⟨v,(0,n,e),by decide,hv,?_⟩;have eS:mM [] (0,n,e)=(0,n,e):=if_neg fun c=>he c.1;rw[eS];refine⟨fun h=>absurd h he,?_⟩;unfold qc;simp only[if_neg he];exact⟨trivial,by rw[hZ];decide⟩
 | ok ts=>
  rw[hx]at hT HT;simp only at hT HT ⊢;have hA:=Qh HT (N:=2*ts.length+4) (a:=0) (Nat.le_refl _);rw[List.drop_zero]at hA;have hk:=rt (zLs ts) ts;unfold se;cases hy:lx (zLs ts) ts with
  | out=>exact absurd hy hk.ne
  | bad e n=>
   rw[hy]at hA;obtain⟨he,v,b,hb⟩:=hA;have eS:mM ts (b,n,e)=(b,n,e):=if_neg fun c=>he c.1;refine⟨v,(b,n,e),by omega,hb,?_⟩;rw[eS];refine⟨fun h=>absurd h he,?_⟩;unfold qc;simp only[CP.bind,pH,he,if_false];exact⟨trivial,by rw[hZ];decide⟩
  | ok v q=>
   rw[hy]at hA hk;obtain⟨b,hb,rfl,h⟩:=hA;have hs:=hk.2;refine⟨v,(b,0,0),by omega,h,?_⟩;by_cases hlt:b<ts.length
   .have eS:mM ts (b,0,0)=(b,lnA ts b,bQ ts b):=by
     unfold mM;rw[if_pos ⟨rfl,hlt⟩];exact if_pos rfl
    rw[eS];refine⟨fun h=>absurd h (ce ts b),?_⟩;have he:(ts.drop b).isEmpty=false:=isE hlt;unfold qc;simp only[CP.bind,he,Bool.false_eq_true,if_false,nN,pH,if_neg (ce ts b)];exact⟨trivial,by rw[hZ];decide⟩
   .have eS:mM ts (b,0,0)=(b,0,0):=if_neg fun c=>hlt c.2;have he:(ts.drop b).isEmpty=true:=by rw[List.drop_eq_nil_of_le (by omega)];rfl
    rw[eS];refine⟨fun _=>by omega,?_⟩;unfold qc;simp only[CP.bind,he,if_true,pH];refine⟨trivial,?_⟩;split
    .simp only;omega
    .simp only;rw[hZ];decide
theorem Fm(l:Bs)(σ:LLV):Fun G 4 [.d (ai (bs l))] σ (aN (ao true) σ):=by
 refine ae Tryz.func4 k4 rfl fun hb hw=>?_;unfold c4;by_cases hbig:1500<l.length
 .have d0:decide ((1500:Int)<((l.length:Nat):Int))=true:=decide_eq_true (by omega);simp -dsimp only[aw,seval,aG,d0];refine ac (pi _) ?_;simp -dsimp only[aw,seval];exact ak hb rfl rfl
 have d0:decide ((1500:Int)<((l.length:Nat):Int))=false:=decide_eq_false (by omega);obtain⟨N,c,s1,hN,h,hsz,he,hz⟩:=G7 (l:=l) (by omega);have p1:=fun σ=>qk l σ;have p2:=fun σ=>yI (l:=l) (by omega) hN h hsz σ;rw[he]at p2;have hbg:=G8 (gJ l).1;have p3:=fun σ=>zf (gJ l).1 (gJ l).1 (by omega) (by omega) (by omega) true ⟨fun _=>rfl,fun _=>rfl⟩ σ;unfold d9 at p1 p2;generalize gJ l=r at *;obtain⟨v,n,e⟩:=r;have dn:decide (n=n)=true:=decide_eq_true rfl;have de:decide (e=e)=true:=decide_eq_true rfl;simp only at p1 p2 p3;simp -dsimp only[aw,seval,aG,d0];refine ac (p1 _) ?_;simp -dsimp only[aw,seval];refine ac (p2 _) ?_;simp -dsimp only[aw,seval];refine ac (p3 _) ?_
 simp -dsimp only[aw,seval,dn,de];refine ac (pi _) ?_;simp -dsimp only[aw,seval];exact ak hb rfl rfl
theorem pq{P:Program}{W:World}{n:String}{d:DataW Unit}:∀{l:List (String×DataW Unit)} {ps:List MemPlace},DataW.LaidVars P W l ps->(n,d)∈l->
 ∃g t cs fuel p,P.globalNamed n=some g/\(P.globals[g]?).map (·.type)=some t/\W.var? P n=some cs/\DataW.trod (fun _=>()) P W 0 (fun _=>true) false fuel t cs.toList=some (d,p)
 | [],_,_,h=>by cases h
 | (n',d')::r,ps,hv,h=>by
  obtain⟨g,t,cs,fuel,p,q,h1,h2,h3,h4,h5,-⟩:=hv;rcases List.mem_cons.1 h with h|h
  .cases h;exact⟨g,t,cs,fuel,p,h1,h2,h3,h4⟩
  .exact pq h5 h
theorem nO{W:World}{n:String}{g:Nat}{l:List ByteArray}{d:DataW Unit}(hg:Tryz.prog.globalNamed n=some g)(ht:(Tryz.prog.globals[g]?).map (·.type)=some 52)(hd:d=.slice (l.map fun s=>.lit (.string s.data.toList)) [])(hl:0<l.length)
 {cs:Array Value}{fuel:Nat}{p:List MemPlace}(hvar:W.var? Tryz.prog n=some cs)(hr:DataW.trod (fun _=>()) Tryz.prog W 0 (fun _=>true) false fuel 52 cs.toList=some (d,p)):∃v,W.cell? ⟨g,0,none⟩=some v/\dq W l v:=by
 subst hd;rcases DataW.trod_slice Tryz.underlying52 hr with⟨-,hx⟩|⟨ad,len,cap,elems,rest,n',hn',g3,hx,hb,hl',hm,hlen2,hel,-,-⟩
 .simp at hx
 .simp only[Prod.mk.injEq,DataW.slice.injEq]at hx;obtain⟨⟨hx1,-⟩,-⟩:=hx;have hlen:len=l.length:=by have h9:=congrArg List.length hx1;rw[TL,TL]at h9;rw[<-hlen2,h9]
  have hc0:=World.var?_cell hg hvar 0;have hv:cs.toList[0]? = some (.slice (some ad) len cap):=by rw[g3];rfl
  refine⟨.slice (some ad) len cap,by rw[hc0];simpa using hv,?_⟩
  have hcell:∀i (hi:i<len),∃s:ByteArray,W.cell? (ad.add i)=some (.string s)/\l[i]? = some s:=by
   intro i hi;have h1:=hel i hi;rw[show Tryz.prog.cellsOf 9=1 by kernel_rfl,Nat.mul_one,TK (by omega)]at h1;obtain⟨cs',hc,ht⟩:=Option.bind_eq_some_iff.1 h1;obtain⟨-,hcl,hcc⟩:=World.cells?_some hc;obtain⟨s,rfl,hs,-⟩:=DataW.trod_string Tryz.underlying9 ht;have h2:=hcc 0 (by omega);refine⟨s,by simpa[Addr.add]using h2,?_⟩;have h3:=congrArg (·[i]?) hx1;simp only[TM,TK (show i<elems.length by omega),Option.map_some,hs]at h3;rw[Option.map_eq_some_iff]at h3;obtain⟨s',h4,h5⟩:=h3;rw[h4];simp only[DataW.lit.injEq,Lit.string.injEq]at h5;congr 1;cases s';cases s;simp at h5;simp[h5]
  have hsp:ad.spot=none:=by
   obtain⟨s,h1,-⟩:=hcell 0 (by rw[hlen];exact hl);have:=Ca h1;simpa[Addr.add]using this
  rw[hlen];refine⟨some ad,cap,rfl,by omega,hm,fun i s hi=>⟨ad.block,ad.off,by cases ad;simp_all,?_⟩⟩;obtain⟨s',h1,h2⟩:=hcell i (by rw[hlen];exact(List.getElem?_eq_some_iff.1 hi).1);rw[hi]at h2;cases h2
  have ha:ad.add i=⟨ad.block,ad.off+i,none⟩:=by
   cases ad;simp only at hsp;subst hsp;unfold Addr.add;by_cases h:i=0
   .subst h;simp
   .simp[h]
  rw[ha]at h1;exact h1
theorem zq{w:World}{l:List ByteArray}{v:Value}(h:dq w l v)(hs:∀s,s∈l->s.size≤maxLen):DRep (mem w) (cV l) v:=by
 obtain⟨p,cap,rfl,h4,h5,h6⟩:=h;have hlen:l.length=(l.map fun s=>[ai s]).length:=by simp
 unfold cV;rw[hlen];refine .sl _ 1 p cap (fun i _=>.string (l[i]?.getD ⟨#[]⟩)) (fun r hr=>?_) (fun i j hi hj=>?_) (fun i hi=>?_) (by omega) h5
 .obtain⟨s,-,rfl⟩:=List.mem_map.1 hr;rfl
 .have hi':i<l.length:=by simpa using hi
  have hj0:j=0:=by simpa using hj
  subst hj0;simp only[List.getElem_map,List.getElem_cons_zero,TK hi',TO];exact .lit _ (hs _ (TN hi'))
 .have hi':i<l.length:=by simpa using hi
  obtain⟨b,off,h7,h8⟩:=h6 i _ (TK hi');refine⟨b,off,h7,fun j hj=>?_⟩;have hj0:j=0:=by omega
  subst hj0;simp only[TK hi',TO];simpa[mem]using h8
def qJ:List (String×DataW Unit):=[("math/bits.deBruijn32tab",Rows.laid_math_bits_deBruijn32tab),("math/bits.deBruijn64tab",Rows.laid_math_bits_deBruijn64tab),("internal/strconv.uint64pow10",Rows.laid_internal_strconv_uint64pow10),("strconv.ErrRange",Rows.laid_strconv_ErrRange),("strconv.ErrSyntax",Rows.laid_strconv_ErrSyntax),("testbench/lexer.keywords",Rows.laid_testbench_lexer_keywords),("testbench/lexer.marks",Rows.laid_testbench_lexer_marks)]
theorem PW{w:World}(h:laidMet Tryz.prog qJ w):G.glob (mem w) (fun b=>b<w.heap.size) w:=by
 obtain⟨ps,hv,-,hpl⟩:=h;have at':=fun n d=>@pq Tryz.prog w n d qJ ps hv;refine⟨fun g cs hg=>?_,fun g p hg=>?_⟩
 .change (if g=0 then some [cV cj]else if g=1 then some [.sl (aP.map fun s=>[.lit (.string (bs s))])]else none)=some cs at hg
  have fin:∀(l:List ByteArray),(∃v,w.cell? ⟨g,0,none⟩=some v/\dq w l v)->(∀s,s∈l->s.size≤maxLen)->cs=[cV l]->∃val:Nat->Value,(∀j,j<cs.length->mem w g j=some (val j))/\∀j (h:j<cs.length),DRep (mem w) cs[j] (val j):=by
   rintro l ⟨v,h1,h2⟩ hs rfl;refine⟨fun _=>v,fun j hj=>?_,fun j hj=>?_⟩
   .have hj0:j=0:=by simpa using hj
    subst hj0;exact h1
   .have hj0:j=0:=by simpa using hj
    subst hj0;exact zq h2 hs
  split at hg
  .rename_i e;subst e;obtain⟨g',t,vs,fuel,p,h1,h2,h3,h4⟩:=at' "testbench/lexer.keywords" Rows.laid_testbench_lexer_keywords (by simp[qJ]);obtain rfl:=Option.some.inj ((show Tryz.prog.globalNamed "testbench/lexer.keywords" = some 0 by kernel_rfl).symm.trans h1);obtain rfl:=Option.some.inj ((show(Tryz.prog.globals[0]?).map (·.type)=some 52 by kernel_rfl).symm.trans h2);exact fin cj (nO h1 h2 (show Rows.laid_testbench_lexer_keywords (H:=Unit)=.slice (cj.map fun s=>.lit (.string s.data.toList)) []by kernel_rfl) (by decide) h3 h4) (by decide +kernel) (by simpa using hg.symm)
  .split at hg
   .rename_i e;subst e;obtain⟨g',t,vs,fuel,p,h1,h2,h3,h4⟩:=at' "testbench/lexer.marks" Rows.laid_testbench_lexer_marks (by simp[qJ]);obtain rfl:=Option.some.inj ((show Tryz.prog.globalNamed "testbench/lexer.marks" = some 1 by kernel_rfl).symm.trans h1);obtain rfl:=Option.some.inj ((show(Tryz.prog.globals[1]?).map (·.type)=some 52 by kernel_rfl).symm.trans h2);exact fin f7 (nO h1 h2 (show Rows.laid_testbench_lexer_marks (H:=Unit)=.slice (f7.map fun s=>.lit (.string s.data.toList)) []by kernel_rfl) (by decide) h3 h4) (by decide +kernel) (by have:=Option.some.inj hg;rw[<-this];unfold cV f7;rw[List.map_map];rfl)
   .cases hg
 .have block:∀{n:String} {g:Nat} {cs:Array Value},Tryz.prog.globalNamed n=some g->w.var? Tryz.prog n=some cs->g<w.heap.size/\∃T z,w.heap[g]? = some (.cells cs T z):=by
   intro n g cs h1 h2;unfold World.var? at h2;rw[h1,TP]at h2;split at h2
   .rename_i cs' T z hh;cases h2;exact⟨(Array.getElem?_eq_some_iff.1 hh).1,T,z,hh⟩
   .cases h2
  change (if g=3 then some (fun cs=>cs=(Lib.pow10Tab.map fun z=>Value.int .u64 z).toArray)else if g=5 then some (fun cs=>∃t x,cs[0]? = some (.iface t x))else none)=some p at hg;split at hg
  .rename_i e;subst e;cases hg;obtain⟨g',t,vs,fuel,p,h1,h2,h3,h4⟩:=at' "internal/strconv.uint64pow10" Rows.laid_internal_strconv_uint64pow10 (by simp[qJ]);obtain rfl:=Option.some.inj ((show Tryz.prog.globalNamed "internal/strconv.uint64pow10" = some 3 by kernel_rfl).symm.trans h1);obtain rfl:=Option.some.inj ((show(Tryz.prog.globals[3]?).map (·.type)=some 271 by kernel_rfl).symm.trans h2);obtain⟨k1,T,z,k2⟩:=block h1 h3;refine⟨k1,vs,T,z,k2,?_⟩;have e:Rows.laid_internal_strconv_uint64pow10 (H:=Unit)=Lib.tabData .u64 Lib.pow10Tab:=by kernel_rfl
   rw[e]at h4;have:=Lib.cells_of_tab (n:=20) Tryz.underlying271 Tryz.underlying207 (by kernel_rfl) (by kernel_rfl) h4;rw[<-this]
  .split at hg
   .rename_i e;subst e;cases hg;obtain⟨g',t,vs,fuel,p,h1,h2,h3,h4⟩:=at' "strconv.ErrRange" Rows.laid_strconv_ErrRange (by simp[qJ]);obtain rfl:=Option.some.inj ((show Tryz.prog.globalNamed "strconv.ErrRange" = some 5 by kernel_rfl).symm.trans h1);obtain rfl:=Option.some.inj ((show(Tryz.prog.globals[5]?).map (·.type)=some 140 by kernel_rfl).symm.trans h2);obtain⟨k1,T,z,k2⟩:=block h1 h3;refine⟨k1,vs,T,z,k2,?_⟩;cases fuel with
    | zero=>simp[DataW.trod]at h4
    | succ fuel=>
     obtain⟨ms,hms⟩:∃ms,Tryz.prog.underlying 140=some (.interface ms):=⟨_,Tryz.underlying140⟩
     unfold DataW.trod at h4;rw[hms]at h4
     have hl:∃a,vs.toList=[a]/\∃t x,a=.iface t x:=by
      split at h4<;>simp_all[Rows.laid_strconv_ErrRange]
     obtain⟨a,ha,t,x,rfl⟩:=hl;exact⟨t,x,by rw[<-Array.getElem?_toList,ha];rfl⟩
   .cases hg
theorem sr{f:FuncId}{args:List V}{vs:List Value}{u:Value}{w:World}(hk:laidMet Tryz.prog qJ w)(h:Fun G f args [] (aN (.d (.lit u)) []))(hl:vs.length=args.length)
 (hr:∀i (h:i<args.length) (h':i<vs.length),Rep (mem w) [] args[i] vs[i]):Calls Tryz.prog f vs.toArray w fun e w'=>e=.returned u/\Ext w w':=by
 refine(h.2 _ _ _ _ _ _ (PW hk) (Co w) (fun _=>rfl) hl hr).mono fun e w' ⟨M',bm',tk',σ',o,⟨h1,h2⟩,h3,h4,h5⟩=>?_;subst h1;obtain⟨v,h6,h7,-⟩:=h5.1 _ rfl;cases h7 with
 | d h7=>
 cases h7 with
 | lit _ _=>exact⟨h6,h4.os,h4.tape,h4.output,h4.size,fun b hb=>h4.keep b hb⟩
end Go.Proofs.YtnhphlmblenapaaGreatDoor
namespace Go.Proofs.YtnhphlmblenapaaGreatDoor
open Go.ChangeShapes Go.WideShapes Go.RowKit
theorem Tryz.own:ownKnob Tryz.prog.godebug=none:=by kernel_rfl
theorem Tryz.laidOut:laidOutB Tryz.prog=true:=by kernel_rfl
def iB(w:World)(g:Nat)(cs:Array Value):World:=
 {w with heap:=w.heap.modify g fun
   | .cells _ t frozen=>.cells cs t frozen
   | o=>o}
noncomputable def tM(os:Os):World:=
 let w0:=World.holding Tryz.prog os ⟨#[],#[],[]⟩;let n:=w0.heap.size;let w1:=(((w0.alloc (.cells (cj.map Value.string).toArray 9)).alloc (.cells (f7.map Value.string).toArray 9)).alloc (.cells #[.string ⟨#[118,97,108,117,101,32,111,117,116,32,111,102,32,114,97,110,103,101]⟩] 285)).alloc (.cells #[.string ⟨#[105,110,118,97,108,105,100,32,115,121,110,116,97,120]⟩] 285);let w2:=iB w1 0 #[.slice (some ⟨n,0,none⟩) 24 24];let w3:=iB w2 1 #[.slice (some ⟨n+1,0,none⟩) 36 36];let w4:=iB w3 5 #[.iface 283 (.pointer (some ⟨n+2,0,none⟩))];let w5:=iB w4 4 #[.iface 283 (.pointer (some ⟨n+3,0,none⟩))];let w6:=iB w5 3 (Lib.pow10Tab.map fun z=>Value.int .u64 z).toArray;let w7:=iB w6 6 (([0,1,28,2,29,14,24,3,30,22,20,15,25,17,4,8,31,27,13,23,21,19,16,7,26,12,18,6,11,5,10,9]:List Int).map fun z=>Value.int .u8 z).toArray
 iB w7 7 (([0,1,56,2,57,49,28,3,61,58,42,50,38,29,17,4,62,47,59,36,45,43,51,22,53,39,33,30,24,18,12,5,63,55,48,27,60,41,37,16,46,35,44,21,52,32,23,11,54,26,40,15,34,20,31,10,25,14,19,9,13,8,7,6]:List Int).map fun z=>Value.int .u8 z).toArray
theorem sm(os:Os)(args:Array Value):laidMet Tryz.prog qJ ((tM os).forCall (fun _ _=>0) ⟨#[],args,[]⟩).memory:=
 laidMet_of_run' 8 (by kernel_rfl) (by kernel_rfl)
theorem Ext.below{w w':World}(h:Ext w w'):Below w.heap.size w w':=⟨h.os,h.tape,h.output,h.size,h.block⟩
theorem yG{H:Type}{enc:TypeId×Value->H}{w:World}{t:TypeId}{v:Value}{d:DataW H}{p:List MemPlace}{base:Nat}{spare:Nat->Bool}{held:Bool}(h:DataW.Trod enc Tryz.prog w base spare held t v d p):∀x∈p,x.block<w.heap.size:=by
 obtain⟨m,hm⟩:=h;exact DataW.trod_lt m _ _ _ hm
section
variable {H : Type} {enc : TypeId × Value -> H} {w : World} {v : Value} {d : DataW H} {p : List MemPlace} {base : Nat} {spare : Nat -> Bool} {held : Bool}
theorem DO(h:DataW.Trod enc Tryz.prog w base spare held 9 v d p)(hv:Value.okWide Tryz.prog w .any base 9 v):∃l:Bs,Rep (mem w) [] (V.d (ai (bs l))) v:=by
 obtain⟨n,rfl⟩:=okWide_string Tryz.underlying9 hv;obtain⟨fuel,hf⟩:=h;cases fuel with
 | zero=>simp[DataW.trod]at hf
 | succ m=>
  obtain⟨o,g0,-,w0⟩:=DataW.trod_string Tryz.underlying9 hf;cases g0;exact⟨n.data.toList,by rw[jR];exact .d (.lit _ w0)⟩
instance:Inhabited Tok:=⟨⟨0,0,⟨#[]⟩,0⟩⟩
end
end Go.Proofs.YtnhphlmblenapaaGreatDoor
namespace Go.Proofs.YtnhphlmblenapaaGreatDoor
open Go.ChangeShapes Go.WideShapes Go.RowKit
theorem iW(os:Os)(started:os.Started)(H:Type)(enc:TypeId×Value->H):
 ReturnsInHanded {} Tryz.checked os 4 .any (fun w args=>(Rows.classparseClassesSpec.pre enc Tryz.prog Tryz.f4 [] false w args/\laidMetH Tryz.prog qJ w)/\sizedMet enc Tryz.prog Tryz.f4 (OpenSpec.ofChange Rows.classparseClassesSpec) false w args)
  (Rows.classparseClassesSpec.post enc Tryz.prog Tryz.f4 false true false false):=by
 refine returnsInHanded_of_change_and (C:=Tryz.checked) (X:=fun w _=>laidMetH Tryz.prog qJ w) (fun _ _ _ hh h=>h.of_heap hh) Tryz.own started (by kernel_rfl) Tryz.func4
  (ChangeSpec.witness_shaped (enc:=enc) (C:=Tryz.checked) (os:=os) (X:=fun w _=>laidMetH Tryz.prog qJ w) false (tM os) #[.string ⟨#[]⟩] 8 rfl (World.shaped_of_RefB (by kernel_rfl) (by kernel_rfl)) (by kernel_rfl) (by kernel_rfl) (by kernel_rfl) (sm os _)) ?_
 intro W base args ds gs before hval0 hW _ _ hL _;have hval:∀(j:Nat) t v,Tryz.f4.params[j]? = some t->args[j]? = some v->Value.okWide Tryz.prog W .any base t v:=hval0;have hW':=hW;obtain⟨p,q,hA0,hV0,rfl,hfz,hnd⟩:=hW;have hA:DataW.TrodAll enc Tryz.prog W 0 (fun _=>true) true Tryz.f4.params.toList args.toList ds p:=hA0;have hV:DataW.TrodVars enc Tryz.prog W (fun _=>true) [] gs q:=hV0;rw[Tryz.params4]at hA hval;obtain⟨v0,d0,rfl,rfl,h0⟩:=trodAll_one hA;obtain⟨rfl,rfl⟩:=trodVars_none hV;have lt0:=yG h0;obtain⟨l,hv0⟩:=DO h0 (hval 0 9 v0 rfl rfl);have e1:Rows.classparseClassesSpec.fn H ([d0]++[])={results:=[.lit (.bool true)],args:=[d0]}:=by simp[Rows.classparseClassesSpec]
 refine(sr (vs:=[v0]) hL (Fm l []) rfl (fun i h h'=>?_)).mono fun en W' ⟨he,hx⟩=>?_
 .match i,h with
  | 0,_=>exact hv0
 subst he;have bel:=hx.below;refine⟨_,rfl,_,_,_,[],p,[],hW',?_,?_,?_,bel.frame _,fun h=>by cases h⟩
 .rw[e1];exact trodAll_mk1 (shut_bool Tryz.underlying4 true)
 .rw[e1];exact trodAll_mk1 (Below.trod Tryz.laidOut (by kernel_rfl) (of_decide_eq_true (by kernel_rfl)) h0 bel lt0)
 .rw[e1];rfl
theorem kK:Tryz.pinned.checked.prog.inPlace 4=Rows.classparseClassesRow.inPlace:=by kernel_rfl
theorem ky:Tryz.pinned.checked.prog.unfollowed 4=Rows.classparseClassesRow.unfollowed:=by kernel_rfl
theorem lu:Tryz.pinned.checked.prog.recurses 4=Rows.classparseClassesRow.recurses:=by kernel_rfl
theorem k7:Tryz.pinned.checked.prog.varsNamed 4=Rows.classparseClassesRow.named:=by kernel_rfl
theorem iX:joinedFacts Tryz.pinned.checked.prog 4 Tryz.f4 Rows.classparseClassesSpec Rows.classparseClassesRow=true:=by
 unfold joinedFacts;rw[kK,ky,lu,k7];kernel_rfl
theorem fp:Rows.ClassparseClassesSaid:=
 OpenClaim.holds_of_wide 4 Tryz.f4 rfl rfl rfl rfl rfl rfl rfl ⟨rfl,rfl,rfl,rfl,rfl⟩ rfl rfl rfl rfl rfl (by kernel_rfl) Tryz.func4 iX
  (of_decide_eq_true (by kernel_rfl)) (by unfold Func.isWrapper;first|(rw[if_pos (by decide +kernel)];kernel_rfl)|(rw[if_neg (by decide +kernel)];exact⟨rfl,rfl⟩))
  (fun os started H enc _=>iW os started H enc)
#print axioms fp
end Go.Proofs.YtnhphlmblenapaaGreatDoor
