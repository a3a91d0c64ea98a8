import Derived.Test.YtcbahpllcfbkmaaGreatDoorCt4
import Derived.Test.YtcbahpllcfbkmaaGreatDoorBl2
import Derived.Test.YtcbahpllcfbkmaaGreatDoorEt3
import Derived.Test.YtcbahpllcfbkmaaGreatDoorCt6
import Derived.Test.YtcbahpllcfbkmaaGreatDoorK5
set_option linter.unusedVariables false
set_option linter.unusedSimpArgs false
set_option linter.unusedSectionVars false
namespace Go.Proofs.YtcbahpllcfbkmaaGreatDoor
open Go.RowKit
structure Fl where
 name:ByteArray
 width:Int
 size:Int
 mode:Int
 init:Int
structure Kl where
 name:ByteArray
 par:ByteArray
 flds:List Fl
 blks:List (ByteArray×List It)
def fo(m:Int):Bs:=if m=1 then[114,97,110,100,32]else if m=2 then[114,97,110,100,99,32]else[115,116,97,116,101,32]
def ez(f:Fl):Bs:=fo f.mode++(aG f.name++((if 0<f.size then 91::(b9 f.size++[93])else[])++([32,58,32]++(b9 f.width++((if f.mode=0 then[32,61,32]++b9 f.init else[])++[59])))))
def di(b:ByteArray×List It):List Ln:=(0,[99,111,110,115,116,114,97,105,110,116,32]++(aG b.1++[32,123]))::(upL (lns b.2)++[(0,[125])])
def jD(p:ByteArray):Bs:=if p=⟨#[]⟩then[]else[32,101,120,116,101,110,100,115,32]++aG p
def Bg(c:Kl):List Ln:=(0,[99,108,97,115,115,32]++(aG c.name++(jD c.par++[32,123])))::(upL (c.flds.map (fun f=>(0,ez f))++c.blks.flatMap di)++[(0,[125])])
def jZ(c:Kl):Bs:=aX 0 (Bg c)
structure FlOk(f:Fl):Prop where
 nm:aD f.name=true
 wd:0≤f.width
 sz:0≤f.size
 md:f.mode=0∨f.mode=1∨f.mode=2
 i0:0≤f.init
 i1:f.mode≠0→f.init=0
structure KlOk(c:Kl):Prop where
 nm:aD c.name=true
 par:c.par=⟨#[]⟩∨aD c.par=true
 fl:∀f,f∈c.flds→FlOk f
 bn:∀b,b∈c.blks→aD b.1=true
 bi:∀b,b∈c.blks→rvl b.2 0=0
theorem D3{f:Fl}(h:FlOk f):LnOk (ez f):=by
 have hn:prS (aG f.name)=true:=dT h.nm
 have hp:prS (ez f)=true:=by
  unfold ez;rw[aC,aC,hn,aC,aC,aC,lp,aC];have e1:prS (fo f.mode)=true:=by unfold fo;split<;>(try split)<;>rfl
  have e2:prS (if 0<f.size then 91::(b9 f.size++[93])else[])=true:=by
   split
   ·rw[ew,aC,lp];rfl
   ·rfl
  have e3:prS (if f.mode=0 then[32,61,32]++b9 f.init else[])=true:=by
   split
   ·rw[aC,lp];rfl
   ·rfl
  rw[e1,e2,e3];rfl
 have hl:ez f=(fo f.mode++(aG f.name++((if 0<f.size then 91::(b9 f.size++[93])else[])++([32,58,32]++(b9 f.width++(if f.mode=0 then[32,61,32]++b9 f.init else[]))))))++[59]:=by unfold ez;simp
 have hd:∃c r,ez f=c::r∧c≠32:=by
  unfold ez fo;split
  ·exact⟨114,_,rfl,by decide⟩
  ·split
   ·exact⟨114,_,rfl,by decide⟩
   ·exact⟨115,_,rfl,by decide⟩
 exact⟨hp,hd,⟨59,_,hl,by decide⟩⟩
theorem re:LnOk [125]:=⟨rfl,⟨125,[],rfl,by decide⟩,⟨125,[],rfl,by decide⟩⟩
theorem BD{b:ByteArray×List It}(hn:aD b.1=true)(hv:rvl b.2 0=0):∀y,y∈di b→LnOk y.2:=by
 intro y hy;have e1:prS (aG b.1)=true:=dT hn;rcases List.mem_cons.1 hy with rfl|hy
 ·exact iH (d:=123) (r':=[99,111,110,115,116,114,97,105,110,116,32]++(aG b.1++[32])) (by
   show prS ([99,111,110,115,116,114,97,105,110,116,32]++(aG b.1++[32,123]))=true;rw[aC,aC,e1];rfl) (c:=99) rfl (by decide) (by simp) (by decide)
 ·rcases List.mem_append.1 hy with hy|hy
  ·exact no (Dj b.2 0 hv) y hy
  ·rw[List.mem_singleton.1 hy];exact re
theorem EG{p:ByteArray}(h:p=⟨#[]⟩∨aD p=true):prS (jD p)=true:=by
 unfold jD;split
 ·rfl
 ·rename_i hn;have e1:prS (aG p)=true:=dT (h.resolve_left hn);rw[aC,e1];rfl
theorem tX{c:Kl}(h:KlOk c):∀y,y∈Bg c→LnOk y.2:=by
 intro y hy;have e1:prS (aG c.name)=true:=dT h.nm;rcases List.mem_cons.1 hy with rfl|hy
 ·exact iH (d:=123) (r':=[99,108,97,115,115,32]++(aG c.name++(jD c.par++[32]))) (by
   show prS ([99,108,97,115,115,32]++(aG c.name++(jD c.par++[32,123])))=true;rw[aC,aC,e1,aC,EG h.par];rfl) (c:=99) rfl (by decide) (by simp) (by decide)
 ·rcases List.mem_append.1 hy with hy|hy
  ·refine no (fun z hz=>?_) y hy;rcases List.mem_append.1 hz with hz|hz
   ·obtain⟨f,hf,rfl⟩:=List.mem_map.1 hz;exact D3 (h.fl f hf)
   ·obtain⟨b,hb,hz⟩:=List.mem_flatMap.1 hz;exact BD (h.bn b hb) (h.bi b hb) z hz
  ·rw[List.mem_singleton.1 hy];exact re
theorem B0{f g:Fl}(hf:FlOk f)(hg:FlOk g)(h:ez f=ez g):f=g:=by
 cases f with
 | mk nm w sz m i=>
 cases g with
 | mk nm' w' sz' m' i'=>
 obtain⟨f1,f2,f3,f4,f5,f6⟩:=hf;obtain⟨g1,g2,g3,g4,g5,g6⟩:=hg;simp only at f1 f2 f3 f4 f5 f6 g1 g2 g3 g4 g5 g6;unfold ez at h;simp only at h;obtain⟨c0,r0,n1,n2⟩:=qg f1;obtain⟨c1,r1,n3,n4⟩:=qg g1
 have hm:m=m'∧aG nm++((if 0<sz then 91::(b9 sz++[93])else[])++([32,58,32]++(b9 w++((if m=0 then[32,61,32]++b9 i else[])++[59]))))=aG nm'++((if 0<sz' then 91::(b9 sz'++[93])else[])++([32,58,32]++(b9 w'++((if m'=0 then[32,61,32]++b9 i' else[])++[59])))):=by
  have t0:fo 0=[115,116,97,116,101,32]:=rfl;have t1:fo 1=[114,97,110,100,32]:=rfl;have t2:fo 2=[114,97,110,100,99,32]:=rfl;rcases f4 with rfl|rfl|rfl<;>rcases g4 with rfl|rfl|rfl
  ·exact⟨rfl,List.append_cancel_left h⟩
  ·rw[t0,t1]at h;simp at h
  ·rw[t0,t2]at h;simp at h
  ·rw[t1,t0]at h;simp at h
  ·exact⟨rfl,List.append_cancel_left h⟩
  ·rw[t1,t2]at h;simp at h
  ·rw[t2,t0]at h;simp at h
  ·rw[t2,t1]at h;simp at h
  ·exact⟨rfl,List.append_cancel_left h⟩
 obtain⟨rfl,h⟩:=hm;have nm0:∀{t:ByteArray},aD t=true→∀c,c∈aG t→wdB c=true:=fun ht=>fg ht
 have hS:∀(z:Int) (q:Bs),∀c r,(if 0<z then 91::(b9 z++[93])else[])++([32,58,32]++q)=c::r→wdB c=false:=fun z q c r e=>by
  split at e
  ·exact a8 (P:=wdB) (by decide) c r e
  ·exact a8 (P:=wdB) (d:=32) (by decide) c r e
 obtain⟨e1,e2⟩:=eJ wdB (nm0 f1) (nm0 g1) (hS _ _) (hS _ _) h
 have hsz:sz=sz'∧b9 w++((if m=0 then[32,61,32]++b9 i else[])++[59])=b9 w'++((if m=0 then[32,61,32]++b9 i' else[])++[59]):=by
  by_cases s1:0<sz
  ·by_cases s2:0<sz'
   ·rw[if_pos s1,if_pos s2]at e2;have e2:91::(b9 sz++(93::32::58::32::(b9 w++((if m=0 then[32,61,32]++b9 i else[])++[59]))))=91::(b9 sz'++(93::32::58::32::(b9 w'++((if m=0 then[32,61,32]++b9 i' else[])++[59])))):=by simpa only[List.cons_append,List.nil_append,List.append_assoc]using e2
    obtain⟨k1,k2⟩:=kG f3 g3 (a8 (by decide)) (a8 (by decide)) (List.cons.inj e2).2;exact⟨k1,by simpa only[List.cons.injEq,true_and]using k2⟩
   ·rw[if_pos s1,if_neg s2]at e2;simp at e2
  ·by_cases s2:0<sz'
   ·rw[if_neg s1,if_pos s2]at e2;simp at e2
   ·rw[if_neg s1,if_neg s2]at e2;exact⟨by omega,List.append_cancel_left e2⟩
 obtain⟨rfl,e3⟩:=hsz
 have hI:∀(z:Int),∀c r,(if m=0 then[32,61,32]++b9 z else[])++[59]=c::r→dgB c=false:=fun z c r e=>by
  split at e
  ·exact a8 (P:=dgB) (d:=32) (by decide) c r e
  ·exact a8 (P:=dgB) (d:=59) (by decide) c r e
 obtain⟨rfl,e4⟩:=kG f2 g2 (hI _) (hI _) e3
 have hi:i=i':=by
  by_cases m0:m=0
  ·rw[if_pos m0,if_pos m0]at e4;have e5:=List.append_cancel_left (List.append_cancel_right e4);exact(kG f5 g5 pN pN (q:=[]) (q':=[]) (by rw[List.append_nil,List.append_nil];exact e5)).1
  ·rw[f6 m0,g6 m0]
 rw[gf e1,hi]
theorem oU(f:Fl):(ez f).getLast? = some 59:=gm (fo f.mode++(aG f.name++((if 0<f.size then 91::(b9 f.size++[93])else[])++([32,58,32]++(b9 f.width++(if f.mode=0 then[32,61,32]++b9 f.init else[])))))) (by unfold ez;simp)
theorem pz(b:ByteArray×List It)(B:List (ByteArray×List It)){q:Ln}{t:List Ln}(h:(b::B).flatMap di=q::t):q.2.getLast? = some 123:=by
 rw[List.flatMap_cons]at h;have:=(List.cons.inj h).1;rw[←this];exact gm ([99,111,110,115,116,114,97,105,110,116,32]++(aG b.1++[32])) (by simp)
theorem rE:∀{fs gs:List Fl} {B C:List (ByteArray×List It)},(∀f,f∈fs→FlOk f)→(∀f,f∈gs→FlOk f)→fs.map (fun f=>((0:Nat),ez f))++B.flatMap di=gs.map (fun f=>((0:Nat),ez f))++C.flatMap di→fs=gs∧B.flatMap di=C.flatMap di
 | [],[],_,_,_,_,h=>⟨rfl,h⟩
 | [],g::gs,B,C,_,_,h=>by
  exfalso;cases B with
  | nil=>simp at h
  | cons b B=>
   have:=pz b B (q:=(0,ez g)) h;rw[oU]at this;exact absurd this (by decide)
 | f::fs,[],B,C,_,_,h=>by
  exfalso;cases C with
  | nil=>simp at h
  | cons b C=>
   have:=pz b C (q:=(0,ez f)) h.symm;rw[oU]at this;exact absurd this (by decide)
 | f::fs,g::gs,B,C,h1,h2,h=>by
  simp only[List.map_cons,List.cons_append,List.cons.injEq,Prod.mk.injEq,true_and]at h;obtain⟨e1,e2⟩:=rE (fun x hx=>h1 x (by simp[hx])) (fun x hx=>h2 x (by simp[hx])) h.2;exact⟨by rw[B0 (h1 f (by simp)) (h2 g (by simp)) h.1,e1],e2⟩
theorem ri:∀{B C:List (ByteArray×List It)},(∀b,b∈B→aD b.1=true∧rvl b.2 0=0)→(∀b,b∈C→aD b.1=true∧rvl b.2 0=0)→B.flatMap di=C.flatMap di→B=C
 | [],[],_,_,_=>rfl
 | [],c::C,_,_,h=>by rw[List.flatMap_cons]at h;cases h
 | b::B,[],_,_,h=>by rw[List.flatMap_cons]at h;cases h
 | b::B,c::C,h1,h2,h=>by
  rw[List.flatMap_cons,List.flatMap_cons]at h;have h:((0:Nat),[99,111,110,115,116,114,97,105,110,116,32]++(aG b.1++[32,123]))::(upL (lns b.2)++[(0,[125])]++B.flatMap di)=((0:Nat),[99,111,110,115,116,114,97,105,110,116,32]++(aG c.1++[32,123]))::(upL (lns c.2)++[(0,[125])]++C.flatMap di):=h;obtain⟨e0,e1⟩:=List.cons.inj h;have n1:=gf (List.append_cancel_right (List.append_cancel_left (Prod.mk.inj e0).2));have e1:upL (lns b.2)++((0,[125])::B.flatMap di)=upL (lns c.2)++((0,[125])::C.flatMap di):=by simpa only[List.append_assoc,List.cons_append,List.nil_append]using e1
  obtain⟨u1,u2⟩:=jx ⟨_,_,rfl⟩ ⟨_,_,rfl⟩ e1;have hi:=CO b.2 0 c.2 0 (h1 b (by simp)).2 (h2 c (by simp)).2 u1;rw[ri (fun x hx=>h1 x (by simp[hx])) (fun x hx=>h2 x (by simp[hx])) (List.cons.inj u2).2];congr 1;exact Prod.ext n1 hi
theorem Bl{p p':ByteArray}(h:jD p=jD p'):p=p':=by
 unfold jD at h;by_cases h1:p=⟨#[]⟩
 ·by_cases h2:p'=⟨#[]⟩
  ·rw[h1,h2]
  ·rw[if_pos h1,if_neg h2]at h;cases h
 ·by_cases h2:p'=⟨#[]⟩
  ·rw[if_neg h1,if_pos h2]at h;cases h
  ·rw[if_neg h1,if_neg h2]at h;exact gf (List.append_cancel_left h)
theorem yM(p:ByteArray)(q:Bs):∀c r,jD p++32::q=c::r→wdB c=false:=by
 unfold jD;split
 ·exact a8 (by decide)
 ·exact a8 (d:=32) (by decide)
theorem BI{c k:Kl}(hc:KlOk c)(hk:KlOk k)(h:jZ c=jZ k):c=k:=by
 have h:=zh 0 (tX hc) (tX hk) h;obtain⟨e0,e1⟩:=List.cons.inj h;have nm0:∀{t:ByteArray},aD t=true→∀c,c∈aG t→wdB c=true:=fun ht=>fg ht;obtain⟨n1,n2⟩:=eJ wdB (nm0 hc.nm) (nm0 hk.nm) (yM _ _) (yM _ _) (List.append_cancel_left (Prod.mk.inj e0).2);have n3:=Bl (List.append_cancel_right n2);obtain⟨u1,-⟩:=jx ⟨_,_,rfl⟩ ⟨_,_,rfl⟩ e1;obtain⟨v1,v2⟩:=rE hc.fl hk.fl u1;have v3:=ri (fun b hb=>⟨hc.bn b hb,hc.bi b hb⟩) (fun b hb=>⟨hk.bn b hb,hk.bi b hb⟩) v2;have n4:=gf n1;cases c;cases k;simp only at n3 n4 v1 v3;subst n3 n4 v1 v3;rfl
theorem uw(c:Kl):jZ c≠[]:=by
 unfold jZ Bg;show lnT 0 _++_≠[];unfold lnT blk;simp
theorem bV{C:Cx}{f:FuncId}{args:List V}{σ σ1:List (List V)}{v:V}{K P:V→List (List V)→Prop}{s:Tag K}{t:Tag P}(h:Fun C f args σ (fun o σ'=>o=.ret v∧σ'=σ1))(hk:K v σ1):sT C f args σ K P s t:=
 h.mono fun o σ' ⟨e1,e2⟩=>by subst e1;subst e2;exact hk
theorem dx{n0 k:Nat}{σ' τ:List (List V)}{ρ:am}{rs:List RV}{Q:Out→List (List V)→Prop}(hk:n0≤k)(ht:σ'.take k=τ)(hb:aB k τ=true){v:V}(h:nZ σ' ρ rs=some v)(hv:V.under k v=true)(hq:Q (.ret v) τ):fin n0 rs Q .normal ρ σ':=
 ⟨ρ,σ',.refl _ _ _,v,h,k,hk,by rw[ht];exact hb,hv,by rw[ht];exact hq⟩
theorem d5{σ:List (List V)}{k i:Nat}{cs:List V}(h:aB k σ=true)(hc:V.unders k cs=true):aB k (σ.set i cs)=true:=by
 unfold aB at h ⊢;rw[List.all_eq_true]at h ⊢;intro x hx;rcases List.mem_or_eq_of_mem_set hx with hx|rfl
 ·exact h x hx
 ·exact hc
theorem bQ{i k n:Nat}{t:Option Bs}(h:i<n):V.unders n (pgc i t k)=true:=by
 cases t with
 | none=>rfl
 | some t=>simp[pgc,pgu,V.unders,V.under,h]
theorem B4(i:Nat)(t:Option Bs)(k:Int):(if 3≤(pgc i t k).length∧bR (pgc i t k)=true then fN false (List.take 1 (List.drop 2 (pgc i t k)))else(tyL 1 2 (pgc i t k)).bind (fN false))=some (.d (az k)):=by
 cases t with
 | none=>rw[if_neg (fun h=>by have:=h.1;simp[pgc,tyc]at this)];rfl
 | some t=>rw[if_pos ⟨by simp[pgc,pgu],rfl⟩];rfl
theorem ua:∀k,Lib.repeatL [32,32,32,32] k=blk k
 | 0=>rfl
 | k+1=>by
  rw[Lib.repeatL,ua k,Ew]
theorem t8(k:Nat):(blk k).length=4*k:=List.length_replicate
theorem sK(k:Nat)(hk:k≤1000)(σ:List (List V)):Fun G 47 [.d (an ⟨#[32,32,32,32]⟩),.d (az k)] σ (aZ (.d (an (bs (blk k)))) σ):=
 qW Tryz.func47 (by kernel_rfl) (by kernel_rfl) (by show(bs (blk k)).size≤maxLen;rw[dE,t8];unfold maxLen;omega) fun pr w _=>
  (Tryz.strings_Repeat ⟨#[32,32,32,32]⟩ k w (by omega) (by show 4*k≤_;omega)).mono fun e w' ⟨he,hb⟩=>⟨by rw[he];show _=Ending.returned (.string (bs (blk k)));rw[←ua k];rfl,hb⟩
theorem C2(i:Nat)(t:Option Bs)(k:Int)(l:Bs)(hl:(t.getD []).length+l.length≤140737488355328)(σ:List (List V))(hs:σ[i]? = some (pgc i t k)):
 Fun G 44 [.ptr i 0,.d (an (bs l))] σ (fun o σ'=>o=.ret (.tup [.d (az l.length),.d (.lit .nilIface)])∧σ'=σ.set i (pgc i (some (t.getD []++l)) k)):=by
 have h:=zn i t k (bs l) (by rw[dE];exact hl) σ hs;rw[bH,dE]at h;exact h
set_option maxHeartbeats 4000000 in
theorem Am(i:Nat)(t:Option Bs)(k:Nat)(ps:List ByteArray)(hk:k≤1000)(hl:(t.getD []).length+4*k+(ps.flatMap aG).length+1≤140737488355328)(hp:ps.length≤1000)(σ:List (List V))(hs:σ[i]? = some (pgc i t k)):
 Fun G 28 [.ptr i 0,.d (cT ps)] σ (fun o σ'=>o=.ret (.tup [])∧σ'=σ.set i (pgc i (some (t.getD []++(blk k++(ps.flatMap aG++[10])))) k)):=by
 refine ay Tryz.func28 k28 rfl fun hb hw=>?_;have hi:i<σ.length:=(List.getElem?_eq_some_iff.1 hs).1;have h1:∀X:List V,(σ.set i X)[i]? = some X:=fun X=>List.getElem?_set_self hi;have h2:∀X Y:List V,(σ.set i X).set i Y=σ.set i Y:=fun X Y=>List.set_set X
 have bbt:∀t:Bs,aB (σ.set i (pgc i (some t) k)).length (σ.set i (pgc i (some t) k))=true:=fun t=>by
  rw[List.length_set];exact d5 hb (bQ hi)
 have hbk:=t8 k;unfold c28;simp -dsimp -implicitDefEqProofs only[aw,ah,V.copy,V.lend,V.lend1,V.cells,V.boxable,over,ak,ae,ac,ai,V.plain,Nat.reduceLeDiff,cond_true,cond_false,implies_true,eq_self,ne_eq,reduceIte,reduceCtorEq,Nat.reduceBEq,Nat.reduceLT,Nat.reduceEqDiff,Nat.reduceAdd,Nat.reduceSub,Nat.reduceMul,hs,B4];refine aK (sK k hk _) ?_;simp -dsimp -implicitDefEqProofs only[aw,ah,V.copy,V.lend,V.lend1,V.cells,V.boxable,over,ak,ae,ac,ai,V.plain,Nat.reduceLeDiff,cond_true,cond_false,implies_true,eq_self,ne_eq,reduceIte,reduceCtorEq,Nat.reduceBEq,Nat.reduceLT,Nat.reduceEqDiff,Nat.reduceAdd,Nat.reduceSub,Nat.reduceMul];refine dR (C2 i t k (blk k) (by omega) _ hs) ?_ ?_
 ·simp -dsimp -implicitDefEqProofs only[aw,ah,V.copy,V.lend,V.lend1,V.cells,V.boxable,over,ak,ae,ac,ai,V.plain,Nat.reduceLeDiff,cond_true,cond_false,implies_true,eq_self,ne_eq,reduceIte,reduceCtorEq,Nat.reduceBEq,Nat.reduceLT,Nat.reduceEqDiff,Nat.reduceAdd,Nat.reduceSub,Nat.reduceMul]
 simp -dsimp -implicitDefEqProofs only[aw,ah,V.copy,V.lend,V.lend1,V.cells,V.boxable,over,ak,ae,ac,ai,V.plain,Nat.reduceLeDiff,cond_true,cond_false,implies_true,eq_self,ne_eq,reduceIte,reduceCtorEq,Nat.reduceBEq,Nat.reduceLT,Nat.reduceEqDiff,Nat.reduceAdd,Nat.reduceSub,Nat.reduceMul,cT,List.length_map];refine aS [0,15,16,17] (fun(j:Nat) ρ σ'=>ρ=[(0,.ptr i 0),(15,.d (.sl (ps.map fun s=>[an s]))),(16,aI .i64 ps.length),(17,aI .i64 j)]∧σ'=σ.set i (pgc i (some (t.getD []++blk k++(ps.take j).flatMap aG)) k)) ps.length ⟨rfl,by simp⟩ ?_ _;rintro j ρ' σ' hj ⟨rfl,rfl⟩
 have hlen:∀j,((ps.take j).flatMap aG).length≤(ps.flatMap aG).length:=fun j=>by
  have:=congrArg List.length (List.flatMap_append (f:=aG) (xs:=ps.take j) (ys:=ps.drop j));rw[List.take_append_drop,List.length_append]at this;omega
 by_cases hlt:j<ps.length
 ·have wj:=aJ hlt (show ps.length≤9223372036854775807 by omega);have hn:(ps.take (j+1)).flatMap aG=(ps.take j).flatMap aG++aG ps[j]:=by rw[List.take_succ_eq_append_getElem hlt,List.flatMap_append];simp
  have hlj:=hlen (j+1);rw[hn,List.length_append]at hlj;simp -dsimp -implicitDefEqProofs only[aw,ah,V.copy,V.lend,V.lend1,V.cells,V.boxable,over,ak,ae,ac,ai,V.plain,Nat.reduceLeDiff,cond_true,cond_false,implies_true,eq_self,ne_eq,reduceIte,reduceCtorEq,Nat.reduceBEq,Nat.reduceLT,Nat.reduceEqDiff,Nat.reduceAdd,Nat.reduceSub,Nat.reduceMul,Int.ofNat_lt,hlt,decide_true,List.getElem?_eq_getElem hlt];refine bV (zn i _ k ps[j] (by simp only[Option.getD_some,List.length_append];have:ps[j].size=(aG ps[j]).length:=rfl;omega) _ (h1 _)) ?_;simp -dsimp -implicitDefEqProofs only[aw,ah,V.copy,V.lend,V.lend1,V.cells,V.boxable,over,ak,ae,ac,ai,V.plain,Nat.reduceLeDiff,cond_true,cond_false,implies_true,eq_self,ne_eq,reduceIte,reduceCtorEq,Nat.reduceBEq,Nat.reduceLT,Nat.reduceEqDiff,Nat.reduceAdd,Nat.reduceSub,Nat.reduceMul,wj,h2]
  exact⟨hlt,Nxt.same (by simp) (bbt _) (by simp[ax,V.under];exact hi) ⟨rfl,by rw[hn];simp[aG,List.append_assoc]⟩⟩
 ·have hj':j=ps.length:=by omega
  subst hj';simp -dsimp -implicitDefEqProofs only[aw,ah,V.copy,V.lend,V.lend1,V.cells,V.boxable,over,ak,ae,ac,ai,V.plain,Nat.reduceLeDiff,cond_true,cond_false,implies_true,eq_self,ne_eq,reduceIte,reduceCtorEq,Nat.reduceBEq,Nat.reduceLT,Nat.reduceEqDiff,Nat.reduceAdd,Nat.reduceSub,Nat.reduceMul,Int.ofNat_lt,hlt,decide_false];refine bV (C2 i _ k [10] (by simp only[Option.getD_some,List.length_append,List.take_length,List.length_cons,List.length_nil];omega) _ (h1 _)) ?_;simp -dsimp -implicitDefEqProofs only[aw,ah,V.copy,V.lend,V.lend1,V.cells,V.boxable,over,ak,ae,ac,ai,V.plain,Nat.reduceLeDiff,cond_true,cond_false,implies_true,eq_self,ne_eq,reduceIte,reduceCtorEq,Nat.reduceBEq,Nat.reduceLT,Nat.reduceEqDiff,Nat.reduceAdd,Nat.reduceSub,Nat.reduceMul,h2]
  refine dx (v:=.tup []) (k:=σ.length) (τ:=σ.set i (pgc i (some (t.getD []++blk k++(ps.take ps.length).flatMap aG++[10])) k)) (Nat.le_refl _) ?_ (d5 hb (bQ hi)) rfl rfl ⟨rfl,?_⟩
  ·rw[List.take_of_length_le (by simp)];simp[List.append_assoc]
  ·first|rfl|(rw[List.take_length,List.append_assoc,List.append_assoc,List.append_assoc])|simp[List.append_assoc]
end Go.Proofs.YtcbahpllcfbkmaaGreatDoor
