import Derived.Test.YtnhphlmblenapaaGreatDoorK9
set_option linter.unusedVariables false
set_option linter.unusedSimpArgs false
set_option linter.unusedSectionVars false
set_option maxRecDepth 100000
set_option maxHeartbeats 1200000
open Int renaming ofNat_lt->Pa
open List renaming getElem?_eq_getElem->Pb,length_cons->Pd,map_cons->Pe,length_map->Pf,map_nil->Pg,drop_eq_getElem_cons->Ph,length_nil->Pi,map_append->Pj,take_left->Pk,mem_or_eq_of_mem_set->Pl,take_of_length_le->Pm,drop_eq_nil_of_le->Pn,length_append->Po,take_add_one->Pp,getElem?_map->Pq,flatMap_cons->Pr,getElem_mem->Ps,cons_append->Pt
open Nat renaming le_refl->Pu,succ_mul->Pv,zero_le->Pw
namespace Go.Proofs.YtnhphlmblenapaaGreatDoor
open Go.RowKit Go.Shelf
theorem At{C:Cx}{f:FuncId}{args:List V}{T k:Nat}{rows:LLD}{σ:LLV}(h:Fun C f args σ (aO (.own T k rows) σ)):Fun C f args σ (aO (.d (.sl rows)) σ):=
 ⟨h.1,fun M bm tk pr w vs hG hI ht hl hr=>(h.2 M bm tk pr w vs hG hI ht hl hr).mono fun e w' ⟨M',bm',tk',σ',o,⟨h1,h2⟩,h3,h4,h5⟩=>by
   subst h1;subst h2;obtain⟨u,g1,g2⟩:=h5.1 _ rfl;refine⟨M',bm',tk',σ',.ret (.d (.sl rows)),⟨rfl,rfl⟩,h3,h4,fun v e=>?_,fun v e=>by cases e⟩;cases e;refine⟨u,g1,?_,fun T k rows e=>by cases e⟩;cases g2.rep with
   | own h=>exact .d h⟩
theorem nH(l:List ByteArray)(hl:l.length≤1200000)(σ:LLV):Fun G 123 [.d (dB l)] σ (aO (.d (dB l)) σ):=At (rE l hl σ)
theorem FJ:∃i0,Tryz.prog.info? 56=some i0/\i0.zero=some (.agg #[.int .i64 0,.int .i64 0,.int .i64 0,.bool false])/\i0.size=4/\i0.bytes=32:=by
 have h:(Tryz.prog.info? 56).map (fun i=>(i.zero,i.size,i.bytes))=some (some (.agg #[.int .i64 0,.int .i64 0,.int .i64 0,.bool false]),4,32):=by kernel_rfl
 cases hi:Tryz.prog.info? 56 with
 | none=>rw[hi]at h;cases h
 | some i0=>rw[hi]at h;simp only[Option.map_some,Option.some.injEq,Prod.mk.injEq]at h;exact⟨i0,rfl,h.1,h.2.1,h.2.2⟩
theorem mf{M M':ao}{u v:Value}(h:DRep M (.lit u) v):DRep M' (.lit u) v:=by
 cases h with|lit _ h=>exact .lit _ h
theorem wH(ws:List Wt)(h0:ws≠[])(hl:ws.length≤1200000)(σ:LLV):Fun G 204 [.d (.sl (ws.map dwt))] σ (aO (.d (.sl (ws.map dwt))) σ):=
 nJ Tryz.func204 (by kernel_rfl) (by kernel_rfl) (fun _ _ _ h=>by cases h) fun M bm w vs hG hM hn hr=>match vs,hn with
  | [v],_=>by
   have h1:Rep M bm (.d (.sl (ws.map dwt))) v:=hr 0 (by simp) (by simp);cases h1 with
   | d h1=>
   obtain⟨p,cap,rfl,hle,hcm⟩:=cZ h1;have hk:∀r,r∈ws.map dwt->r.length=4:=fun r hr=>by obtain⟨x,-,rfl⟩:=List.mem_map.1 hr;rfl
   have hpos:0<(ws.map dwt).length:=by rw[Pf];exact List.length_pos_iff.2 h0
   obtain⟨b,off,news,rfl,-,hnl,hnews,hnd⟩:=kC hM h1 hk hpos;obtain⟨i0,hi,z0,z1,z2⟩:=FJ;refine(AnyE.slices_Clone (ρ:=Tryz.cloneWA_ren) Tryz.cloneWA i0 _ 4 32 hi z0 z1 z2 rfl (by decide) (fun w=>Tryz.sizeOf56 w) b off (ws.map dwt).length cap news w hnl (by unfold maxLen;rw[Pf];omega) (by rw[Pf];omega) (fun j u hu=>?_) (fun u hu=>?_)).mono ?_
   .have:=(hnews j u hu).2.1;rwa[cq]at this
   .obtain⟨j,hj,rfl⟩:=List.getElem_of_mem hu;exact(hnews j _ (Pb hj)).2.2
   .rintro e w' ⟨v',g1,g2,-,g4⟩;refine⟨v',g1,g4,?_⟩;rcases g2.2 with⟨rfl,e0⟩|⟨g,cap',cur,rfl,hb,hh,h5,h6,h7,h8⟩
    .omega
    .refine .d (oQ (k:=4) hk news hnl (fun j u hu=>?_) (fun i j hi hj hv=>?_) h5 h6)
     .have:=g2.cells (g:=g) rfl j u hu;rw[cq]at this;unfold uI;rw[if_pos hb];exact this
     .have h9:=hnd i j hi hj hv;have e1:(ws.map dwt)[i]=dwt (ws[i]'(by simpa using hi)):=by simp
      simp only[e1]at h9 ⊢;have hj4:j<4:=by rw[e1]at hj;exact hj
      match j,hj4 with
      | 0,_=>exact mf h9
      | 1,_=>exact mf h9
      | 2,_=>exact mf h9
      | 3,_=>exact mf h9
theorem tO(p:Option Addr)(cap:Nat)(w:World):Calls Tryz.prog 204 #[.slice p 0 cap] w fun e w'=>(∃q,e=.returned (.slice q 0 0))/\Ext w w':=by
 refine(callsIn_wide (n:=3)).1 ?_;refine callsIn_of_wp Tryz.func204 rfl trivial ?_ rfl;have q22:∀(w:World) (a:Option Addr) (n c n' c':Nat),(binOp .eql 51 (.slice a n c) (.slice none n' c')).run Tryz.prog w=.ok (.bool a.isNone) w:=fun w a n c n' c'=>Lib.run_eql_slice_nil w _ _ a n c n' c' Tryz.underlying51;simp only[Tryz.ntmps204,List.size_toArray,Pd,Pi,Nat.reduceAdd,Nat.reduceSub,Array.replicate_succ,Array.replicate_zero,List.push_toArray,List.append_toArray,List.nil_append,Pt];cases p with
 | none=>
  gi_wp2
  go_ret;exact⟨⟨_,rfl⟩,Ext.refl _⟩
 | some a=>
  gi_wp2
  go_ret;exact⟨⟨_,rfl⟩,rfl,rfl,rfl,by simp,fun b hb=>Below.heap_alloc w _ b hb⟩
theorem wU(ws:List Wt)(hl:ws.length≤1200000)(σ:LLV):Fun G 204 [.d (.sl (ws.map dwt))] σ (aO (.d (.sl (ws.map dwt))) σ):=by
 by_cases h0:ws=[]
 .subst h0;refine nJ Tryz.func204 (by kernel_rfl) (by kernel_rfl) (fun _ _ _ h=>by cases h) fun M bm w vs hG hM hn hr=>?_
  match vs,hn with
  | [v],_=>
   have h1:Rep M bm (.d (.sl ((List.nil:List Wt).map dwt))) v:=hr 0 (by simp) (by simp);cases h1 with
   | d h1=>
   obtain⟨p,cap,rfl,hle,hcm⟩:=cZ h1;refine(tO p cap w).mono fun e w' ⟨⟨q,g1⟩,g2⟩=>⟨_,g1,g2,.d (.sl [] 0 _ _ (fun _ _=>.nilIface) (by simp) (fun i j hi=>by simp at hi) (fun i hi=>by simp at hi) (Pw _) (Pw _))⟩
 .exact wH ws h0 hl σ
end Go.Proofs.YtnhphlmblenapaaGreatDoor
namespace Go.Proofs.YtnhphlmblenapaaGreatDoor
open Go.RowKit Go.Shelf
theorem D0{P:List It->Prop}(h:∀l,(∀a,a∈l->P a.items/\P a.els)->P l):∀l,P l:=by
 have H:∀n l,dV l≤n->P l:=by
  intro n
  induction n with
  | zero=>
   intro l hl;refine h l fun a ha=>?_;have:=mA ha;have:=om a;omega
  | succ n ih=>
   intro l hl;refine h l fun a ha=>?_;have h1:=mA ha;have h2:=pG a;exact⟨ih _ (by omega),ih _ (by omega)⟩
 exact fun l=>H _ l (Pu _)
theorem Jl{l:List Ex}{a:Ex}(h:a∈l):bN a≤bH l:=by
 induction l with
 | nil=>cases h
 | cons b r ih=>
  simp only[bH];rcases List.mem_cons.1 h with rfl|h
  .omega
  .have:=ih h;omega
theorem Gh(l:List Ex):l.length≤bH l:=by
 induction l with
 | nil=>exact Pu _
 | cons b r ih=>
  have:1≤bN b:=by cases b;simp only[bN];omega
  simp only[bH,Pd];omega
theorem AA(e:Ex):bN e≤1200000->∀(σ:LLV),Fun G 203 [vex e] σ (aO (vex e) σ):=by
 induction e using Ex.ind with
 | h o n s l ih=>
 intro hz σ;have hle:=Gh l;have hes:bH l<1200000:=by simp only[bN]at hz;omega
 refine al Tryz.func203 NY (by simp only[au];rfl) fun hb hw=>?_;unfold Mo;simp -dsimp only[aw,seval,au];simp only[Ex.op,Ex.num,Ex.name,Ex.args];refine aI [1,2,3,7,8,9] (fun(j:Nat) ρ σ'=>ρ=[(1,.ptr σ.length 0),(2,.ptr (σ.length+1) 0),(3,.own 50 4 ((l.take j).map dex)),(7,.d (.sl (l.map dex))),(8,aC .i64 l.length),(9,aC .i64 j)]/\σ'=σ++[[.d (aa o),.d (aa n),.d (ae s),.d (.sl (l.map dex))],[.d (aa 0),.d (aa 0),.d (ae ⟨#[]⟩),.nil]]) l.length ⟨rfl,rfl⟩ ?_ _;rintro j ρ' σ' hj ⟨rfl,rfl⟩;by_cases hlt:j<l.length
 .have hm:=Ps hlt;have ht:l.take (j+1)=l.take j++[l[j]]:=by rw[Pp,Pb hlt];rfl
  simp -dsimp only[aw,seval,Pa,hlt,decide_true,Pb hlt,bV l[j]];refine aj (by simpa only[au]using ih l[j] hm (by have:=Jl hm;omega) _) ?_;simp -dsimp only[aw,seval,au];refine aU (by simp;omega) ?_;simp -dsimp only[aw,seval,aJ hlt (show l.length≤9223372036854775807 by omega)];refine⟨hlt,Nxt.to (σ++[[.d (aa o),.d (aa n),.d (ae s),.d (.sl (l.map dex))],[.d (aa 0),.d (aa 0),.d (ae ⟨#[]⟩),.nil]]) [[.d (aa l[j].op),.d (aa l[j].num),.d (ae l[j].name),.d (.sl (l[j].args.map dex))]] (by simp) (by simp) (aq hb rfl) (by simp[an,V.under]) ⟨?_,rfl⟩⟩;rw[ht,Pj];simp only[Pe,Pg,bV l[j]]
 .rw[Pm (by omega)];simp -dsimp only[aw,seval,Pa,hlt];exact aF (v:=vex (.mk o n s l)) hb (by rw[au];simp[GU,aL,bc,Ex.op,Ex.num,Ex.name,Ex.args,aw,seval]) (by rw[au];rfl) Pk ⟨rfl,rfl⟩
def itc(x:It):List V:=[.d (aa x.kind),.d (aa x.ex.op),.d (aa x.ex.num),.d (ae x.ex.name),.d (.sl (x.ex.args.map dex)),.d (ae x.name),.d (ae x.idx),.d (.sl (x.ws.map dwt)),.d (.sl (x.items.map dit)),.d (.sl (x.els.map dit)),.d (.sl (x.bef.map fun s=>[ae s])),.d (.sl (x.aft.map fun s=>[ae s]))]
theorem uV:∀(l:List It),bi l≤1200000->∀(σ:LLV),Fun G 152 [.d (cT l)] σ (aO (.d (cT l)) σ):=by
 refine D0 fun l ih hz σ=>?_;have hll:=nf l;refine al Tryz.func152 NL rfl fun hb hw=>?_;unfold JM;simp -dsimp only[aw,seval,Pf];refine aI [3,6,7,8] (fun(j:Nat) ρ σ'=>ρ=[(3,.own 54 12 ((l.take j).map dit)),(6,.d (cT l)),(7,aC .i64 l.length),(8,aC .i64 j)]/\σ'=σ) l.length ⟨rfl,rfl⟩ ?_ _;rintro j ρ' σ' hj ⟨rfl,rfl⟩;by_cases hlt:j<l.length
 .have hm:=Ps hlt;have ht:l.take (j+1)=l.take j++[l[j]]:=by rw[Pp,Pb hlt];rfl
  have hsz:=gz hm;have hbe:=fU l[j];obtain⟨ih1,ih2⟩:=ih _ hm;obtain⟨x,hx⟩:∃x,x=l[j]:=⟨_,rfl⟩
  rw[<-hx]at hsz hbe ih1 ih2 ht;have hd:=eV x;have e1:(l.map dit)[j]? = some (dit x):=by rw[Pq,Pb hlt,hx];rfl
  simp -dsimp only[aw,seval,Pa,hlt,e1,hd];refine aj (by simpa only[au]using AA x.ex (by omega) _) ?_;simp -dsimp only[aw,seval,au];refine aj (wU x.ws (by omega) _) ?_;simp -dsimp only[aw,seval];refine bp (v:=.d (cT x.items)) (ih1 (by omega) _) ?_;simp -dsimp only[aw,seval];refine bp (v:=.d (cT x.els)) (ih2 (by omega) _) ?_;simp -dsimp only[aw,seval];refine bp (v:=.d (dB x.bef)) (nH x.bef (by omega) _) ?_;simp -dsimp only[aw,seval,dB]
  refine bp (v:=.d (dB x.aft)) (nH x.aft (by omega) _) ?_;simp -dsimp only[aw,seval,dB];refine aU (by simp;omega) ?_;simp -dsimp only[aw,seval,aJ hlt (show l.length≤9223372036854775807 by omega)];refine⟨hlt,Nxt.to σ' [itc x] (by simp[itc]) (Pu _) hb (by simp[an,V.under]) ⟨?_,rfl⟩⟩;rw[ht,Pj];simp only[Pe,Pg,hd]
 .rw[Pm (by omega)];simp -dsimp only[aw,seval,Pa,hlt];exact av hb rfl rfl
end Go.Proofs.YtnhphlmblenapaaGreatDoor
namespace Go.Proofs.YtnhphlmblenapaaGreatDoor
open Go.RowKit
def bcl(l:List Bk):List V:=l.flatMap fun b=>[.d (ae b.1),.d (cT b.2)]
theorem hZ(l:List Bk):(bcl l).length=l.length*2:=by
 induction l with
 | nil=>rfl
 | cons b r ih=>simp only[bcl,Pr,Po,Pd,Pi]at ih ⊢;omega
theorem sI(l m:List Bk):bcl (l++m)=bcl l++bcl m:=List.flatMap_append
theorem ph:∀(l:List Bk) (j:Nat) (rest:List V),j≤l.length->(bcl l++rest).drop (j*2)=bcl (l.drop j)++rest
 | l,0,rest,_=>by simp
 | b::r,j+1,rest,h=>by
  have:=ph r j rest (by simpa using h);rw[Pv,List.drop_succ_cons];simpa[bcl]using this
theorem ug:∀(l:List Bk) (j:Nat) (rest:List V),j≤l.length->(bcl l++rest).take (j*2)=bcl (l.take j)
 | l,0,rest,_=>by simp[bcl]
 | b::r,j+1,rest,h=>by
  have:=ug r j rest (by simpa using h);rw[Pv,List.take_succ_cons];simpa[bcl]using this
theorem I7{l:List Bk}{j:Nat}(h:j<l.length)(rest:List V):List.take 2 (List.drop (j*2) (bcl l++rest))=[.d (ae l[j].1),.d (cT l[j].2)]:=by
 have e:bcl (l.drop j)=.d (ae l[j].1)::.d (cT l[j].2)::bcl (l.drop (j+1)):=by rw[Ph h];rfl
 rw[ph l j rest (by omega),e];rfl
theorem Fb{l:List Bk}{j:Nat}(h:j<l.length)(rest:List V)(b:Bk):over (bcl l++rest) (j*2) [.d (ae b.1),.d (cT b.2)]=bcl (l.set j b)++rest:=by
 unfold over;rw[ug l j rest (by omega),Pd,Pd,Pi,show j*2+(0+1+1)=(j+1)*2 by omega,ph l (j+1) rest (by omega),List.set_eq_take_append_cons_drop,if_pos h,sI];simp[bcl]
def uJ(σ:LLV)(k i:Nat)(X:V)(l:List Bk):Prop:=
 (X=.nil/\l=[])\/∃j c rest,X=.bsc j l.length c/\(k≤j/\j≠i/\l.length≤c)/\σ[j]? = some (bcl l++rest)/\(bcl l++rest).length=c*2/\bT (bcl l++rest)=true
def uU(n:ByteArray)(b:Bk):Bool:=decide (b.1=n)
def p6(n:ByteArray):List Bk->Int->Int
 | [],_=>-1
 | b::r,k=>if uU n b=true then k else p6 n r (k+1)
def isF(n:ByteArray)(f:Fl):Bool:=decide (f.name=n)
def tV(n:ByteArray):List Fl->Int->Int
 | [],_=>-1
 | b::r,k=>if isF n b=true then k else tV n r (k+1)
theorem tQ(n:ByteArray):∀(l:List Fl) (k:Int),0≤k->decide (0≤tV n l k)=l.any (isF n)
 | [],k,_=>rfl
 | b::r,k,h=>by
  rw[tV,List.any_cons];cases e:isF n b
  .rw[if_neg (by simp),tQ n r (k+1) (by omega)];rfl
  .rw[if_pos rfl];simpa using h
theorem Fy(b:Bk)(n:ByteArray)(Z:V)(p:Nat)(σ:LLV)(h:σ[p]? = some [.d (ae n),Z]):Fun G 153 [.agg [.d (ae b.1),.d (cT b.2)],.ptr p 0] σ (aO (ak (uU n b)) σ):=by
 refine al Tryz.func153 Nc rfl fun hb hw=>?_;unfold JH;simp -dsimp only[aw,seval,am h];exact av hb rfl rfl
theorem GE(f:Fl)(n:ByteArray)(a b c d:V)(p:Nat)(σ:LLV)(h:σ[p]? = some [.d (ae n),a,b,c,d]):Fun G 151 [.agg ((dfl f).map V.d),.ptr p 0] σ (aO (ak (isF n f)) σ):=by
 refine al Tryz.func151 Ov rfl fun hb hw=>?_;unfold KB;simp -dsimp only[aw,seval,am h,dfl,Pe,Pg];exact av hb rfl rfl
theorem tf{l:List Bk}{σ:LLV}{k i:Nat}{X:V}(hX:uJ σ k i X l)(hl:l.length≤1200000)(n:ByteArray)(Z:V)(p:Nat)(h:σ[p]? = some [.d (ae n),Z]):Fun G 148 [X.lend,.fn 153 [.ptr p 0]] σ (aO (.d (aa (p6 n l 0))) σ):=by
 have hpl:=(List.getElem?_eq_some_iff.1 h).1;refine al Tryz.func148 K4 (by rcases hX with⟨rfl,-⟩|⟨j0,c,rest,rfl,-⟩<;>rfl) fun hb hw=>?_;unfold Hh;rcases hX with⟨rfl,rfl⟩|⟨j0,c,rest,rfl,⟨hk,hji,hlc⟩,hs,hlen,hnm⟩
 .simp -dsimp only[aw,seval];refine aI [0,1,7,8] (fun(j:Nat) ρ σ'=>ρ=[(0,.d (.sl [])),(1,.fn 153 [.ptr p 0]),(7,aC .i64 (0:Nat)),(8,aC .i64 j)]/\σ'=σ) 0 ⟨rfl,rfl⟩ ?_ _;rintro j ρ' σ' hj ⟨rfl,rfl⟩;obtain rfl:j=0:=by omega
  rw[show p6 n [] 0 = -1 from rfl];simp -dsimp only[aw,seval,Pa,Nat.lt_irrefl];exact av hb rfl rfl
 have hjl:=(List.getElem?_eq_some_iff.1 hs).1;simp -dsimp only[aw,seval];refine aI [0,1,7,8] (fun(j:Nat) ρ σ'=>ρ=[(0,.bsc j0 l.length c),(1,.fn 153 [.ptr p 0]),(7,aC .i64 l.length),(8,aC .i64 j)]/\σ'=σ/\p6 n l 0=p6 n (l.drop j) j) l.length ⟨rfl,rfl,rfl⟩ ?_ _;rintro j ρ' σ' hj ⟨rfl,rfl,hI⟩;by_cases hlt:j<l.length
 .have wj:=aJ hlt (show l.length≤9223372036854775807 by omega);have e1:=I7 hlt rest;have e2:j*2+2≤(bcl l).length+rest.length:=by rw[<-Po,hlen];omega
  have f1:=Fy l[j] n Z p;rw[Ph hlt,p6]at hI;rw[hI];simp -dsimp only[aw,seval,Pa,hlt,hs,e1,e2,hnm,Pe,Pg];refine aj (f1 _ h) ?_;cases hn:uU n l[j]with
  | true=>
   rw[if_pos rfl];simp -dsimp only[aw,seval];exact av hb rfl rfl
  | false=>
   rw[if_neg (show ¬(false=true)by simp)];rw[hn,if_neg (show ¬(false=true)by simp)]at hI;simp -dsimp only[aw,seval,wj];exact⟨hlt,Nxt.same (Pu _) hb (by simp[an,V.under,V.unders];exact⟨hjl,hpl⟩) ⟨rfl,rfl,by rw[show((j+1:Nat):Int)=(j:Int)+1 by omega]⟩⟩
 .rw[Pn (by omega),p6]at hI;rw[hI];simp -dsimp only[aw,seval,Pa,hlt];exact av hb rfl rfl
theorem Dl(l:List Fl)(hl:l.length≤1200000)(n:ByteArray)(a b c d:V)(p:Nat)(σ:LLV)(h:σ[p]? = some [.d (ae n),a,b,c,d]):Fun G 202 [.d (.sl (l.map dfl)),.fn 151 [.ptr p 0]] σ (aO (.d (aa (tV n l 0))) σ):=by
 have hpl:=(List.getElem?_eq_some_iff.1 h).1;refine al Tryz.func202 Nh rfl fun hb hw=>?_;unfold Ke;simp -dsimp only[aw,seval,Pf];refine aI [0,1,7,8] (fun(j:Nat) ρ σ'=>ρ=[(0,.d (.sl (l.map dfl))),(1,.fn 151 [.ptr p 0]),(7,aC .i64 l.length),(8,aC .i64 j)]/\σ'=σ/\tV n l 0=tV n (l.drop j) j) l.length ⟨rfl,rfl,rfl⟩ ?_ _;rintro j ρ' σ' hj ⟨rfl,rfl,hI⟩;by_cases hlt:j<l.length
 .have wj:=aJ hlt (show l.length≤9223372036854775807 by omega);have e1:(l.map dfl)[j]? = some (dfl l[j]):=by rw[Pq,Pb hlt];rfl
  have d1:∀f:Fl,dfl f=[ae f.name,aa f.width,aa f.size,aa f.mode,aa f.init]:=fun _=>rfl;have f1:=GE l[j] n a b c d p;simp only[d1,Pe,Pg]at f1;rw[Ph hlt,tV]at hI;rw[hI];simp -dsimp only[aw,seval,Pa,hlt,e1,d1,Pe,Pg];refine aj (f1 _ h) ?_;cases hn:isF n l[j]with
  | true=>
   rw[if_pos rfl];simp -dsimp only[aw,seval];exact av hb rfl rfl
  | false=>
   rw[if_neg (show ¬(false=true)by simp)];rw[hn,if_neg (show ¬(false=true)by simp)]at hI;simp -dsimp only[aw,seval,wj];exact⟨hlt,Nxt.same (Pu _) hb (by simp[an,V.under,V.unders];exact hpl) ⟨rfl,rfl,by rw[show((j+1:Nat):Int)=(j:Int)+1 by omega]⟩⟩
 .rw[Pn (by omega),tV]at hI;rw[hI];simp -dsimp only[aw,seval,Pa,hlt];exact av hb rfl rfl
theorem C8(l:List Fl)(hl:l.length≤1200000)(n:ByteArray)(a b c d:V)(p:Nat)(σ:LLV)(h:σ[p]? = some [.d (ae n),a,b,c,d]):Fun G 150 [.d (.sl (l.map dfl)),.fn 151 [.ptr p 0]] σ (aO (ak (l.any (isF n))) σ):=by
 have hpl:=(List.getElem?_eq_some_iff.1 h).1;refine al Tryz.func150 OL rfl fun hb hw=>?_;unfold K2;simp -dsimp only[aw,seval];refine aj (Dl l hl n a b c d p _ h) ?_;simp -dsimp only[aw,seval];rw[<-tQ n l 0 (Int.le_refl _)];exact av hb rfl rfl
end Go.Proofs.YtnhphlmblenapaaGreatDoor
namespace Go.Proofs.YtnhphlmblenapaaGreatDoor
open Go.RowKit Go.Shelf
structure Ft where
 name:ByteArray
 flds:List Fl
 blks:List Bk
 clash:Bool
def kG(l:List Bk)(b:Bk):List Bk:=match l.findIdx? (uU b.1)with
 | some i=>l.set i b
 | none=>l++[b]
def clF(fs:List Fl)(c:Bool)(l:List Fl):Bool:=l.foldl (fun c x=>c||fs.any (isF x.name)) c
def exT(s:Ft)(c:Kl):Ft:=⟨c.name,s.flds++c.flds,c.blks.foldl kG s.blks,clF s.flds s.clash c.flds⟩
def ftc(s:Ft)(X:V):List V:=[.d (ae s.name),.d (ae ⟨#[]⟩),.own 74 5 (s.flds.map dfl),X,ak s.clash]
def FtV(σ:LLV)(k i:Nat)(s:Ft):Prop:=∃X,σ[i]? = some (ftc s X)/\uJ σ k i X s.blks
def kf(σ:LLV):Prop:=nc σ/\ai σ.length σ=true
theorem qQ{k j:Nat}(h:k≤j){cs:List V}(hc:V.unders k cs=true):V.unders j cs=true:=V.unders_mono h cs hc
theorem kf.app{σ:LLV}(h:kf σ){cs:List V}(h1:bT cs=true)(h2:V.unders (σ.length+1) cs=true):kf (σ++[cs]):=by
 refine⟨fun x hx=>?_,aq h.2 (by simpa using h2)⟩;rcases List.mem_append.1 hx with hx|hx
 .exact h.1 x hx
 .simp at hx;subst hx;exact h1
theorem kf.set{σ:LLV}(h:kf σ){i:Nat}{cs:List V}(h1:bT cs=true)(h2:V.unders σ.length cs=true):kf (σ.set i cs):=by
 refine⟨fun x hx=>?_,?_⟩
 .rcases Pl hx with hx|rfl
  .exact h.1 x hx
  .exact h1
 .have h3:=h.2;rw[List.length_set];unfold ai at h3 ⊢;rw[List.all_eq_true]at h3 ⊢;intro x hx;rcases Pl hx with hx|rfl
  .exact h3 x hx
  .exact h2
theorem lA(k:Nat)(l:List Bk):V.unders k (bcl l)=true:=by
 induction l with
 | nil=>rfl
 | cons b r ih=>simpa[bcl,V.unders,V.under]using ih
theorem iN{k:Nat}{a b:List V}:V.unders k (a++b)=(V.unders k a&&V.unders k b):=by
 induction a with
 | nil=>rfl
 | cons x r ih=>simp only[Pt,V.unders,ih,Bool.and_assoc]
theorem lH(k n:Nat):V.unders k (cC [.d (ae ⟨#[]⟩),.nil] n)=true:=V.unders_of fun j hj=>by
 obtain⟨h1,h2⟩:=o0 hj;rw[h2];have h3:j%2=0\/j%2=1:=by omega
 have h4:∀q (h:q < [V.d (ae ⟨#[]⟩),V.nil].length),V.under k [V.d (ae ⟨#[]⟩),V.nil][q]=true:=fun q h=>by
  match q,h with
  | 0,_=>rfl
  | 1,_=>rfl
 exact h4 _ _
theorem ir{l:List Bk}(h:l≠[])(rest:List V):bT (bcl l++rest)=true:=by
 obtain⟨b,r,rfl⟩:=List.exists_cons_of_ne_nil h;simp[bcl]
theorem qF(n:ByteArray):∀(l:List Bk) (k:Int),(l.findIdx? (uU n)=none/\p6 n l k = -1)\/∃i:Nat,l.findIdx? (uU n)=some i/\i<l.length/\p6 n l k=k+i
 | [],k=>.inl ⟨rfl,rfl⟩
 | b::r,k=>by
  rw[p6,List.findIdx?_cons];cases e:uU n b
  .rw[if_neg (by simp),if_neg (by simp)];rcases qF n r (k+1)with⟨h1,h2⟩|⟨i,h1,h2,h3⟩
   .exact .inl ⟨by rw[h1];rfl,h2⟩
   .exact .inr ⟨i+1,by rw[h1];rfl,by simpa using h2,by rw[h3];omega⟩
  .rw[if_pos rfl,if_pos rfl];exact .inr ⟨0,rfl,by simp,by simp⟩
theorem sQ{k:Nat}{cs:List V}(h:V.unders k cs=true)(n:Nat):V.unders k (cs.drop n)=true:=V.unders_of fun j hj=>by
 rw[List.getElem_drop];exact V.unders_get h _ _
theorem C1(l:List Bk)(b:Bk):(kG l b).length≤l.length+1:=by
 unfold kG;split
 .simp
 .simp
theorem DG{bl:List Bk}{rest:List V}(b:Bk):over (bcl bl++rest) (bl.length*2) [.d (ae b.1),.d (cT b.2)]=bcl (bl++[b])++rest.drop 2:=by
 unfold over;have e:bl.length*2=(bcl bl).length:=(hZ bl).symm;rw[e,Pk,Pd,Pd,Pi,<-List.drop_drop,List.drop_left,sI];rfl
theorem Eg(bl:List Bk)(rest:List V):((bcl bl++rest).take (bl.length*2)).map V.copy=bcl bl:=by
 have e:bl.length*2=(bcl bl).length:=(hZ bl).symm;rw[e,Pk]
 induction bl with
 | nil=>rfl
 | cons b r ih=>
  have ih:=ih (hZ r).symm;simp only[bcl,Pr,Pj]at ih ⊢;rw[ih];rfl
theorem Gz{i m c:Nat}{src:List V}{bytes:Nat}{z:List V}{σ:LLV}{f:V->LLV->Prop}{t:Tag f}{cs:List V}(h:σ[i]? = some cs)(h1:cs.length=c*z.length/\bT cs=true/\(m+1)*bytes≤140737488355328)(h2:m+1≤c->f (.bsc i (m+1) c) (σ.set i (over cs (m*z.length) src)))
 (h3:c<m+1->∀c',m+1≤c'->f (.bsc σ.length (m+1) c') (σ++[(cs.take (m*z.length)).map V.copy++src++cC z (c'-(m+1))])):avT (.bsc i m c) src bytes z σ f t:=by
 unfold avT iB;simp only[h];exact⟨h1,h2,h3⟩
end Go.Proofs.YtnhphlmblenapaaGreatDoor
