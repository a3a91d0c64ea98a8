import Derived.Lib.SlBytesRow
import Derived.Laws.ResultCell
import Derived.ChangeArms
import Derived.Lib.AppendZerosOnto
import Derived.Lib.SliceRun
import Derived.Lib.Walk
import Derived.Test.YtnhphlmblenapaaGreatDoorShelf
set_option linter.unusedVariables false
set_option linter.unusedSimpArgs false
set_option linter.unusedSectionVars false
set_option maxHeartbeats 2000000
open Int renaming ofNat_lt->Pa
open List renaming getElem?_eq_getElem->Pb,length->Pd,getElem_cons_zero->Pe,getElem_mem->Pf,getElem?_map->Pg,getElem_map->Ph,map_append->Pi,take_of_length_le->Pj,getElem_range->Pk,take_add_one->Pl,length_cons->Pm,sum_append->Pn,length_map->Po,range->Pp
namespace Go.Proofs.YtnhphlmblenapaaGreatDoor
open Go.RowKit
abbrev aa(n:Int):D:=.lit (.int .i64 n)
abbrev ae(s:ByteArray):D:=.lit (.string s)
def dB(l:List ByteArray):D:=.sl (l.map fun s=>[ae s])
section
variable {M : ao} {w : World}
theorem lk{bm:List Nat}(hM:M.hold w){l:List ByteArray}{v:Value}(h:Rep M bm (.d (dB l)) v):ez w l v:=by
 cases h with
 | d h=>
 unfold dB at h;generalize hrs:(l.map fun s=>[ae s])=rows at h;have hlen:rows.length=l.length:=by rw[<-hrs];simp
 cases h with
 | sl _ k p cap val hk hd hf hc hm=>
 rw[hlen];refine⟨p,cap,rfl,by omega,hm,fun i s hi=>?_⟩;have hil:=(List.getElem?_eq_some_iff.1 hi).1;have hir:i<rows.length:=by omega
 obtain⟨b,off,rfl,h6⟩:=hf i hir;have hri:rows[i]=[ae s]:=by subst hrs;simp[(List.getElem?_eq_some_iff.1 hi).2]
 have hk1:k=1:=by rw[<-hk _ (Pf hir),hri];rfl
 subst hk1;refine⟨b,off,rfl,?_⟩;have h7:=h6 0 (by omega);have h8:=hd i 0 hir (by rw[hri];simp);simp only[hri,Pe,ae]at h8;generalize hv:val i 0=u at h7 h8;cases h8 with|lit _ _=>
 have:=hM _ _ _ h7;simpa using this
theorem oC(hG:G.cells M)(hM:M.hold w):mG w:=by
 obtain⟨val,h1,h2⟩:=hG 0 [dB dU] (by rfl);have h3:=h2 0 (by simp);have h4:=h1 0 (by simp);simp only[Pe]at h3;exact⟨val 0,hM _ _ _ h4,lk (bm:=[]) hM (.d h3)⟩
end
theorem Dz{f:FuncId}{fn:Func}{args:List V}{u:Value}{σ:LLV}(hf:Tryz.prog.funcs[f]? = some fn)(hn:(fn.name == "runtime.NumGoroutine")=false)(hb:fn.body.isNone=false)(hu:c7 u)
 (h:∀(M:ao) (bm:List Nat) (pr:Nat->Prop) (w:World) (vs:List Value),G.glob M pr w->M.hold w->vs.length=args.length->(∀i (h:i<args.length) (h':i<vs.length),Rep M bm args[i] vs[i])->Calls Tryz.prog f vs.toArray w fun e w'=>e=.returned u/\Ext w w'):
 Fun G f args σ (aO (.d (.lit u)) σ):=by
 refine⟨bE (P:=Tryz.prog) hf hn hb,fun M bm tk pr w vs hG hI ht hl hr=>(h M bm pr w vs hG hI.facts hl hr).mono fun e w' ⟨he,hx⟩=>?_⟩;obtain⟨h1,h2⟩:=hI.ext hx;refine⟨M,bm,tk,σ,.ret (.d (.lit u)),⟨rfl,rfl⟩,h1,h2,fun v e=>?_,fun v e=>by cases e⟩;cases e;exact⟨u,he,.d (.lit u hu),fun _ _ _ e=>by cases e⟩
theorem oi{f:FuncId}{fn:Func}{a:V}{u:Value}{σ:LLV}(hf:Tryz.prog.funcs[f]? = some fn)(hn:(fn.name == "runtime.NumGoroutine")=false)(hb:fn.body.isNone=false)(hu:c7 u)
 (h:∀(M:ao) (bm:List Nat) (pr:Nat->Prop) (w:World) (v:Value),G.glob M pr w->M.hold w->Rep M bm a v->Calls Tryz.prog f #[v] w fun e w'=>e=.returned u/\Ext w w'):Fun G f [a] σ (aO (.d (.lit u)) σ):=
 Dz hf hn hb hu fun M bm pr w vs hG hM hl hr=>match vs,hl with
  | [v],_=>h M bm pr w v hG hM (hr 0 (by simp) (by simp))
theorem sk{f:FuncId}{fn:Func}{a b:V}{u:Value}{σ:LLV}(hf:Tryz.prog.funcs[f]? = some fn)(hn:(fn.name == "runtime.NumGoroutine")=false)(hb:fn.body.isNone=false)(hu:c7 u)
 (h:∀(M:ao) (bm:List Nat) (pr:Nat->Prop) (w:World) (v v':Value),G.glob M pr w->M.hold w->Rep M bm a v->Rep M bm b v'->Calls Tryz.prog f #[v,v'] w fun e w'=>e=.returned u/\Ext w w'):Fun G f [a,b] σ (aO (.d (.lit u)) σ):=
 Dz hf hn hb hu fun M bm pr w vs hG hM hl hr=>match vs,hl with
  | [v,v'],_=>h M bm pr w v v' hG hM (hr 0 (by simp) (by simp)) (hr 1 (by simp) (by simp))
def uI(w w':World):ao:=fun b o=>if w.heap.size≤b then w'.cell? ⟨b,o,none⟩else none
theorem py{f:FuncId}{fn:Func}{args:List V}{x:V}{σ:LLV}(hf:Tryz.prog.funcs[f]? = some fn)(hn:(fn.name == "runtime.NumGoroutine")=false)(hb:fn.body.isNone=false)(hx:∀T k rows,x≠.own T k rows)
 (h:∀(M:ao) (bm:List Nat) (pr:Nat->Prop) (w:World) (vs:List Value),G.glob M pr w->M.hold w->vs.length=args.length->(∀i (h:i<args.length) (h':i<vs.length),Rep M bm args[i] vs[i])->
   Calls Tryz.prog f vs.toArray w fun e w'=>∃u,e=.returned u/\Ext w w'/\Rep (uI w w') [] x u):Fun G f args σ (aO x σ):=by
 refine⟨bE (P:=Tryz.prog) hf hn hb,fun M bm tk pr w vs hG hI ht hl hr=>(h M bm pr w vs hG hI.facts hl hr).mono fun e w' ⟨u,he,hx',hu⟩=>?_⟩;have hlt:∀b,b<w.heap.size->∀o,(if w.heap.size≤b then w'.cell? ⟨b,o,none⟩else M b o)=M b o:=fun b hb o=>if_neg (by omega)
 have hle:M.le fun b o=>if w.heap.size≤b then w'.cell? ⟨b,o,none⟩else M b o:=fun b o x hm=>by
  have hb:=hI.facts.lt hm;show(if w.heap.size≤b then w'.cell? ⟨b,o,none⟩else M b o)=some x;rw[hlt b hb o];exact hm
 obtain⟨h1,h2⟩:=hI.grow (M':=fun b o=>if w.heap.size≤b then w'.cell? ⟨b,o,none⟩else M b o) hx' hle (fun b o x hm=>by
  by_cases hb:w.heap.size≤b
  .simpa only[if_pos hb]using hm
  .simp only[if_neg hb]at hm;exact hx'.cell (hI.facts b o x hm)) hlt
 refine⟨_,bm,tk,σ,.ret x,⟨rfl,rfl⟩,h1,h2,fun v e=>?_,fun v e=>by cases e⟩;cases e;refine⟨u,he,hu.mono (fun b o x hm=>?_) (fun i b h=>by simp at h),fun T k rows e=>absurd e (hx T k rows)⟩;unfold uI at hm;split at hm
 .rename_i hb;simp only[if_pos hb];exact hm
 .cases hm
end Go.Proofs.YtnhphlmblenapaaGreatDoor
namespace Go.Proofs.YtnhphlmblenapaaGreatDoor
open Go.RowKit
theorem tH(e:Ex):dS e≤bN e:=by
 induction e using Ex.ind with
 | h o m s l ih=>
 simp only[dS,bN]
 suffices H:∀(r:List Ex),(∀a,a∈r->a∈l)->dE r≤bH r by have:=H l (fun _ h=>h);omega
 intro r
 induction r with
 | nil=>intro _;simp[dE,bH]
 | cons a r ihr=>
  intro hm;have h1:=ih a (hm a (by simp));have h2:=ihr (fun x hx=>hm x (by simp[hx]));simp only[dE,bH];omega
theorem Ac(e:Ex):1≤bN e:=by cases e;simp[bN]
theorem Iz(l:List Ex):l.length≤bH l:=by
 induction l with
 | nil=>simp
 | cons a r ih=>have:=Ac a;simp only[Pm,bH];omega
mutual
def dex:Ex->List D
 | .mk o n s l=>[aa o,aa n,ae s,.sl (FT l)]
def FT:List Ex->LLD
 | []=>[]
 | a::r=>dex a::FT r
end
theorem tK(l:List Ex):FT l=l.map dex:=by
 induction l with
 | nil=>rfl
 | cons a r ih=>simp only[FT,ih,List.map_cons]
theorem bV(e:Ex):dex e=[aa e.op,aa e.num,ae e.name,.sl (e.args.map dex)]:=by
 cases e;simp only[dex,tK,Ex.op,Ex.num,Ex.name,Ex.args]
def vex(e:Ex):V:=.agg ((dex e).map V.d)
theorem au(e:Ex):vex e=.agg [.d (aa e.op),.d (aa e.num),.d (ae e.name),.d (.sl (e.args.map dex))]:=by
 unfold vex;rw[bV];rfl
section
variable {M : ao} {w : World}
theorem Co(hM:M.hold w)(e:Ex):∀(vs:List Value),vs.length=(dex e).length->(∀i (h:i<(dex e).length) (h':i<vs.length),DRep M (dex e)[i] vs[i])->ExRep w e vs:=by
 induction e using Ex.ind with
 | h o n s l ih=>
 intro vs hl hr;simp only[dex,tK]at hl hr
 match vs,hl with
 | [v0,v1,v2,v3],_=>
 have r0:=hr 0 (by simp) (by simp);have r1:=hr 1 (by simp) (by simp);have r2:=hr 2 (by simp) (by simp);have r3:=hr 3 (by simp) (by simp);simp only[Pe,List.getElem_cons_succ,aa,ae]at r0 r1 r2 r3;cases r0 with|lit _ h0=>
 cases r1 with|lit _ h1=>
 cases r2 with|lit _ h2=>
 cases r3 with
 | sl _ k p cap val hk hd hf hc hm=>
 have hlen:(l.map dex).length=l.length:=by simp
 have h4:∀a:Ex,(dex a).length=4:=fun a=>by rw[bV];rfl
 refine .mk o n s l _ ((Pp l.length).map fun i=>(Pp 4).map fun j=>val i j) (by simp) (fun i h h'=>?_) ?_ ?_ ?_ h2
 .simp only[Ph,Pk];refine ih _ (Pf h) _ (by rw[h4];simp) (fun j g g'=>?_);simp only[Ph,Pk];have:=hd i j (by simpa using h) (by simpa using g);simpa using this
 .refine⟨p,cap,by simp,by simpa using hc,hm,fun i cs hi=>?_⟩;rw[Pg]at hi;obtain⟨q,hq,rfl⟩:=Option.map_eq_some_iff.1 hi;have hql:=(List.getElem?_eq_some_iff.1 hq).1;have hqe:q=i:=by have:=(List.getElem?_eq_some_iff.1 hq).2;simpa using this.symm
  subst hqe;have hlt:q<(l.map dex).length:=by simpa using hql
  obtain⟨b,off,h5,h6⟩:=hf q hlt;have hk4:k=4:=by rw[<-hk _ (Pf hlt)];simp[h4]
  subst hk4;refine⟨b,off,h5,by simp,fun j v hj=>?_⟩;rw[Pg]at hj;obtain⟨j',hj',rfl⟩:=Option.map_eq_some_iff.1 hj;have hjl:=(List.getElem?_eq_some_iff.1 hj').1;have hje:j'=j:=by have:=(List.getElem?_eq_some_iff.1 hj').2;simpa using this.symm
  subst hje;exact hM _ _ _ (h6 j' (by simpa using hjl))
 .simp only[c7,IntKind.min,IntKind.max,IntKind.signed,IntKind.bits]at h0;simpa using h0
 .simp only[c7,IntKind.min,IntKind.max,IntKind.signed,IntKind.bits]at h1;simpa using h1
theorem BQ{bm:List Nat}(hM:M.hold w){e:Ex}{v:Value}(h:Rep M bm (vex e) v):jh w e v:=by
 unfold vex at h;generalize hcs:(dex e).map V.d=cs at h;cases h with
 | @agg _ vs hl hh h1=>
 refine⟨vs,Co hM e vs (by rw[hl,<-hcs];simp) (fun i g g'=>?_),rfl⟩;have:=hh i (by rw[<-hcs];simpa using g) g';have e1:cs[i]'(by rw[<-hcs];simpa using g)=.d (dex e)[i]:=by subst hcs;simp
 rw[e1]at this;cases this with|d h=>exact h
end
theorem vP(o m:Int)(s:ByteArray)(k:Nat):0≤bB o m s k/\bB o m s k≤7:=by
 unfold bB;repeat' split
 all_goals omega
theorem Fp(e:Ex):0≤gO e/\gO e≤7:=by
 induction e using Ex.ind with
 | h o m s l ih=>
 have hL:∀(r:List Ex),(∀a,a∈r->a∈l)->0≤ld r/\ld r≤7:=by
  intro r
  induction r with
  | nil=>intro _;simp[ld]
  | cons a r ihr=>
   intro hm;have h1:=ih a (hm a (by simp));have h2:=ihr (fun x hx=>hm x (by simp[hx]));simp only[ld];split<;>omega
 have h1:=vP o m s l.length;have h2:=hL l (fun _ h=>h);simp only[gO];split<;>omega
theorem wT(e:Ex):c7 (.int .i64 (bU e)):=by
 have h:0≤bU e/\bU e≤7:=by
  have:=Fp e;unfold bU;split<;>omega
 generalize bU e=y at h;simp only[c7,IntKind.min,IntKind.max,IntKind.signed,IntKind.bits,if_true];omega
theorem mF(e:Ex)(hs:bN e≤1200000)(hd:dS e≤1200000)(σ:LLV):Fun G 129 [vex e] σ (aO (.d (aa (bU e))) σ):=
 oi Tryz.func129 (by kernel_rfl) (by kernel_rfl) (wT e) fun M bm pr w v hG hM hr=>zW e w v (BQ hM hr) (oC hG.1 hM) hd hs
end Go.Proofs.YtnhphlmblenapaaGreatDoor
namespace Go.Proofs.YtnhphlmblenapaaGreatDoor
open Go.RowKit
section
variable {M : ao} {w : World}
end
theorem FE{f:FuncId}{fn:Func}{args:List V}{u:Value}{σ:LLV}(hf:Tryz.prog.funcs[f]? = some fn)(hn:(fn.name == "runtime.NumGoroutine")=false)(hb:fn.body.isNone=false)(hu:c7 u)
 (h:∀(M:ao) (bm:List Nat) (w:World) (vs:List Value),G.cells M->M.hold w->vs.length=args.length->(∀i (h:i<args.length) (h':i<vs.length),Rep M bm args[i] vs[i])->Calls Tryz.prog f vs.toArray w fun e w'=>e=.returned u/\Ext w w'):
 Fun G f args σ (aO (.d (.lit u)) σ):=by
 refine⟨bE (P:=Tryz.prog) hf hn hb,fun M bm tk pr w vs hG hI ht hl hr=>(h M bm w vs hG.1 hI.facts hl hr).mono fun e w' ⟨he,hx⟩=>?_⟩;obtain⟨h1,h2⟩:=hI.ext hx;refine⟨M,bm,tk,σ,.ret (.d (.lit u)),⟨rfl,rfl⟩,h1,h2,fun v e=>?_,fun v e=>by cases e⟩;cases e;exact⟨u,he,.d (.lit u hu),fun _ _ _ e=>by cases e⟩
theorem Dk{f:FuncId}{fn:Func}{a:V}{u:Value}{σ:LLV}(hf:Tryz.prog.funcs[f]? = some fn)(hn:(fn.name == "runtime.NumGoroutine")=false)(hb:fn.body.isNone=false)(hu:c7 u)
 (h:∀(M:ao) (bm:List Nat) (w:World) (v:Value),G.cells M->M.hold w->Rep M bm a v->Calls Tryz.prog f #[v] w fun e w'=>e=.returned u/\Ext w w'):Fun G f [a] σ (aO (.d (.lit u)) σ):=
 FE hf hn hb hu fun M bm w vs hG hM hl hr=>match vs,hl with
  | [v],_=>h M bm w v hG hM (hr 0 (by simp) (by simp))
end Go.Proofs.YtnhphlmblenapaaGreatDoor
namespace Go.Proofs.YtnhphlmblenapaaGreatDoor
open Go.RowKit
theorem nJ{f:FuncId}{fn:Func}{args:List V}{x:V}{σ:LLV}(hf:Tryz.prog.funcs[f]? = some fn)(hn:(fn.name == "runtime.NumGoroutine")=false)(hb:fn.body.isNone=false)(hx:∀T k rows,x≠.own T k rows)
 (h:∀(M:ao) (bm:List Nat) (w:World) (vs:List Value),G.cells M->M.hold w->vs.length=args.length->(∀i (h:i<args.length) (h':i<vs.length),Rep M bm args[i] vs[i])->
   Calls Tryz.prog f vs.toArray w fun e w'=>∃u,e=.returned u/\Ext w w'/\Rep (uI w w') [] x u):Fun G f args σ (aO x σ):=by
 refine⟨bE (P:=Tryz.prog) hf hn hb,fun M bm tk pr w vs hG hI ht hl hr=>(h M bm w vs hG.1 hI.facts hl hr).mono fun e w' ⟨u,he,hx',hu⟩=>?_⟩;have hlt:∀b,b<w.heap.size->∀o,(if w.heap.size≤b then w'.cell? ⟨b,o,none⟩else M b o)=M b o:=fun b hb o=>if_neg (by omega)
 have hle:M.le fun b o=>if w.heap.size≤b then w'.cell? ⟨b,o,none⟩else M b o:=fun b o x hm=>by
  have hb:=hI.facts.lt hm;show(if w.heap.size≤b then w'.cell? ⟨b,o,none⟩else M b o)=some x;rw[hlt b hb o];exact hm
 obtain⟨h1,h2⟩:=hI.grow (M':=fun b o=>if w.heap.size≤b then w'.cell? ⟨b,o,none⟩else M b o) hx' hle (fun b o x hm=>by
  by_cases hb:w.heap.size≤b
  .simpa only[if_pos hb]using hm
  .simp only[if_neg hb]at hm;exact hx'.cell (hI.facts b o x hm)) hlt
 refine⟨_,bm,tk,σ,.ret x,⟨rfl,rfl⟩,h1,h2,fun v e=>?_,fun v e=>by cases e⟩;cases e;refine⟨u,he,hu.mono (fun b o x hm=>?_) (fun i b h=>by simp at h),fun T k rows e=>absurd e (hx T k rows)⟩;unfold uI at hm;split at hm
 .rename_i hb;simp only[if_pos hb];exact hm
 .cases hm
theorem Ab{M:ao}{l:List ByteArray}{p:Option Addr}{cap:Nat}(h1:l.length≤cap)(h2:cap≤maxLen)(hs:∀s,s∈l->s.size≤maxLen)
 (h:∀i s,l[i]? = some s->∃b off,p=some ⟨b,off,none⟩/\M b (off+i)=some (.string s)):DRep M (dB l) (.slice p l.length cap):=by
 have hlen:l.length=(l.map fun s=>[ae s]).length:=by simp
 unfold dB;rw[hlen];refine .sl _ 1 p cap (fun i _=>.string (l[i]?.getD ⟨#[]⟩)) (fun r hr=>?_) (fun i j hi hj=>?_) (fun i hi=>?_) (by omega) h2
 .obtain⟨s,-,rfl⟩:=List.mem_map.1 hr;rfl
 .have hi':i<l.length:=by simpa using hi
  have hj0:j=0:=by simpa using hj
  subst hj0;simp only[Ph,Pe,Pb hi',Option.getD_some];exact .lit _ (hs _ (Pf hi'))
 .have hi':i<l.length:=by simpa using hi
  obtain⟨b,off,h7,h8⟩:=h i _ (Pb hi');refine⟨b,off,h7,fun j hj=>?_⟩;have hj0:j=0:=by omega
  subst hj0;simp only[Pb hi',Option.getD_some];simpa using h8
def sE(tk:be)(g:Option Nat):be:=fun i j=>match i,j with
 | none,0=>g
 | i,j=>tk i j
theorem lW{f:FuncId}{fn:Func}{args:List V}{l:List ByteArray}{σ:LLV}(hf:Tryz.prog.funcs[f]? = some fn)(hn:(fn.name == "runtime.NumGoroutine")=false)(hb:fn.body.isNone=false)
 (h:∀(M:ao) (bm:List Nat) (w:World) (vs:List Value),G.cells M->M.hold w->vs.length=args.length->(∀i (h:i<args.length) (h':i<vs.length),Rep M bm args[i] vs[i])->(∀s,s∈l->s.size≤maxLen)/\Calls Tryz.prog f vs.toArray w (rR l w)):
 Fun G f args σ (aO (.own 9 1 (l.map fun s=>[ae s])) σ):=by
 refine⟨bE (P:=Tryz.prog) hf hn hb,fun M bm tk pr w vs hG hI ht hl hr=>(h M bm w vs hG.1 hI.facts hl hr).2.mono fun e w' ⟨v,he,hrow,hg,hx⟩=>?_⟩;have hs:=(h M bm w vs hG.1 hI.facts hl hr).1;have hlt:∀b,b<w.heap.size->∀o,(if w.heap.size≤b then(if o<l.length then w'.cell? ⟨b,o,none⟩else none)else M b o)=M b o:=fun b hb o=>if_neg (by omega)
 have hle:M.le fun b o=>if w.heap.size≤b then(if o<l.length then w'.cell? ⟨b,o,none⟩else none)else M b o:=fun b o x hm=>by
  have hb:=hI.facts.lt hm;show(if w.heap.size≤b then(if o<l.length then w'.cell? ⟨b,o,none⟩else none)else M b o)=some x;rw[hlt b hb o];exact hm
 obtain⟨h1,h2⟩:=hI.grow (M':=fun b o=>if w.heap.size≤b then(if o<l.length then w'.cell? ⟨b,o,none⟩else none)else M b o) hx hle (fun b o x hm=>by
  by_cases hb:w.heap.size≤b
  .simp only[if_pos hb]at hm;split at hm
   .exact hm
   .cases hm
  .simp only[if_neg hb]at hm;exact hx.cell (hI.facts b o x hm)) hlt
 have hgl:∀g,v.ownBlock=some g->g<w'.heap.size:=fun g hgg=>by
  obtain⟨-,⟨rfl,-⟩|⟨g',cap,cur,rfl,-,h3,-⟩⟩:=hrow
  .cases hgg
  .cases hgg;exact(Array.getElem?_eq_some_iff.1 h3).1
 have hbm:=hI.bm_lt
 have hI2:Inv (fun b o=>if w.heap.size≤b then(if o<l.length then w'.cell? ⟨b,o,none⟩else none)else M b o) bm σ (sE tk v.ownBlock) pr w':=by
  refine⟨h1.facts,h1.len,h1.box,h1.free,h1.bmnd,fun i j g hij=>?_,fun i j i' j' g h3 h4=>?_,h1.prlt⟩
  .unfold sE at hij;split at hij
   .have:=hg g hij;exact⟨hgl g hij,fun hb=>by have:=hbm g hb;omega,fun hp=>by have:=hI.prlt g hp;omega⟩
   .exact h1.tok _ _ _ hij
  .have old:∀i j,tk i j=some g->g<w.heap.size:=fun i j hij=>(hI.tok _ _ _ hij).1;unfold sE at h3 h4;split at h3<;>split at h4
   .exact⟨rfl,rfl⟩
   .have:=hg g h3;have:=old _ _ h4;omega
   .have:=hg g h4;have:=old _ _ h3;omega
   .exact h1.inj _ _ _ _ _ h3 h4
 refine⟨_,bm,sE tk v.ownBlock,σ,.ret (.own 9 1 (l.map fun s=>[ae s])),⟨rfl,rfl⟩,hI2,h2,fun x e=>?_,fun x e=>by cases e⟩;cases e;have hlen:(l.map fun s=>[ae s]).length=l.length:=by simp
 refine⟨v,he,.own ?_,fun T k rows e=>?_⟩
 .obtain⟨p,cap,rfl,g1,g2,g3⟩:=BC hrow;refine Ab g1 g2 hs fun i s hi=>?_;obtain⟨b,off,rfl,g4⟩:=g3 i s hi;refine⟨b,off,rfl,?_⟩
  have hb0:off=0:=by
   obtain⟨-,⟨e,-⟩|⟨g',cap',cur,e,-⟩⟩:=hrow
   .cases e
   .cases e;rfl
  subst hb0;have hil:=(List.getElem?_eq_some_iff.1 hi).1;have:=hg b rfl;simp only[Nat.zero_add]at g4 ⊢;rw[if_pos this,if_pos hil];exact g4
 .cases e;have hrow':=hrow;obtain⟨g0,⟨rfl,g1⟩|⟨g,cap,cur,rfl,g2,g3,g4⟩⟩:=hrow
  .exact .inl ⟨rfl,by have:l=[]:=List.eq_nil_of_length_eq_zero g1;simp[this]⟩
  .refine .inr ⟨g,_,rfl,rfl,fun r hr=>?_,by rw[hlen];exact hrow',fun o x hm=>?_⟩
   .obtain⟨s,-,rfl⟩:=List.mem_map.1 hr;rfl
   .have:=hg g rfl;simp only[if_pos this]at hm;split at hm
    .rw[hlen];omega
    .cases hm
def mem(w:World):ao:=fun b o=>w.cell? ⟨b,o,none⟩
theorem EH(w:World):(mem w).hold w:=fun _ _ _ h=>h
theorem yp(w:World):Inv (mem w) [] [] (fun _ _=>none) (fun b=>b<w.heap.size) w:=
 {facts:=EH w,len:=rfl,box:=fun i b cs h=>by simp at h,free:=fun b h=>by simp at h,bmnd:=List.nodup_nil,
  tok:=fun i j g h=>(nomatch h),inj:=fun i j i' j' g h=>(nomatch h),prlt:=fun b h=>h}
section
variable {H : Type} {enc : TypeId × Value -> H} {P : Program} {W : World} {base : Nat} {spare : Nat -> Bool} {held : Bool} {fuel : Nat} {t : TypeId} {cs : List Value} {x : DataW H × List MemPlace}
end
end Go.Proofs.YtnhphlmblenapaaGreatDoor
namespace Go.Proofs.YtnhphlmblenapaaGreatDoor
open Go.RowKit
theorem Tryz.under_strs:Tryz.prog.underlying 52=some (.slice 9):=by kernel_rfl
theorem Tryz.under_int:Tryz.prog.underlying 3=some (.int .i64):=by kernel_rfl
theorem yN(w:World):Calls Tryz.prog 179 #[.slice none 0 0,.int .i64 0] w fun e w'=>e=.returned (.slice none 0 0)/\w'=w:=by
 have h2:wrap64 ((0:Int)-(0:Int))=0:=by unfold wrap64;omega
 go_enter Tryz.func179,Tryz.ntmps179;go_wp2_with fail;go_ret;exact⟨rfl,rfl⟩
theorem BF(n:Nat)(h0:0<n)(hn:n≤1200000)(w:World):Calls Tryz.prog 179 #[.slice none 0 0,.int .i64 n] w fun e w'=>
 e=.returned (.slice (some ⟨w.heap.size,0,none⟩) 0 (grownCap w n 0 9))/\
  w'=w.drew.alloc (.cells (Builtin.zeroCells #[.string ⟨#[]⟩] n++Builtin.zeroCells #[.string ⟨#[]⟩] (grownCap w n 0 9-n)) 9):=by
 obtain⟨i0,hi0,hz0,hs0,hb0⟩:∃i0,Tryz.prog.info? 9=some i0/\i0.zero=some (.string ⟨#[]⟩)/\i0.size=1/\i0.bytes=16:=by
  have h:=Tryz.infoS;cases hi:Tryz.prog.info? 9 with
  | none=>rw[hi]at h;cases h
  | some i0=>rw[hi]at h;simp only[Option.map_some,Option.some.injEq,Prod.mk.injEq]at h;exact⟨i0,rfl,h.1,h.2.1,h.2.2⟩
 have h1:¬((n:Int)<0):=by omega
 have h2:wrap64 ((0:Int)-(0:Int))=0:=by unfold wrap64;omega
 have h3:wrap64 ((n:Int)-0)=n:=by unfold wrap64;omega
 have h4:(n:Int)>0:=by omega
 have hold:(Builtin.firstCells i0.size 0 (.slice none 0 0)).run Tryz.prog w.drew=.ok (#[]:Array Value) w.drew:=run_firstCells_none w.drew i0.size 0 0 0
 have hrz:∀ty,(Builtin.append_ #[52,3] ty #[.slice none 0 0,.int .i64 (n:Int)]).run Tryz.prog w=
  .ok (.slice (some ⟨w.heap.size,0,none⟩) n (grownCap w n 0 9)) (w.drew.alloc (.cells (Builtin.zeroCells #[.string ⟨#[]⟩] n++Builtin.zeroCells #[.string ⟨#[]⟩] (grownCap w n 0 9-n)) 9)):=fun ty=>by
  have h:=Lib.run_append_grow_zeros w 52 3 ty 9 i0 _ .i64 .i64 Tryz.under_strs Tryz.under_int hi0 hz0 none 0 0 [] hold n (by omega) (by omega) (by omega) (by omega) (by rw[hb0];omega)
   (growslice_fits (by omega) (by rw[hb0];omega))
  simp only[Nat.zero_add]at h;rw[h];simp[Value.cells]
 have hGn:n≤grownCap w n 0 9:=grownCap_ge w _ _ _;obtain⟨G,hG⟩:∃G,G=grownCap w n 0 9:=⟨_,rfl⟩
 rw[<-hG]at hrz hGn ⊢
 have hG63:G≤9223372036854775807:=by
  have:=grownCap_le_maxLen w n 0 9 (by unfold maxLen;omega);rw[<-hG]at this;unfold maxLen at this;omega
 clear hold hG;go_enter Tryz.func179,Tryz.ntmps179;go_wp2_with (at_builtin;refine Lib.wpList_append_run _ rfl _ _ _ _ rfl _ _ rfl rfl _ _ (hrz _) ?_);all_goals (go_ret;exact⟨rfl,rfl⟩)
theorem EI(n:Nat)(hn:n≤1200000)(σ:LLV):Fun G 179 [.nil,.d (aa n)] σ (aO (.own 9 1 []) σ):=
 lW (l:=[]) Tryz.func179 (by kernel_rfl) (by kernel_rfl) fun M bm w vs hG hM hl hr=>match vs,hl with
  | [v,u],_=>by
   refine⟨by simp,?_⟩;have h1:Rep M bm .nil v:=hr 0 (by simp) (by simp);have h2:Rep M bm (.d (aa n)) u:=hr 1 (by simp) (by simp);cases h1 with
   | nil=>cases h2 with
    | d h2=>cases h2 with
     | lit _ _=>
      by_cases h0:n=0
      .subst h0;refine(yN w).mono fun e w' ⟨h3,h4⟩=>?_;subst h4;exact⟨_,h3,⟨rfl,.inl ⟨rfl,rfl⟩⟩,(fun k hk=>by cases hk),Ext.refl _⟩
      .refine(BF n (by omega) hn w).mono fun e w' ⟨h3,h4⟩=>?_;subst h4;have hGn:n≤grownCap w n 0 9:=grownCap_ge w _ _ _;have hGm:=grownCap_le_maxLen w n 0 9 (by unfold maxLen;omega);refine⟨_,h3,⟨rfl,.inr ⟨w.heap.size,_,_,rfl,Nat.zero_le _,heap_alloc_new w.drew _,Nat.zero_le _,hGm,?_,rfl⟩⟩,fun k hk=>?_,((Ext.refl w).drew).alloc _⟩
       .simp only[Array.size_append,size_zeroCells,List.size_toArray,Pm,List.length_nil];omega
       .simp only[Value.ownBlock,Option.some.injEq]at hk;omega
theorem wu(ls:List (List ByteArray))(hs:(ls.map Pd).sum≤1200000)(hn:ls.length≤1200000)(σ:LLV):
 Fun G 128 [.d (.sl (ls.map fun l=>[D.sl (l.map fun s=>[ae s])]))] σ (aO (.own 9 1 (ls.flatten.map fun s=>[ae s])) σ):=by
 refine al Tryz.func128 ON rfl fun hb hw=>?_;unfold KW;generalize hrows:(ls.map fun l=>[D.sl (l.map fun s=>[ae s])])=rows;have hrl:rows.length=ls.length:=by rw[<-hrows,Po]
 have hre:∀j (h:j<ls.length),rows[j]? = some [D.sl (ls[j].map fun s=>[ae s])]:=fun j h=>by rw[<-hrows,Pg,Pb h];rfl
 have hle:∀j,((ls.take j).map Pd).sum≤(ls.map Pd).sum:=fun j=>by
  conv=>rhs;rw[<-List.take_append_drop j ls]
  rw[Pi,Pn];omega
 simp -dsimp only[aw,seval,hrl];refine aI [0,3,9,10,11] (R:=fun(j:Nat) ρ σ'=>ρ=[(0,.d (.sl rows)),(3,aC .i64 (((ls.take j).map Pd).sum:Nat)),(9,.d (.sl rows)),(10,aC .i64 ls.length),(11,aC .i64 j)]/\σ'=σ) ls.length ⟨rfl,rfl⟩ ?_ _;rintro j ρ' σ' hj ⟨rfl,rfl⟩;by_cases hlt:j<ls.length
 .have ht:((ls.take (j+1)).map Pd).sum=((ls.take j).map Pd).sum+ls[j].length:=by
   rw[Pl,Pb hlt,Pi,Pn];show _+(ls[j].length+0)=_;omega
  have h1:=hle (j+1);have hw1:IntKind.i64.wrap ((((ls.take j).map Pd).sum:Nat)+(ls[j].length:Int))=(((ls.take (j+1)).map Pd).sum:Nat):=by rw[bI (by omega) (by omega),ht];omega
  have hng:¬((((ls.take (j+1)).map Pd).sum:Nat):Int)<0:=by omega
  simp -dsimp only[aw,seval,Pa,hlt,decide_true,hre j hlt,hw1,decide_eq_false hng,aJ hlt (show ls.length≤9223372036854775807 by omega)];exact Nxt.same (Nat.le_refl _) hb rfl ⟨rfl,rfl⟩
 .simp -dsimp only[aw,seval,Pa,hlt];rw[Pj (show ls.length≤j by omega)];refine aj (EI _ hs _) ?_;simp -dsimp only[aw,seval,hrl];refine aI [6,25,26,27] (R:=fun(j:Nat) ρ σ''=>ρ=[(6,.own 9 1 ((ls.take j).flatten.map fun s=>[ae s])),(25,.d (.sl rows)),(26,aC .i64 ls.length),(27,aC .i64 j)]/\σ''=σ') ls.length ⟨rfl,rfl⟩ ?_ _;rintro j ρ' σ'' hj ⟨rfl,rfl⟩;by_cases hlt:j<ls.length
  .have ht:(ls.take (j+1)).flatten=(ls.take j).flatten++ls[j]:=by
    rw[Pl,Pb hlt,List.flatten_append];simp
   have h1:=hle (j+1);have h2:((ls.take j).flatten++ls[j]).length=((ls.take (j+1)).map Pd).sum:=by rw[<-ht,List.length_flatten]
   rw[List.length_append]at h2;have hal:(ls[j].map fun s=>[ae s]).all (fun r=>r.length==1)=true:=by rw[List.all_map];exact List.all_eq_true.2 fun _ _=>rfl
   simp -dsimp only[aw,seval,Pa,hlt,decide_true,hre j hlt,hal];refine aU (by first|omega|(simp only[Po];omega)) ?_;simp -dsimp only[aw,seval,aJ hlt (show ls.length≤9223372036854775807 by omega)];refine⟨hlt,Nxt.same (Nat.le_refl _) hb rfl ⟨?_,rfl⟩⟩;rw[ht,Pi]
  .simp -dsimp only[aw,seval,Pa,hlt];rw[Pj (show ls.length≤j by omega)];exact av hb rfl rfl
end Go.Proofs.YtnhphlmblenapaaGreatDoor
