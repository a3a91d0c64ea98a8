import Derived.Lib.SlBytesRow
import Derived.Laws.ResultCell
import Derived.ChangeArms
import Derived.Test.YtnhphlmblenapaaGreatDoorShelf
set_option linter.unusedVariables false
set_option linter.unusedSimpArgs false
set_option linter.unusedSectionVars false
open Int renaming ofNat_lt->TJ,ofNat_le->TK
open List renaming take_length->TL,getElem?_eq_getElem->TM,getElem_cons_zero->TN,getElem_mem->TO,getElem_map->TP,takeWhile_cons_of_pos->TQ,takeWhile_cons_of_neg->TR,getElem_range->TS,getElem?_drop->TT,getElem?_map->TU,length_drop->TV,range->TW,count->TX,take->TY
open Nat renaming le_refl->TZ,zero_add->T0
namespace Go.Proofs.YtnhphlmblenapaaGreatDoor
open Go.RowKit
abbrev ab(n:Int):D:=.lit (.int .i64 n)
abbrev ai(s:ByteArray):D:=.lit (.string s)
def cV(l:List ByteArray):D:=.sl (l.map fun s=>[ai s])
section
variable {M : av} {w : World}
theorem mH{bm:List Nat}(hM:M.hold w){l:List ByteArray}{v:Value}(h:Rep M bm (.d (cV l)) v):dq w l v:=by
 cases h with
 | d h=>
 unfold cV at h;generalize hrs:(l.map fun s=>[ai s])=rows at h;have hlen:rows.length=l.length:=by rw[<-hrs];simp
 cases h with
 | sl _ k p cap val hk hd hf hc hm=>
 rw[hlen];refine⟨p,cap,rfl,by omega,hm,fun i s hi=>?_⟩;have hil:=(List.getElem?_eq_some_iff.1 hi).1;have hir:i<rows.length:=by omega
 obtain⟨b,off,rfl,h6⟩:=hf i hir;have hri:rows[i]=[ai s]:=by subst hrs;simp[(List.getElem?_eq_some_iff.1 hi).2]
 have hk1:k=1:=by rw[<-hk _ (TO hir),hri];rfl
 subst hk1;refine⟨b,off,rfl,?_⟩;have h7:=h6 0 (by omega);have h8:=hd i 0 hir (by rw[hri];simp);simp only[hri,TN,ai]at h8;generalize hv:val i 0=u at h7 h8;cases h8 with|lit _ _=>
 have:=hM _ _ _ h7;simpa using this
theorem pW(hG:G.cells M)(hM:M.hold w):ol w:=by
 obtain⟨val,h1,h2⟩:=hG 0 [cV cj] (by rfl);have h3:=h2 0 (by simp);have h4:=h1 0 (by simp);simp only[TN]at h3;exact⟨val 0,hM _ _ _ h4,mH (bm:=[]) hM (.d h3)⟩
end
theorem Dx{f:FuncId}{fn:Func}{args:List V}{u:Value}{σ:LLV}(hf:Tryz.prog.funcs[f]? = some fn)(hn:(fn.name == "runtime.NumGoroutine")=false)(hb:fn.body.isNone=false)(hu:df u)
 (h:∀(M:av) (bm:List Nat) (pr:Nat->Prop) (w:World) (vs:List Value),G.glob M pr w->M.hold w->vs.length=args.length->(∀i (h:i<args.length) (h':i<vs.length),Rep M bm args[i] vs[i])->Calls Tryz.prog f vs.toArray w fun e w'=>e=.returned u/\Ext w w'):
 Fun G f args σ (aN (.d (.lit u)) σ):=by
 refine⟨bP (P:=Tryz.prog) hf hn hb,fun M bm tk pr w vs hG hI ht hl hr=>(h M bm pr w vs hG hI.facts hl hr).mono fun e w' ⟨he,hx⟩=>?_⟩;obtain⟨h1,h2⟩:=hI.ext hx;refine⟨M,bm,tk,σ,.ret (.d (.lit u)),⟨rfl,rfl⟩,h1,h2,fun v e=>?_,fun v e=>by cases e⟩;cases e;exact⟨u,he,.d (.lit u hu),fun _ _ _ e=>by cases e⟩
theorem nW{f:FuncId}{fn:Func}{a:V}{u:Value}{σ:LLV}(hf:Tryz.prog.funcs[f]? = some fn)(hn:(fn.name == "runtime.NumGoroutine")=false)(hb:fn.body.isNone=false)(hu:df u)
 (h:∀(M:av) (bm:List Nat) (pr:Nat->Prop) (w:World) (v:Value),G.glob M pr w->M.hold w->Rep M bm a v->Calls Tryz.prog f #[v] w fun e w'=>e=.returned u/\Ext w w'):Fun G f [a] σ (aN (.d (.lit u)) σ):=
 Dx hf hn hb hu fun M bm pr w vs hG hM hl hr=>match vs,hl with
  | [v],_=>h M bm pr w v hG hM (hr 0 (by simp) (by simp))
theorem uJ{f:FuncId}{fn:Func}{a b:V}{u:Value}{σ:LLV}(hf:Tryz.prog.funcs[f]? = some fn)(hn:(fn.name == "runtime.NumGoroutine")=false)(hb:fn.body.isNone=false)(hu:df u)
 (h:∀(M:av) (bm:List Nat) (pr:Nat->Prop) (w:World) (v v':Value),G.glob M pr w->M.hold w->Rep M bm a v->Rep M bm b v'->Calls Tryz.prog f #[v,v'] w fun e w'=>e=.returned u/\Ext w w'):Fun G f [a,b] σ (aN (.d (.lit u)) σ):=
 Dx hf hn hb hu fun M bm pr w vs hG hM hl hr=>match vs,hl with
  | [v,v'],_=>h M bm pr w v v' hG hM (hr 0 (by simp) (by simp)) (hr 1 (by simp) (by simp))
def Jx(w w':World):av:=fun b o=>if w.heap.size≤b then w'.cell? ⟨b,o,none⟩else none
theorem qn{f:FuncId}{fn:Func}{args:List V}{x:V}{σ:LLV}(hf:Tryz.prog.funcs[f]? = some fn)(hn:(fn.name == "runtime.NumGoroutine")=false)(hb:fn.body.isNone=false)(hx:∀T k rows,x≠.own T k rows)
 (h:∀(M:av) (bm:List Nat) (pr:Nat->Prop) (w:World) (vs:List Value),G.glob M pr w->M.hold w->vs.length=args.length->(∀i (h:i<args.length) (h':i<vs.length),Rep M bm args[i] vs[i])->
   Calls Tryz.prog f vs.toArray w fun e w'=>∃u,e=.returned u/\Ext w w'/\Rep (Jx w w') [] x u):Fun G f args σ (aN x σ):=by
 refine⟨bP (P:=Tryz.prog) hf hn hb,fun M bm tk pr w vs hG hI ht hl hr=>(h M bm pr w vs hG hI.facts hl hr).mono fun e w' ⟨u,he,hx',hu⟩=>?_⟩;have hlt:∀b,b<w.heap.size->∀o,(if w.heap.size≤b then w'.cell? ⟨b,o,none⟩else M b o)=M b o:=fun b hb o=>if_neg (by omega)
 have hle:M.le fun b o=>if w.heap.size≤b then w'.cell? ⟨b,o,none⟩else M b o:=fun b o x hm=>by
  have hb:=hI.facts.lt hm;show(if w.heap.size≤b then w'.cell? ⟨b,o,none⟩else M b o)=some x;rw[hlt b hb o];exact hm
 obtain⟨h1,h2⟩:=hI.grow (M':=fun b o=>if w.heap.size≤b then w'.cell? ⟨b,o,none⟩else M b o) hx' hle (fun b o x hm=>by
  by_cases hb:w.heap.size≤b
  .simpa only[if_pos hb]using hm
  .simp only[if_neg hb]at hm;exact hx'.cell (hI.facts b o x hm)) hlt
 refine⟨_,bm,tk,σ,.ret x,⟨rfl,rfl⟩,h1,h2,fun v e=>?_,fun v e=>by cases e⟩;cases e;refine⟨u,he,hu.mono (fun b o x hm=>?_) (fun i b h=>by simp at h),fun T k rows e=>absurd e (hx T k rows)⟩;unfold Jx at hm;split at hm
 .rename_i hb;simp only[if_pos hb];exact hm
 .cases hm
end Go.Proofs.YtnhphlmblenapaaGreatDoor
namespace Go.Proofs.YtnhphlmblenapaaGreatDoor
open Go.RowKit
theorem mY(e:Ex):b8 e≤bD e:=by
 induction e using Ex.ind with
 | h o m s l ih=>
 simp only[b8,bD]
 suffices H:∀(r:List Ex),(∀a,a∈r->a∈l)->cZ r≤bI r by have:=H l (fun _ h=>h);omega
 intro r
 induction r with
 | nil=>intro _;simp[cZ,bI]
 | cons a r ihr=>
  intro hm;have h1:=ih a (hm a (by simp));have h2:=ihr (fun x hx=>hm x (by simp[hx]));simp only[cZ,bI];omega
theorem BA(e:Ex):1≤bD e:=by cases e;simp[bD]
theorem Lf(l:List Ex):l.length≤bI l:=by
 induction l with
 | nil=>simp
 | cons a r ih=>have:=BA a;simp only[List.length_cons,bI];omega
theorem CO(e:Ex):∀(d:Int) (x:See),(oZ d e x).first=if x.first=0 then gM e else x.first:=by
 induction e using Ex.ind with
 | h o m s l ih=>
 intro d x
 suffices H:∀(r:List Ex),(∀a,a∈r->a∈l)->∀x:See,(kg (d+1) r x).first=if x.first=0 then j9 r else x.first by
  rw[oZ,H l (fun _ h=>h)];simp only[uu,gM,th,Ex.op,Ex.num,Ex.name,Ex.args];repeat' split
  all_goals first|rfl|simp_all
 intro r
 induction r with
 | nil=>intro _ x;simp only[kg,j9];split<;>simp_all
 | cons a r ihr=>
  intro hm x;rw[kg,ihr (fun x hx=>hm x (by simp[hx])),ih a (hm a (by simp))];simp only[j9];repeat' split
  all_goals simp_all
theorem BW(e:Ex):∀(d:Int) (x:See),0≤x.nodes->x.nodes+bD e≤1000000000->(oZ d e x).nodes=x.nodes+bD e:=by
 induction e using Ex.ind with
 | h o m s l ih=>
 intro d x h0 h1
 suffices H:∀(r:List Ex),(∀a,a∈r->a∈l)->∀x:See,0≤x.nodes->x.nodes+bI r≤1000000000->(kg (d+1) r x).nodes=x.nodes+bI r by
  simp only[bD]at h1 ⊢;have hw:wrap64 (x.nodes+1)=x.nodes+1:=sL _ (by omega) (by omega);rw[oZ,H l (fun _ h=>h) _ (by simp only[uu];omega) (by simp only[uu];omega)];simp only[uu];omega
 intro r
 induction r with
 | nil=>intro _ x _ _;simp[kg,bI]
 | cons a r ihr=>
  intro hm x h0 h1;simp only[bI]at h1 ⊢;have ha:=ih a (hm a (by simp)) (d+1) x h0 (by omega);rw[kg,ihr (fun x hx=>hm x (by simp[hx])) _ (by omega) (by omega),ha];omega
theorem Du(e:Ex):∀(d:Int) (x:See),(oZ d e x).deep=max x.deep (d-1+b8 e):=by
 induction e using Ex.ind with
 | h o m s l ih=>
 intro d x
 suffices H:∀(r:List Ex),(∀a,a∈r->a∈l)->∀x:See,d≤x.deep->(kg (d+1) r x).deep=max x.deep (d+cZ r)by
  rw[oZ,H l (fun _ h=>h) _ (by simp only[uu];split<;>omega)];simp only[uu,b8];split<;>omega
 intro r
 induction r with
 | nil=>intro _ x h;simp only[kg,cZ];omega
 | cons a r ihr=>
  intro hm x h;have ha:=ih a (hm a (by simp)) (d+1) x;rw[kg,ihr (fun x hx=>hm x (by simp[hx])) _ (by omega),ha];simp only[cZ];omega
theorem sE(ops:List Int)(f:See->List ByteArray)(hf:∀x d e,f (uu x d e)=gK ops (f x) e.op e.name)(e:Ex):∀(d:Int) (x:See),fr (mZ ops) e (f x)=(f (oZ d e x),true):=by
 induction e using Ex.ind with
 | h o m s l ih=>
 intro d x
 suffices H:∀(r:List Ex),(∀a,a∈r->a∈l)->∀x:See,fZ (mZ ops) r (f x)=(f (kg (d+1) r x),true)by
  rw[oZ,fr];simp only[mZ,if_true];rw[<-hf x d,H l (fun _ h=>h)]
 intro r
 induction r with
 | nil=>intro _ x;simp[kg,fZ]
 | cons a r ihr=>
  intro hm x;rw[kg,fZ,ih a (hm a (by simp)) (d+1) x];simp only[if_true];exact ihr (fun x hx=>hm x (by simp[hx])) _
theorem BZ(e:Ex)(h:bD e≤1200000):(ii e).first=gM e/\(ii e).nodes=bD e/\(ii e).deep=b8 e/\(ii e).vars=pZ [2] e/\(ii e).arrs=pZ [3,24] e:=by
 unfold ii;refine⟨by rw[CO];rfl,?_,?_,?_,?_⟩
 .rw[BW _ _ _ (by simp) (by simp;omega)];simp
 .rw[Du];simp
 .have:=sE [2] See.vars (fun _ _ _=>rfl) e 1 ⟨0,0,0,[],[]⟩;unfold pZ;rw[this]
 .have:=sE [3,24] See.arrs (fun _ _ _=>rfl) e 1 ⟨0,0,0,[],[]⟩;unfold pZ;rw[this]
theorem BR(e:Ex)(h:bD e≤1200000):m7 e=bB e:=by
 obtain⟨h1,h2,h3,-,-⟩:=BZ e h;unfold m7 bB;rw[h1,h2,h3];have e1:(24<(b8 e:Int))↔24<b8 e:=by omega
 have e2:(400<(bD e:Int))↔400<bD e:=by omega
 simp only[e1,e2]
mutual
def dex:Ex->List D
 | .mk o n s l=>[ab o,ab n,ai s,.sl (Hb l)]
def Hb:List Ex->LLD
 | []=>[]
 | a::r=>dex a::Hb r
end
theorem wb(l:List Ex):Hb l=l.map dex:=by
 induction l with
 | nil=>rfl
 | cons a r ih=>simp only[Hb,ih,List.map_cons]
theorem bF(e:Ex):dex e=[ab e.op,ab e.num,ai e.name,.sl (e.args.map dex)]:=by
 cases e;simp only[dex,wb,Ex.op,Ex.num,Ex.name,Ex.args]
def vex(e:Ex):V:=.agg ((dex e).map V.d)
theorem au(e:Ex):vex e=.agg [.d (ab e.op),.d (ab e.num),.d (ai e.name),.d (.sl (e.args.map dex))]:=by
 unfold vex;rw[bF];rfl
section
variable {M : av} {w : World}
theorem DU(hM:M.hold w)(e:Ex):∀(vs:List Value),vs.length=(dex e).length->(∀i (h:i<(dex e).length) (h':i<vs.length),DRep M (dex e)[i] vs[i])->ExRep w e vs:=by
 induction e using Ex.ind with
 | h o n s l ih=>
 intro vs hl hr;simp only[dex,wb]at hl hr
 match vs,hl with
 | [v0,v1,v2,v3],_=>
 have r0:=hr 0 (by simp) (by simp);have r1:=hr 1 (by simp) (by simp);have r2:=hr 2 (by simp) (by simp);have r3:=hr 3 (by simp) (by simp);simp only[TN,List.getElem_cons_succ,ab,ai]at r0 r1 r2 r3;cases r0 with|lit _ h0=>
 cases r1 with|lit _ h1=>
 cases r2 with|lit _ h2=>
 cases r3 with
 | sl _ k p cap val hk hd hf hc hm=>
 have hlen:(l.map dex).length=l.length:=by simp
 have h4:∀a:Ex,(dex a).length=4:=fun a=>by rw[bF];rfl
 refine .mk o n s l _ ((TW l.length).map fun i=>(TW 4).map fun j=>val i j) (by simp) (fun i h h'=>?_) ?_ ?_ ?_ h2
 .simp only[TP,TS];refine ih _ (TO h) _ (by rw[h4];simp) (fun j g g'=>?_);simp only[TP,TS];have:=hd i j (by simpa using h) (by simpa using g);simpa using this
 .refine⟨p,cap,by simp,by simpa using hc,hm,fun i cs hi=>?_⟩;rw[TU]at hi;obtain⟨q,hq,rfl⟩:=Option.map_eq_some_iff.1 hi;have hql:=(List.getElem?_eq_some_iff.1 hq).1;have hqe:q=i:=by have:=(List.getElem?_eq_some_iff.1 hq).2;simpa using this.symm
  subst hqe;have hlt:q<(l.map dex).length:=by simpa using hql
  obtain⟨b,off,h5,h6⟩:=hf q hlt;have hk4:k=4:=by rw[<-hk _ (TO hlt)];simp[h4]
  subst hk4;refine⟨b,off,h5,by simp,fun j v hj=>?_⟩;rw[TU]at hj;obtain⟨j',hj',rfl⟩:=Option.map_eq_some_iff.1 hj;have hjl:=(List.getElem?_eq_some_iff.1 hj').1;have hje:j'=j:=by have:=(List.getElem?_eq_some_iff.1 hj').2;simpa using this.symm
  subst hje;exact hM _ _ _ (h6 j' (by simpa using hjl))
 .simp only[df,IntKind.min,IntKind.max,IntKind.signed,IntKind.bits]at h0;simpa using h0
 .simp only[df,IntKind.min,IntKind.max,IntKind.signed,IntKind.bits]at h1;simpa using h1
theorem v6{bm:List Nat}(hM:M.hold w){e:Ex}{v:Value}(h:Rep M bm (vex e) v):iD w e v:=by
 unfold vex at h;generalize hcs:(dex e).map V.d=cs at h;cases h with
 | @agg _ vs hl hh h1=>
 refine⟨vs,DU hM e vs (by rw[hl,<-hcs];simp) (fun i g g'=>?_),rfl⟩;have:=hh i (by rw[<-hcs];simpa using g) g';have e1:cs[i]'(by rw[<-hcs];simpa using g)=.d (dex e)[i]:=by subst hcs;simp
 rw[e1]at this;cases this with|d h=>exact h
end
theorem yZ(o m:Int)(s:ByteArray)(k:Nat):0≤aO o m s k/\aO o m s k≤7:=by
 unfold aO;repeat' split
 all_goals omega
theorem IV(e:Ex):0≤gM e/\gM e≤7:=by
 induction e using Ex.ind with
 | h o m s l ih=>
 have hL:∀(r:List Ex),(∀a,a∈r->a∈l)->0≤j9 r/\j9 r≤7:=by
  intro r
  induction r with
  | nil=>intro _;simp[j9]
  | cons a r ihr=>
   intro hm;have h1:=ih a (hm a (by simp));have h2:=ihr (fun x hx=>hm x (by simp[hx]));simp only[j9];split<;>omega
 have h1:=yZ o m s l.length;have h2:=hL l (fun _ h=>h);simp only[gM];split<;>omega
theorem qE(e:Ex):df (.int .i64 (bB e)):=by
 have h:0≤bB e/\bB e≤7:=by
  have:=IV e;unfold bB;split<;>omega
 generalize bB e=y at h;simp only[df,IntKind.min,IntKind.max,IntKind.signed,IntKind.bits,if_true];omega
theorem oD(e:Ex)(hs:bD e≤1200000)(hd:b8 e≤1200000)(σ:LLV):Fun G 129 [vex e] σ (aN (.d (ab (bB e))) σ):=
 nW Tryz.func129 (by kernel_rfl) (by kernel_rfl) (qE e) fun M bm pr w v hG hM hr=>CU e w v (v6 hM hr) (pW hG.1 hM) hd hs
theorem rH(e:Ex)(hs:bD e≤1200000)(hd:b8 e≤1199999)(σ:LLV):Fun G 194 [vex e] σ (aN (.d (ab (bB e))) σ):=
 nW Tryz.func194 (by kernel_rfl) (by kernel_rfl) (qE e) fun M bm pr w v hG hM hr=>by
  have:=y4 e w v (v6 hM hr) hs hd;rwa[BR e hs]at this
end Go.Proofs.YtnhphlmblenapaaGreatDoor
namespace Go.Proofs.YtnhphlmblenapaaGreatDoor
open Go.RowKit
section
variable {M : av} {w : World}
end
theorem Hq{f:FuncId}{fn:Func}{args:List V}{u:Value}{σ:LLV}(hf:Tryz.prog.funcs[f]? = some fn)(hn:(fn.name == "runtime.NumGoroutine")=false)(hb:fn.body.isNone=false)(hu:df u)
 (h:∀(M:av) (bm:List Nat) (w:World) (vs:List Value),G.cells M->M.hold w->vs.length=args.length->(∀i (h:i<args.length) (h':i<vs.length),Rep M bm args[i] vs[i])->Calls Tryz.prog f vs.toArray w fun e w'=>e=.returned u/\Ext w w'):
 Fun G f args σ (aN (.d (.lit u)) σ):=by
 refine⟨bP (P:=Tryz.prog) hf hn hb,fun M bm tk pr w vs hG hI ht hl hr=>(h M bm w vs hG.1 hI.facts hl hr).mono fun e w' ⟨he,hx⟩=>?_⟩;obtain⟨h1,h2⟩:=hI.ext hx;refine⟨M,bm,tk,σ,.ret (.d (.lit u)),⟨rfl,rfl⟩,h1,h2,fun v e=>?_,fun v e=>by cases e⟩;cases e;exact⟨u,he,.d (.lit u hu),fun _ _ _ e=>by cases e⟩
theorem rZ{f:FuncId}{fn:Func}{a:V}{u:Value}{σ:LLV}(hf:Tryz.prog.funcs[f]? = some fn)(hn:(fn.name == "runtime.NumGoroutine")=false)(hb:fn.body.isNone=false)(hu:df u)
 (h:∀(M:av) (bm:List Nat) (w:World) (v:Value),G.cells M->M.hold w->Rep M bm a v->Calls Tryz.prog f #[v] w fun e w'=>e=.returned u/\Ext w w'):Fun G f [a] σ (aN (.d (.lit u)) σ):=
 Hq hf hn hb hu fun M bm w vs hG hM hl hr=>match vs,hl with
  | [v],_=>h M bm w v hG hM (hr 0 (by simp) (by simp))
end Go.Proofs.YtnhphlmblenapaaGreatDoor
namespace Go.Proofs.YtnhphlmblenapaaGreatDoor
open Go.RowKit
theorem AL{M:av}{l:List ByteArray}{p:Option Addr}{cap:Nat}(h1:l.length≤cap)(h2:cap≤maxLen)(hs:∀s,s∈l->s.size≤maxLen)
 (h:∀i s,l[i]? = some s->∃b off,p=some ⟨b,off,none⟩/\M b (off+i)=some (.string s)):DRep M (cV l) (.slice p l.length cap):=by
 have hlen:l.length=(l.map fun s=>[ai s]).length:=by simp
 unfold cV;rw[hlen];refine .sl _ 1 p cap (fun i _=>.string (l[i]?.getD ⟨#[]⟩)) (fun r hr=>?_) (fun i j hi hj=>?_) (fun i hi=>?_) (by omega) h2
 .obtain⟨s,-,rfl⟩:=List.mem_map.1 hr;rfl
 .have hi':i<l.length:=by simpa using hi
  have hj0:j=0:=by simpa using hj
  subst hj0;simp only[TP,TN,TM hi',Option.getD_some];exact .lit _ (hs _ (TO hi'))
 .have hi':i<l.length:=by simpa using hi
  obtain⟨b,off,h7,h8⟩:=h i _ (TM hi');refine⟨b,off,h7,fun j hj=>?_⟩;have hj0:j=0:=by omega
  subst hj0;simp only[TM hi',Option.getD_some];simpa using h8
def u9(tk:bA)(g:Option Nat):bA:=fun i j=>match i,j with
 | none,0=>g
 | i,j=>tk i j
theorem nu{f:FuncId}{fn:Func}{args:List V}{l:List ByteArray}{σ:LLV}(hf:Tryz.prog.funcs[f]? = some fn)(hn:(fn.name == "runtime.NumGoroutine")=false)(hb:fn.body.isNone=false)
 (h:∀(M:av) (bm:List Nat) (w:World) (vs:List Value),G.cells M->M.hold w->vs.length=args.length->(∀i (h:i<args.length) (h':i<vs.length),Rep M bm args[i] vs[i])->(∀s,s∈l->s.size≤maxLen)/\Calls Tryz.prog f vs.toArray w (u1 l w)):
 Fun G f args σ (aN (.own 9 1 (l.map fun s=>[ai s])) σ):=by
 refine⟨bP (P:=Tryz.prog) hf hn hb,fun M bm tk pr w vs hG hI ht hl hr=>(h M bm w vs hG.1 hI.facts hl hr).2.mono fun e w' ⟨v,he,hrow,hg,hx⟩=>?_⟩;have hs:=(h M bm w vs hG.1 hI.facts hl hr).1;have hlt:∀b,b<w.heap.size->∀o,(if w.heap.size≤b then(if o<l.length then w'.cell? ⟨b,o,none⟩else none)else M b o)=M b o:=fun b hb o=>if_neg (by omega)
 have hle:M.le fun b o=>if w.heap.size≤b then(if o<l.length then w'.cell? ⟨b,o,none⟩else none)else M b o:=fun b o x hm=>by
  have hb:=hI.facts.lt hm;show(if w.heap.size≤b then(if o<l.length then w'.cell? ⟨b,o,none⟩else none)else M b o)=some x;rw[hlt b hb o];exact hm
 obtain⟨h1,h2⟩:=hI.grow (M':=fun b o=>if w.heap.size≤b then(if o<l.length then w'.cell? ⟨b,o,none⟩else none)else M b o) hx hle (fun b o x hm=>by
  by_cases hb:w.heap.size≤b
  .simp only[if_pos hb]at hm;split at hm
   .exact hm
   .cases hm
  .simp only[if_neg hb]at hm;exact hx.cell (hI.facts b o x hm)) hlt
 have hgl:∀g,v.ownBlock=some g->g<w'.heap.size:=fun g hgg=>by
  obtain⟨-,⟨rfl,-⟩|⟨g',cap,cur,rfl,-,h3,-⟩⟩:=hrow
  .cases hgg
  .cases hgg;exact(Array.getElem?_eq_some_iff.1 h3).1
 have hbm:=hI.bm_lt
 have hI2:Inv (fun b o=>if w.heap.size≤b then(if o<l.length then w'.cell? ⟨b,o,none⟩else none)else M b o) bm σ (u9 tk v.ownBlock) pr w':=by
  refine⟨h1.facts,h1.len,h1.box,h1.free,h1.bmnd,fun i j g hij=>?_,fun i j i' j' g h3 h4=>?_,h1.prlt⟩
  .unfold u9 at hij;split at hij
   .have:=hg g hij;exact⟨hgl g hij,fun hb=>by have:=hbm g hb;omega,fun hp=>by have:=hI.prlt g hp;omega⟩
   .exact h1.tok _ _ _ hij
  .have old:∀i j,tk i j=some g->g<w.heap.size:=fun i j hij=>(hI.tok _ _ _ hij).1;unfold u9 at h3 h4;split at h3<;>split at h4
   .exact⟨rfl,rfl⟩
   .have:=hg g h3;have:=old _ _ h4;omega
   .have:=hg g h4;have:=old _ _ h3;omega
   .exact h1.inj _ _ _ _ _ h3 h4
 refine⟨_,bm,u9 tk v.ownBlock,σ,.ret (.own 9 1 (l.map fun s=>[ai s])),⟨rfl,rfl⟩,hI2,h2,fun x e=>?_,fun x e=>by cases e⟩;cases e;have hlen:(l.map fun s=>[ai s]).length=l.length:=by simp
 refine⟨v,he,.own ?_,fun T k rows e=>?_⟩
 .obtain⟨p,cap,rfl,g1,g2,g3⟩:=nS hrow;refine AL g1 g2 hs fun i s hi=>?_;obtain⟨b,off,rfl,g4⟩:=g3 i s hi;refine⟨b,off,rfl,?_⟩
  have hb0:off=0:=by
   obtain⟨-,⟨e,-⟩|⟨g',cap',cur,e,-⟩⟩:=hrow
   .cases e
   .cases e;rfl
  subst hb0;have hil:=(List.getElem?_eq_some_iff.1 hi).1;have:=hg b rfl;simp only[T0]at g4 ⊢;rw[if_pos this,if_pos hil];exact g4
 .cases e;have hrow':=hrow;obtain⟨g0,⟨rfl,g1⟩|⟨g,cap,cur,rfl,g2,g3,g4⟩⟩:=hrow
  .exact .inl ⟨rfl,by have:l=[]:=List.eq_nil_of_length_eq_zero g1;simp[this]⟩
  .refine .inr ⟨g,_,rfl,rfl,fun r hr=>?_,by rw[hlen];exact hrow',fun o x hm=>?_⟩
   .obtain⟨s,-,rfl⟩:=List.mem_map.1 hr;rfl
   .have:=hg g rfl;simp only[if_pos this]at hm;split at hm
    .rw[hlen];omega
    .cases hm
def mem(w:World):av:=fun b o=>w.cell? ⟨b,o,none⟩
theorem FG(w:World):(mem w).hold w:=fun _ _ _ h=>h
theorem Co(w:World):Inv (mem w) [] [] (fun _ _=>none) (fun b=>b<w.heap.size) w:=
 {facts:=FG w,len:=rfl,box:=fun i b cs h=>by simp at h,free:=fun b h=>by simp at h,bmnd:=List.nodup_nil,
  tok:=fun i j g h=>(nomatch h),inj:=fun i j i' j' g h=>(nomatch h),prlt:=fun b h=>h}
section
variable {H : Type} {enc : TypeId × Value -> H} {P : Program} {W : World} {base : Nat} {spare : Nat -> Bool} {held : Bool} {fuel : Nat} {t : TypeId} {cs : List Value} {x : DataW H × List MemPlace}
end
end Go.Proofs.YtnhphlmblenapaaGreatDoor
namespace Go.Proofs.YtnhphlmblenapaaGreatDoor
open Go.RowKit
theorem eL(s:ByteArray)(σ:LLV):Fun G 142 [.d (ai s)] σ (aN (.d (.lit (.bool (bC s)))) σ):=
 rZ Tryz.func142 (by kernel_rfl) (by kernel_rfl) trivial fun M bm w v hG hM hr=>by
  cases hr with
  | d h=>cases h with
   | lit _ hs=>exact iK s w (by simp only[df,maxLen]at hs;omega)
theorem FX{q:UInt8->Bool}:∀{l:Bs} {j:Nat},j<(l.takeWhile q).length->∃c,l[j]? = some c/\q c=true
 | [],j,h=>by simp at h
 | a::l,j,h=>by
  by_cases ha:q a=true
  .rw[TQ ha]at h;cases j with
   | zero=>exact⟨a,rfl,ha⟩
   | succ j=>obtain⟨c,h1,h2⟩:=FX (l:=l) (j:=j) (by simpa using h);exact⟨c,by simpa using h1,h2⟩
  .rw[TR ha]at h;simp at h
theorem zj{q:UInt8->Bool}:∀l:Bs,(l.takeWhile q).length=l.length\/∃c,l[(l.takeWhile q).length]? = some c/\q c=false
 | []=>.inl rfl
 | a::l=>by
  by_cases ha:q a=true
  .rw[TQ ha];rcases zj (q:=q) l with h|⟨c,h1,h2⟩
   .left;simp[h]
   .right;exact⟨c,by simpa using h1,h2⟩
  .rw[TR ha];exact .inr ⟨a,rfl,by simpa using ha⟩
theorem x9{q:UInt8->Bool}(l:Bs):(l.takeWhile q).length≤l.length:=(List.takeWhile_prefix _).length_le
theorem vG(c:UInt8)(k:Nat)(hk:k<256):decide ((c.toNat:Int)=(k:Nat))=(c==UInt8.ofNat k):=by
 rw[Bool.eq_iff_iff];simp only[decide_eq_true_eq,beq_iff_eq];constructor
 .intro h;apply UInt8.toNat_inj.1;simp[UInt8.toNat_ofNat'];omega
 .intro h;subst h;simp[UInt8.toNat_ofNat'];omega
theorem zA(c:UInt8):decide ((c.toNat:Int)=32)=(c==32):=vG c 32 (by decide)
theorem JH(c:UInt8):decide ((c.toNat:Int)=9)=(c==9):=vG c 9 (by decide)
theorem tX(c:UInt8):decide ((c.toNat:Int)=10)=(c==10):=vG c 10 (by decide)
theorem EG(c:UInt8):decide ((c.toNat:Int)=48)=(c==48):=vG c 48 (by decide)
theorem NT(c:UInt8):decide ((c.toNat:Int)=45)=(c==45):=vG c 45 (by decide)
theorem kW(c:Int)(σ:LLV):Fun G 186 [.d (.lit (.int .u8 c))] σ (aN (.d (.lit (.bool (ff c)))) σ):=by
 refine ae Tryz.func186 Rn rfl fun hb hw=>?_;unfold PD ff;by_cases h1:97≤c<;>by_cases h2:c≤122
 all_goals
  simp -dsimp only[aw,seval,h1,h2];first|exact az hb rfl rfl TL ⟨rfl,rfl⟩
theorem pw(c:Int)(σ:LLV):Fun G 189 [.d (.lit (.int .u8 c))] σ (aN (.d (.lit (.bool (dG c)))) σ):=by
 refine ae Tryz.func189 Se rfl fun hb hw=>?_;unfold MG dG;by_cases h1:48≤c<;>by_cases h2:c≤57
 all_goals
  simp -dsimp only[aw,seval,h1,h2];first|exact az hb rfl rfl TL ⟨rfl,rfl⟩
theorem kL(c:Int)(σ:LLV):Fun G 199 [.d (.lit (.int .u8 c))] σ (aN (.d (.lit (.bool (dV c)))) σ):=by
 refine ae Tryz.func199 Rt rfl fun hb hw=>?_;unfold Pi dV;simp -dsimp only[aw,seval];refine ac (kW c _) ?_;cases ff c with
 | true=>
  simp -dsimp only[aw,seval];exact az hb rfl rfl TL ⟨rfl,rfl⟩
 | false=>
  simp -dsimp only[aw,seval];refine ac (pw c _) ?_;cases dG c with
  | true=>
   simp -dsimp only[aw,seval];exact az hb rfl rfl TL ⟨rfl,rfl⟩
  | false=>
   unfold ul;cases e1:decide (65≤c)<;>cases e2:decide (c≤90)<;>cases e3:decide (c=95)
   all_goals
    simp -dsimp only[aw,seval,e1,e2,e3];first|exact az hb rfl rfl TL ⟨rfl,rfl⟩
theorem tJ(l:List ByteArray)(s:ByteArray)(hl:l.length≤1200000)(σ:LLV):Fun G 226 [.d (cV l),.d (ai s)] σ (aN (.d (.lit (.bool (inB s l)))) σ):=by
 refine ae Tryz.func226 SU rfl fun hb hw=>?_;unfold OB;simp -dsimp only[aw,seval];refine eJ (R:=fun(j:Nat) ρ σ'=>ρ=[(0,.d (cV l)),(1,.d (ai s)),(5,aF .i64 j)]/\σ'=σ/\inB s l=inB s (l.drop j)) l.length ⟨rfl,rfl,rfl⟩ ?_ _;rintro j ρ' σ' hj ⟨rfl,rfl,hr⟩;by_cases hlt:j<l.length
 .have hd:inB s (l.drop j)=(decide (l[j]=s)||inB s (l.drop (j+1))):=by rw[List.drop_eq_getElem_cons hlt];rfl
  by_cases he:l[j]=s
  .simp -dsimp only[aw,seval,cV,TJ,hlt,decide_true,TM hlt,decide_eq_true he];rw[hd,decide_eq_true he]at hr;exact az hb rfl rfl TL ⟨by rw[hr];rfl,rfl⟩
  .simp -dsimp only[aw,seval,cV,TJ,hlt,decide_true,TM hlt,decide_eq_false he,aJ hlt (show l.length≤9223372036854775807 by omega)];rw[hd,decide_eq_false he,Bool.false_or]at hr;exact Nxt.same (TZ _) hb rfl ⟨rfl,rfl,hr⟩
 .simp -dsimp only[aw,seval,cV,TJ,hlt];rw[List.drop_eq_nil_of_le (by omega)]at hr;exact az hb rfl rfl TL ⟨by rw[hr];rfl,rfl⟩
theorem rU(σ:LLV):Fun G 227 [] σ (aN (.d (cV cj)) σ):=by
 refine ae Tryz.func227 Tv rfl fun hb hw=>?_;unfold Pd;simp -dsimp only[aw,seval];exact az hb rfl rfl TL ⟨rfl,rfl⟩
def f7:List ByteArray:=aP.map bs
theorem pA(σ:LLV):Fun G 231 [] σ (aN (.d (cV f7)) σ):=by
 refine ae Tryz.func231 Q7 rfl fun hb hw=>?_;unfold OG;simp -dsimp only[aw,seval];exact az hb rfl rfl TL ⟨rfl,rfl⟩
theorem mW(s:ByteArray)(σ:LLV):Fun G 188 [.d (ai s)] σ (aN (.d (.lit (.bool (inB s cj)))) σ):=by
 refine ae Tryz.func188 Tp rfl fun hb hw=>?_;unfold P2;simp -dsimp only[aw,seval];refine ac (rU _) ?_;simp -dsimp only[aw,seval];refine ac (tJ cj s (by decide) _) ?_;simp -dsimp only[aw,seval];exact az hb rfl rfl TL ⟨rfl,rfl⟩
theorem uy(s:ByteArray)(σ:LLV):Fun G 324 [.d (ai s)] σ (aN (.d (.lit (.bool (inB s f7)))) σ):=by
 refine ae Tryz.func324 Sa rfl fun hb hw=>?_;unfold N0;simp -dsimp only[aw,seval];refine ac (pA _) ?_;simp -dsimp only[aw,seval];refine ac (tJ f7 s (by decide) _) ?_;simp -dsimp only[aw,seval];exact az hb rfl rfl TL ⟨rfl,rfl⟩
theorem FJ(m r:Bs):m.isPrefixOf r=(decide (m.length≤r.length)&&decide (r.take m.length=m)):=by
 rw[Bool.eq_iff_iff];simp only[List.isPrefixOf_iff_prefix,Bool.and_eq_true,decide_eq_true_eq];exact⟨fun h=>⟨h.length_le,(List.prefix_iff_eq_take.1 h).symm⟩,fun h=>List.prefix_iff_eq_take.2 h.2.symm⟩
theorem Fg(l:Bs)(a n:Nat)(h:a+n≤l.length):mC true 0 (V.d (ai (bs l))) (some (V.d (ab (a:Int)))) (some (V.d (ab ((a+n:Nat):Int))))=some (V.d (ai (bs ((l.drop a).take n)))):=by
 have e:(bs l).extract a (a+n)=bs ((l.drop a).take n):=by
  rw[Lib.extract_eq,bz];unfold bs;rw[Nat.add_sub_cancel_left]
 have h2:(0:Int)≤((a+n:Nat):Int):=by omega
 have h3:(0:Int)≤((a:Nat):Int):=by omega
 simp only[mC,eR,if_pos h2,if_pos h3,Int.toNat_natCast,aG,h,Nat.le_add_right,and_self,if_true,e]
theorem nx(l m:Bs)(a:Nat)(ha:a≤l.length)(hl:l.length≤1200000)(hm:m.length≤1200000)(σ:LLV):Fun G 185 [.d (ai (bs l)),.d (ab a),.d (ai (bs m))] σ (aN (.d (.lit (.bool (m.isPrefixOf (l.drop a))))) σ):=by
 refine ae Tryz.func185 SE rfl fun hb hw=>?_;unfold OO;have w1:IntKind.i64.wrap (((l.length:Nat):Int)-(a:Nat))=((l.length-a:Nat):Int):=by rw[aA (by omega) (by omega)];omega
 have w2:IntKind.i64.wrap (((a:Nat):Int)+(m.length:Nat))=((a+m.length:Nat):Int):=by rw[aA (by omega) (by omega)];omega
 have hp:=FJ m (l.drop a);rw[TV]at hp;by_cases hc:m.length≤l.length-a
 .simp -dsimp only[aw,seval,aG,w1,w2,TK,hc,decide_true,Fg l a m.length (by omega),vg];rw[decide_eq_true hc,Bool.true_and]at hp;exact az hb rfl rfl TL ⟨by rw[hp];rfl,rfl⟩
 .simp -dsimp only[aw,seval,aG,w1,w2,TK,hc];rw[decide_eq_false hc,Bool.false_and]at hp;exact az hb rfl rfl TL ⟨by rw[hp];rfl,rfl⟩
theorem ui(l:Bs)(a:Nat)(ha:a≤l.length)(hl:l.length≤1200000)(σ:LLV):Fun G 187 [.d (ai (bs l)),.d (ab a)] σ (aN (.d (ab ((a+((l.drop a).takeWhile inn).length:Nat):Int))) σ):=by
 refine ae Tryz.func187 SW rfl fun hb hw=>?_;unfold Ok;have hle:=x9 (q:=inn) (l.drop a);have hd:=TV (l:=l) (i:=a);have he:=zj (q:=inn) (l.drop a);have ht:=fun j=>@FX inn (l.drop a) j;generalize ((l.drop a).takeWhile inn).length=K at *;simp -dsimp only[aw,seval];refine eJ (R:=fun(j:Nat) ρ σ'=>ρ=[(0,.d (ai (bs l))),(1,aF .i64 ((a+j:Nat):Int))]/\σ'=σ) K ⟨rfl,rfl⟩ ?_ _;rintro j ρ' σ' hj ⟨rfl,rfl⟩;have w1:IntKind.i64.wrap (((a+j:Nat):Int)+1)=((a+(j+1):Nat):Int):=by rw[aA (by omega) (by omega)];omega
 by_cases hlt:j<K
 .obtain⟨c,h1,h2⟩:=ht j hlt;rw[TT]at h1;have hx:a+j<l.length:=by omega
  simp -dsimp only[aw,seval,aG,TJ,hx,bz,h1,cm];refine ac (kL _ _) ?_;rw[show dV (c.toNat:Int)=true from h2];simp -dsimp only[aw,seval,w1];exact⟨hlt,Nxt.same (TZ _) hb rfl ⟨rfl,rfl⟩⟩
 .have hjk:j=K:=by omega
  subst hjk;rcases he with he|⟨c,h1,h2⟩
  .have hx:¬a+j<l.length:=by omega
   simp -dsimp only[aw,seval,aG,TJ,hx];exact az hb rfl rfl TL ⟨rfl,rfl⟩
  .rw[TT]at h1;have hx:a+j<l.length:=(List.getElem?_eq_some_iff.1 h1).1;simp -dsimp only[aw,seval,aG,TJ,hx,bz,h1,cm];refine ac (kL _ _) ?_;rw[show dV (c.toNat:Int)=false from h2];simp -dsimp only[aw,seval];exact az hb rfl rfl TL ⟨rfl,rfl⟩
theorem qH(l:Bs)(a:Nat)(ha:a≤l.length)(hl:l.length≤1200000)(σ:LLV):Fun G 132 [.d (ai (bs l)),.d (ab a)] σ (aN (.d (ab (1+((l.take a).count 10:Nat)))) σ):=by
 refine ae Tryz.func132 QU rfl fun hb hw=>?_;unfold Qt;simp -dsimp only[aw,seval];refine eJ (R:=fun(j:Nat) ρ σ'=>ρ=[(0,.d (ai (bs l))),(1,aF .i64 a),(5,aF .i64 (1+((l.take j).count 10:Nat))),(6,aF .i64 j)]/\σ'=σ) a ⟨rfl,rfl⟩ ?_ _;rintro j ρ' σ' hj ⟨rfl,rfl⟩;by_cases hlt:j<a
 .have hx:j<l.length:=by omega
  have hct:(l.take (j+1)).count 10=(l.take j).count 10+if(l[j]==10)=true then 1 else 0:=by
   rw[List.take_add_one,TM hx,List.count_append,Option.toList_some,List.count_cons,List.count_nil,T0]
  have hcl:(l.take j).count 10≤l.length:=Nat.le_trans List.count_le_length (by rw[List.length_take];omega);have w1:IntKind.i64.wrap (1+((TX 10 (TY j l):Nat):Int)+1)=1+((TX 10 (TY j l)+1:Nat):Int):=by rw[aA (by omega) (by omega)];omega
  cases h10:(l[j]==10)with
  | true=>
   rw[h10,if_pos rfl]at hct;simp -dsimp only[aw,seval,TJ,hlt,decide_true,bz,TM hx,cm,tX,h10,w1,aJ hlt (show a≤9223372036854775807 by omega)];exact Nxt.same (TZ _) hb rfl ⟨by rw[hct],rfl⟩
  | false=>
   rw[h10,if_neg Bool.false_ne_true]at hct;simp -dsimp only[aw,seval,TJ,hlt,decide_true,bz,TM hx,cm,tX,h10,aJ hlt (show a≤9223372036854775807 by omega)];exact Nxt.same (TZ _) hb rfl ⟨by rw[hct];rfl,rfl⟩
 .have hja:j=a:=by omega
  subst hja;simp -dsimp only[aw,seval,Int.lt_irrefl];exact az hb rfl rfl TL ⟨rfl,rfl⟩
end Go.Proofs.YtnhphlmblenapaaGreatDoor
