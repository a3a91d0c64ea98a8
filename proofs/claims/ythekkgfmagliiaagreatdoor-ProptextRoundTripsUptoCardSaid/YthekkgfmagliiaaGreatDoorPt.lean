import Derived.Test.YthekkgfmagliiaaGreatDoorRefs8
set_option linter.unusedVariables false
set_option linter.unusedSimpArgs false
set_option linter.unusedSectionVars false
open List renaming suffix_refl->RS,suffix_cons->RU,getElem_range->RW,getElem?_map->RX,getElem_mem->RY,getElem_map->RZ,map_cons->R0,range->R5
open Nat renaming le_refl->R6,lt_of_lt_of_le->R7,lt_of_le_of_lt->R8,le_succ->R9
namespace Go.Proofs.YthekkgfmagliiaaGreatDoor
open Go.RowKit
theorem FN(e:Ex):ce e≤aT e:=by
 induction e using Ex.ind with
 | h o m s l ih=>
 simp only[ce,aT]
 suffices H:∀(r:List Ex),(∀a,a∈r->a∈l)->dg r≤ba r by have:=H l (fun _ h=>h);omega
 intro r
 induction r with
 | nil=>intro _;simp[dg,ba]
 | cons a r ihr=>
  intro hm;have h1:=ih a (hm a (by simp));have h2:=ihr (fun x hx=>hm x (by simp[hx]));simp only[dg,ba];omega
theorem Ew(e:Ex):∀(d:Int) (x:See),(pc d e x).first=if x.first=0 then dF e else x.first:=by
 induction e using Ex.ind with
 | h o m s l ih=>
 intro d x
 suffices H:∀(r:List Ex),(∀a,a∈r->a∈l)->∀x:See,(kX (d+1) r x).first=if x.first=0 then kC r else x.first by
  rw[pc,H l (fun _ h=>h)];simp only[u4,dF,tD,Ex.op,Ex.num,Ex.name,Ex.args];repeat' split
  all_goals first|rfl|simp_all
 intro r
 induction r with
 | nil=>intro _ x;simp only[kX,kC];split<;>simp_all
 | cons a r ihr=>
  intro hm x;rw[kX,ihr (fun x hx=>hm x (by simp[hx])),ih a (hm a (by simp))];simp only[kC];repeat' split
  all_goals simp_all
theorem Cu(e:Ex):∀(d:Int) (x:See),0≤x.nodes->x.nodes+aT e≤1000000000->(pc d e x).nodes=x.nodes+aT e:=by
 induction e using Ex.ind with
 | h o m s l ih=>
 intro d x h0 h1
 suffices H:∀(r:List Ex),(∀a,a∈r->a∈l)->∀x:See,0≤x.nodes->x.nodes+ba r≤1000000000->(kX (d+1) r x).nodes=x.nodes+ba r by
  simp only[aT]at h1 ⊢;have hw:wrap64 (x.nodes+1)=x.nodes+1:=uo _ (by omega) (by omega);rw[pc,H l (fun _ h=>h) _ (by simp only[u4];omega) (by simp only[u4];omega)];simp only[u4];omega
 intro r
 induction r with
 | nil=>intro _ x _ _;simp[kX,ba]
 | cons a r ihr=>
  intro hm x h0 h1;simp only[ba]at h1 ⊢;have ha:=ih a (hm a (by simp)) (d+1) x h0 (by omega);rw[kX,ihr (fun x hx=>hm x (by simp[hx])) _ (by omega) (by omega),ha];omega
theorem FE(e:Ex):∀(d:Int) (x:See),(pc d e x).deep=max x.deep (d-1+ce e):=by
 induction e using Ex.ind with
 | h o m s l ih=>
 intro d x
 suffices H:∀(r:List Ex),(∀a,a∈r->a∈l)->∀x:See,d≤x.deep->(kX (d+1) r x).deep=max x.deep (d+dg r)by
  rw[pc,H l (fun _ h=>h) _ (by simp only[u4];split<;>omega)];simp only[u4,ce];split<;>omega
 intro r
 induction r with
 | nil=>intro _ x h;simp only[kX,dg];omega
 | cons a r ihr=>
  intro hm x h;have ha:=ih a (hm a (by simp)) (d+1) x;rw[kX,ihr (fun x hx=>hm x (by simp[hx])) _ (by omega),ha];simp only[dg];omega
theorem ui(ops:List Int)(f:See->List ByteArray)(hf:∀x d e,f (u4 x d e)=dI ops (f x) e.op e.name)(e:Ex):∀(d:Int) (x:See),d7 (ck ops) e (f x)=(f (pc d e x),true):=by
 induction e using Ex.ind with
 | h o m s l ih=>
 intro d x
 suffices H:∀(r:List Ex),(∀a,a∈r->a∈l)->∀x:See,ez (ck ops) r (f x)=(f (kX (d+1) r x),true)by
  rw[pc,d7];simp only[ck,if_true];rw[<-hf x d,H l (fun _ h=>h)]
 intro r
 induction r with
 | nil=>intro _ x;simp[kX,ez]
 | cons a r ihr=>
  intro hm x;rw[kX,ez,ih a (hm a (by simp)) (d+1) x];simp only[if_true];exact ihr (fun x hx=>hm x (by simp[hx])) _
theorem uc(e:Ex)(h:aT e≤1000000):(ij e).first=dF e/\(ij e).nodes=aT e/\(ij e).deep=ce e/\(ij e).vars=cM [2] e/\(ij e).arrs=cM [3,24] e:=by
 unfold ij;refine⟨by rw[Ew];rfl,?_,?_,?_,?_⟩
 .rw[Cu _ _ _ (by simp) (by simp;omega)];simp
 .rw[FE];simp
 .have:=ui [2] See.vars (fun _ _ _=>rfl) e 1 ⟨0,0,0,[],[]⟩;unfold cM;rw[this]
 .have:=ui [3,24] See.arrs (fun _ _ _=>rfl) e 1 ⟨0,0,0,[],[]⟩;unfold cM;rw[this]
theorem ED(e:Ex)(h:aT e≤1000000):nE e=aH e:=by
 obtain⟨h1,h2,h3,-,-⟩:=uc e h;unfold nE aH;rw[h1,h2,h3];have e1:(24<(ce e:Int))↔24<ce e:=by omega
 have e2:(400<(aT e:Int))↔400<aT e:=by omega
 simp only[e1,e2]
mutual
def dex:Ex->List D
 | .mk o n s l=>[ab o,ab n,ae s,.sl (J8 l)]
def J8:List Ex->LLD
 | []=>[]
 | a::r=>dex a::J8 r
end
theorem yu(l:List Ex):J8 l=l.map dex:=by
 induction l with
 | nil=>rfl
 | cons a r ih=>simp only[J8,ih,R0]
theorem bq(e:Ex):dex e=[ab e.op,ab e.num,ae e.name,.sl (e.args.map dex)]:=by
 cases e;simp only[dex,yu,Ex.op,Ex.num,Ex.name,Ex.args]
def vex(e:Ex):V:=.agg ((dex e).map V.d)
theorem al(e:Ex):vex e=.agg [.d (ab e.op),.d (ab e.num),.d (ae e.name),.d (.sl (e.args.map dex))]:=by
 unfold vex;rw[bq];rfl
section
variable {M : aq} {w : World}
theorem Ih(hM:M.hold w)(e:Ex):∀(vs:List Value),vs.length=(dex e).length->(∀i (h:i<(dex e).length) (h':i<vs.length),DRep M (dex e)[i] vs[i])->ExRep w e vs:=by
 induction e using Ex.ind with
 | h o n s l ih=>
 intro vs hl hr;simp only[dex,yu]at hl hr
 match vs,hl with
 | [v0,v1,v2,v3],_=>
 have r0:=hr 0 (by simp) (by simp);have r1:=hr 1 (by simp) (by simp);have r2:=hr 2 (by simp) (by simp);have r3:=hr 3 (by simp) (by simp);simp only[List.getElem_cons_zero,List.getElem_cons_succ,ab,ae]at r0 r1 r2 r3;cases r0 with|lit _ h0=>
 cases r1 with|lit _ h1=>
 cases r2 with|lit _ h2=>
 cases r3 with
 | sl _ k p cap val hk hd hf hc hm=>
 have hlen:(l.map dex).length=l.length:=by simp
 have h4:∀a:Ex,(dex a).length=4:=fun a=>by rw[bq];rfl
 refine .mk o n s l _ ((R5 l.length).map fun i=>(R5 4).map fun j=>val i j) (by simp) (fun i h h'=>?_) ?_ ?_ ?_ h2
 .simp only[RZ,RW];refine ih _ (RY h) _ (by rw[h4];simp) (fun j g g'=>?_);simp only[RZ,RW];have:=hd i j (by simpa using h) (by simpa using g);simpa using this
 .refine⟨p,cap,by simp,by simpa using hc,hm,fun i cs hi=>?_⟩;rw[RX]at hi;obtain⟨q,hq,rfl⟩:=Option.map_eq_some_iff.1 hi;have hql:=(List.getElem?_eq_some_iff.1 hq).1;have hqe:q=i:=by have:=(List.getElem?_eq_some_iff.1 hq).2;simpa using this.symm
  subst hqe;have hlt:q<(l.map dex).length:=by simpa using hql
  obtain⟨b,off,h5,h6⟩:=hf q hlt;have hk4:k=4:=by rw[<-hk _ (RY hlt)];simp[h4]
  subst hk4;refine⟨b,off,h5,by simp,fun j v hj=>?_⟩;rw[RX]at hj;obtain⟨j',hj',rfl⟩:=Option.map_eq_some_iff.1 hj;have hjl:=(List.getElem?_eq_some_iff.1 hj').1;have hje:j'=j:=by have:=(List.getElem?_eq_some_iff.1 hj').2;simpa using this.symm
  subst hje;exact hM _ _ _ (h6 j' (by simpa using hjl))
 .simp only[dx,IntKind.min,IntKind.max,IntKind.signed,IntKind.bits]at h0;simpa using h0
 .simp only[dx,IntKind.min,IntKind.max,IntKind.signed,IntKind.bits]at h1;simpa using h1
theorem j8{bm:List Nat}(hM:M.hold w){e:Ex}{v:Value}(h:Rep M bm (vex e) v):gB w e v:=by
 unfold vex at h;generalize hcs:(dex e).map V.d=cs at h;cases h with
 | @agg _ vs hl hh h1=>
 refine⟨vs,Ih hM e vs (by rw[hl,<-hcs];simp) (fun i g g'=>?_),rfl⟩;have:=hh i (by rw[<-hcs];simpa using g) g';have e1:cs[i]'(by rw[<-hcs];simpa using g)=.d (dex e)[i]:=by subst hcs;simp
 rw[e1]at this;cases this with|d h=>exact h
end
theorem AA(o m:Int)(s:ByteArray)(k:Nat):0≤aF o m s k/\aF o m s k≤7:=by
 unfold aF;repeat' split
 all_goals omega
theorem JB(e:Ex):0≤dF e/\dF e≤7:=by
 induction e using Ex.ind with
 | h o m s l ih=>
 have hL:∀(r:List Ex),(∀a,a∈r->a∈l)->0≤kC r/\kC r≤7:=by
  intro r
  induction r with
  | nil=>intro _;simp[kC]
  | cons a r ihr=>
   intro hm;have h1:=ih a (hm a (by simp));have h2:=ihr (fun x hx=>hm x (by simp[hx]));simp only[kC];split<;>omega
 have h1:=AA o m s l.length;have h2:=hL l (fun _ h=>h);simp only[dF];split<;>omega
theorem ru(e:Ex):dx (.int .i64 (aH e)):=by
 have h:0≤aH e/\aH e≤7:=by
  have:=JB e;unfold aH;split<;>omega
 generalize aH e=y at h;simp only[dx,IntKind.min,IntKind.max,IntKind.signed,IntKind.bits,if_true];omega
theorem pp(e:Ex)(hs:aT e≤1000000)(hd:ce e≤1000000)(σ:LLV):Fun G 91 [vex e] σ (az (.d (ab (aH e))) σ):=
 nH Tryz.func91 (by kernel_rfl) (by kernel_rfl) (ru e) fun M bm pr w v hG hM hr=>DB e w v (j8 hM hr) (qr hG.1 hM) hd hs
theorem AL(e:Ex)(hs:aT e≤1000000)(hd:ce e≤999999)(σ:LLV):Fun G 76 [vex e] σ (az (.d (ab (aH e))) σ):=
 nH Tryz.func76 (by kernel_rfl) (by kernel_rfl) (ru e) fun M bm pr w v hG hM hr=>by
  have:=yN e w v (j8 hM hr) hs hd;rwa[ED e hs]at this
end Go.Proofs.YthekkgfmagliiaaGreatDoor
namespace Go.Proofs.YthekkgfmagliiaaGreatDoor
open Go.RowKit
section
variable {M : aq} {w : World}
end
theorem Bg{f:FuncId}{fn:Func}{args:List V}{u:Value}{σ:LLV}(hf:Tryz.prog.funcs[f]? = some fn)(hn:(fn.name == "runtime.NumGoroutine")=false)(hb:fn.body.isNone=false)(hu:dx u)
 (h:∀(M:aq) (bm:List Nat) (w:World) (vs:List Value),G.cells M->M.hold w->vs.length=args.length->(∀i (h:i<args.length) (h':i<vs.length),Rep M bm args[i] vs[i])->Calls Tryz.prog f vs.toArray w fun e w'=>e=.returned u/\Ext w w'):
 Fun G f args σ (az (.d (.lit u)) σ):=by
 refine⟨bN (P:=Tryz.prog) hf hn hb,fun M bm tk pr w vs hG hI ht hl hr=>(h M bm w vs hG.1 hI.facts hl hr).mono fun e w' ⟨he,hx⟩=>?_⟩;obtain⟨h1,h2⟩:=hI.ext hx;refine⟨M,bm,tk,σ,.ret (.d (.lit u)),⟨rfl,rfl⟩,h1,h2,fun v e=>?_,fun v e=>by cases e⟩;cases e;exact⟨u,he,.d (.lit u hu),fun _ _ _ e=>by cases e⟩
theorem yr{f:FuncId}{fn:Func}{a:V}{u:Value}{σ:LLV}(hf:Tryz.prog.funcs[f]? = some fn)(hn:(fn.name == "runtime.NumGoroutine")=false)(hb:fn.body.isNone=false)(hu:dx u)
 (h:∀(M:aq) (bm:List Nat) (w:World) (v:Value),G.cells M->M.hold w->Rep M bm a v->Calls Tryz.prog f #[v] w fun e w'=>e=.returned u/\Ext w w'):Fun G f [a] σ (az (.d (.lit u)) σ):=
 Bg hf hn hb hu fun M bm w vs hG hM hl hr=>match vs,hl with
  | [v],_=>h M bm w v hG hM (hr 0 (by simp) (by simp))
theorem FC{f:FuncId}{fn:Func}{a b:V}{u:Value}{σ:LLV}(hf:Tryz.prog.funcs[f]? = some fn)(hn:(fn.name == "runtime.NumGoroutine")=false)(hb:fn.body.isNone=false)(hu:dx u)
 (h:∀(M:aq) (bm:List Nat) (w:World) (v v':Value),G.cells M->M.hold w->Rep M bm a v->Rep M bm b v'->Calls Tryz.prog f #[v,v'] w fun e w'=>e=.returned u/\Ext w w'):Fun G f [a,b] σ (az (.d (.lit u)) σ):=
 Bg hf hn hb hu fun M bm w vs hG hM hl hr=>match vs,hl with
  | [v,v'],_=>h M bm w v v' hG hM (hr 0 (by simp) (by simp)) (hr 1 (by simp) (by simp))
end Go.Proofs.YthekkgfmagliiaaGreatDoor
namespace Go.Proofs.YthekkgfmagliiaaGreatDoor
open Go.RowKit
inductive PR where
 | out
 | bad (e:Int) (r:List Tok)
 | ok (e:Ex) (r:List Tok)
def PR.bind(x:PR)(f:Ex->List Tok->PR):PR:=match x with
 | .out=>.out
 | .bad e r=>.bad e r
 | .ok e r=>f e r
inductive PK where
 | W
 | I
 | L (k:Nat)
 | Lp (k:Nat) (a:Ex)
 | In (a:Ex)
 | Ip (args:List Ex)
 | U
 | P
def eX:List Tok->PR
 | []=>.bad 6 []
 | t::r=>.bad 5 (t::r)
def aa(c:UInt8):ByteArray:=⟨#[c]⟩
def aE(c d:UInt8):ByteArray:=⟨#[c,d]⟩
def acc(m:ByteArray):List Tok->Option (List Tok)
 | []=>none
 | t::r=>if bC t=true/\(t.kind=4\/t.kind=2)/\t.text=m then some r else none
def aZ(o:Int)(l:List Ex):Ex:=.mk o 0 ⟨#[]⟩ l
def cf:List (ByteArray×Int×Nat):=[(aE 61 62,21,2),(aE 124 124,20,3),(aE 38 38,19,4),(aa 124,11,5),(aa 94,12,6),(aa 38,10,7),(aE 61 61,15,8),(aE 33 61,16,8),(aa 60,17,9),(aE 60 61,18,9),(aE 60 60,13,10),(aE 62 62,14,10),(aa 43,7,11),(aa 45,8,11),(aa 42,9,12)]
def jb:List (ByteArray×Int×Nat)->Nat->List Tok->Option (Int×List Tok)
 | [],_,_=>none
 | b::l,k,r=>if b.2.2=k then(match acc b.1 r with|some r1=>some (b.2.1,r1)|none=>jb l k r)else jb l k r
def eY(k:Nat)(r:List Tok):Option (Int×Bool×List Tok):=match jb cf k r with
 | some (o,r1)=>some (o,false,r1)
 | none=>if k=9 then(match acc (aa 62) r with
  | some r1=>some (17,true,r1)
  | none=>match acc (aE 62 61) r with
   | some r1=>some (18,true,r1)
   | none=>none)else none
def bX:ByteArray:=⟨#[105,110,115,105,100,101]⟩
def kg:ByteArray:=⟨#[115,117,109]⟩
def fV:ByteArray:=⟨#[111,110,101,115]⟩
def bA:List Tok->Option (ByteArray×List Tok)
 | []=>none
 | t::r=>if bC t=true/\t.kind=1 then some (t.text,r)else none
def ch:List Tok->Option (Int×List Tok)
 | []=>none
 | t::r=>if bC t=true/\t.kind=3 then some (t.num,r)else none
def uT(n:Int):ByteArray:=⟨(Lib.decDigits n.toNat).toArray⟩
def oC(s:ByteArray)(n:Int):ByteArray:=s++(aa 91++(uT n++aa 93))
def eC(rec:PK->List Tok->PR)(r:List Tok):PR:=match acc (aa 40) r with
 | some r1=>(rec .W r1).bind fun e r2=>match acc (aa 41) r2 with
  | some r3=>.ok e r3
  | none=>eX r2
 | none=>match ch r with
  | some (n,r1)=>if 65535<n then .bad 3 r else .ok (.mk 1 n ⟨#[]⟩ []) r1
  | none=>match bA r with
   | none=>eX r
   | some (s,r1)=>match (if s=kg then acc (aa 40) r1 else none)with
    | some r2=>match bA r2 with
     | none=>eX r2
     | some (a,r3)=>match acc (aa 41) r3 with
      | some r4=>.ok (.mk 24 0 a []) r4
      | none=>eX r3
    | none=>match (if s=fV then acc (aa 40) r1 else none)with
     | some r2=>(rec .W r2).bind fun e r3=>match acc (aa 41) r3 with
      | some r4=>.ok (aZ 25 [e]) r4
      | none=>eX r3
     | none=>match acc (aa 91) r1 with
      | some r2=>(rec .W r2).bind fun e r3=>match acc (aa 93) r3 with
       | some r4=>.ok (.mk 3 0 s [e]) r4
       | none=>eX r3
      | none=>match acc (aa 64) r1 with
       | some r2=>match ch r2 with
        | none=>eX r2
        | some (n,r3)=>if 65535<n then .bad 3 r2 else .ok (.mk 2 0 (oC s n) []) r3
       | none=>.ok (.mk 2 0 s []) r1
def aQ(rec:PK->List Tok->PR):PK->List Tok->PR
 | .W,r=>(rec .I r).bind fun c r1=>match acc (aa 63) r1 with
  | none=>.ok c r1
  | some r2=>(rec .W r2).bind fun a r3=>match acc (aa 58) r3 with
   | none=>eX r3
   | some r4=>(rec .W r4).bind fun b r5=>.ok (aZ 22 [c,a,b]) r5
 | .I,r=>(rec (.L 3) r).bind fun a r1=>match acc (aE 61 62) r1 with
  | none=>.ok a r1
  | some r2=>(rec .I r2).bind fun b r3=>.ok (aZ 21 [a,b]) r3
 | .L k,r=>if 12<k then rec .U r else(rec (.L (k+1)) r).bind fun a r1=>rec (.Lp k a) r1
 | .Lp k a,r=>match (if k=9 then acc bX r else none)with
  | some r1=>(rec (.In a) r1).bind fun b r2=>rec (.Lp k b) r2
  | none=>match eY k r with
   | none=>.ok a r
   | some (o,ex,r1)=>(rec (.L (k+1)) r1).bind fun c r2=>rec (.Lp k (if ex then aZ o [c,a]else aZ o [a,c])) r2
 | .In a,r=>match acc (aa 123) r with
  | none=>eX r
  | some r1=>rec (.Ip [a]) r1
 | .Ip args,r=>(rec .W r).bind fun lo r1=>match acc (aE 46 46) r1 with
  | none=>eX r1
  | some r2=>(rec .W r2).bind fun hi r3=>match acc (aa 44) r3 with
   | some r4=>rec (.Ip (args++[lo,hi])) r4
   | none=>match acc (aa 125) r3 with
    | some r5=>.ok (aZ 23 (args++[lo,hi])) r5
    | none=>eX r3
 | .U,r=>match acc (aa 33) r with
  | some r1=>(rec .U r1).bind fun a r2=>.ok (aZ 4 [a]) r2
  | none=>match acc (aa 126) r with
   | some r1=>(rec .U r1).bind fun a r2=>.ok (aZ 5 [a]) r2
   | none=>match acc (aa 45) r with
    | some r1=>(rec .U r1).bind fun a r2=>.ok (aZ 6 [a]) r2
    | none=>rec .P r
 | .P,r=>eC rec r
def gz:Nat->PK->List Tok->PR
 | 0,_,_=>.out
 | n+1,k,r=>aQ (gz n) k r
theorem xF{m:ByteArray}{r r1:List Tok}(h:acc m r=some r1):∃t,r=t::r1/\bC t=true/\(t.kind=4\/t.kind=2)/\t.text=m:=by
 cases r with
 | nil=>cases h
 | cons t q=>
  simp only[acc]at h;split at h
  .rename_i hc;cases h;exact⟨t,rfl,hc⟩
  .cases h
theorem AG{r r1:List Tok}{s:ByteArray}(h:bA r=some (s,r1)):∃t,r=t::r1/\bC t=true/\t.kind=1/\t.text=s:=by
 cases r with
 | nil=>cases h
 | cons t q=>
  simp only[bA]at h;split at h
  .rename_i hc;cases h;exact⟨t,rfl,hc.1,hc.2,rfl⟩
  .cases h
theorem t6{r r1:List Tok}{n:Int}(h:ch r=some (n,r1)):∃t,r=t::r1/\bC t=true/\t.kind=3/\t.num=n:=by
 cases r with
 | nil=>cases h
 | cons t q=>
  simp only[ch]at h;split at h
  .rename_i hc;cases h;exact⟨t,rfl,hc.1,hc.2,rfl⟩
  .cases h
theorem ay{m:ByteArray}{r r1:List Tok}(h:acc m r=some r1):r1 <:+ r/\r1.length<r.length:=by
 obtain⟨t,rfl,-⟩:=xF h;exact⟨RU _ _,by simp⟩
theorem fq{r r1:List Tok}{s:ByteArray}(h:bA r=some (s,r1)):r1 <:+ r/\r1.length<r.length:=by
 obtain⟨t,rfl,-⟩:=AG h;exact⟨RU _ _,by simp⟩
theorem lj{r r1:List Tok}{n:Int}(h:ch r=some (n,r1)):r1 <:+ r/\r1.length<r.length:=by
 obtain⟨t,rfl,-⟩:=t6 h;exact⟨RU _ _,by simp⟩
theorem oi:∀(l:List (ByteArray×Int×Nat)) (k:Nat) (r:List Tok) {o:Int} {r1:List Tok},jb l k r=some (o,r1)->r1 <:+ r/\r1.length<r.length
 | [],_,_,_,_,h=>by cases h
 | b::l,k,r,o,r1,h=>by
  simp only[jb]at h;split at h
  .split at h
   .rename_i q hq;cases h;exact ay hq
   .exact oi l k r h
  .exact oi l k r h
theorem om{k:Nat}{r r1:List Tok}{o:Int}{ex:Bool}(h:eY k r=some (o,ex,r1)):r1 <:+ r/\r1.length<r.length:=by
 unfold eY at h;split at h
 .rename_i o' q hq;cases h;exact oi _ _ _ hq
 .split at h
  .split at h
   .rename_i q hq;cases h;exact ay hq
   .split at h
    .rename_i q hq;cases h;exact ay hq
    .cases h
  .cases h
def PR.le(x y:PR):Prop:=x=.out\/x=y
theorem PR.le.rfl{x:PR}:x.le x:=.inr (Eq.refl x)
theorem cF{x x':PR}{f f':Ex->List Tok->PR}(h:x.le x')(hf:∀e r,(f e r).le (f' e r)):(x.bind f).le (x'.bind f'):=by
 rcases h with rfl|rfl
 .exact .inl (Eq.refl _)
 .cases x with
  | out=>exact .inl (Eq.refl _)
  | bad e r=>exact .rfl
  | ok e r=>exact hf e r
theorem Ai{rec rec':PK->List Tok->PR}(h:∀k r,(rec k r).le (rec' k r))(r:List Tok):(eC rec r).le (eC rec' r):=by
 unfold eC;cases acc (aa 40) r with
 | some r1=>exact cF (h _ _) fun e r2=>.rfl
 | none=>
 cases ch r with
 | some p=>exact .rfl
 | none=>
 cases bA r with
 | none=>exact .rfl
 | some p=>
 obtain⟨s,r1⟩:=p;simp only;cases (if s=kg then acc (aa 40) r1 else none)with
 | some r2=>exact .rfl
 | none=>
 simp only;cases (if s=fV then acc (aa 40) r1 else none)with
 | some r2=>exact cF (h _ _) fun e r3=>.rfl
 | none=>
 simp only;cases acc (aa 91) r1 with
 | some r2=>exact cF (h _ _) fun e r3=>.rfl
 | none=>exact .rfl
theorem sy{rec rec':PK->List Tok->PR}(h:∀k r,(rec k r).le (rec' k r))(k:PK)(r:List Tok):(aQ rec k r).le (aQ rec' k r):=by
 cases k with
 | W=>
  simp only[aQ];refine cF (h _ _) fun c r1=>?_;cases acc (aa 63) r1 with
  | none=>exact .rfl
  | some r2=>
   refine cF (h _ _) fun a r3=>?_;cases acc (aa 58) r3 with
   | none=>exact .rfl
   | some r4=>exact cF (h _ _) fun b r5=>.rfl
 | I=>
  simp only[aQ];refine cF (h _ _) fun c r1=>?_;cases acc (aE 61 62) r1 with
  | none=>exact .rfl
  | some r2=>exact cF (h _ _) fun b r5=>.rfl
 | L k=>
  simp only[aQ];split
  .exact h _ _
  .exact cF (h _ _) fun b r5=>h _ _
 | Lp k a=>
  simp only[aQ];cases (if k=9 then acc bX r else none)with
  | some r1=>exact cF (h _ _) fun b r5=>h _ _
  | none=>
   simp only;cases eY k r with
   | none=>exact .rfl
   | some p=>exact cF (h _ _) fun b r5=>h _ _
 | In a=>
  simp only[aQ];cases acc (aa 123) r with
  | none=>exact .rfl
  | some r1=>exact h _ _
 | Ip args=>
  simp only[aQ];refine cF (h _ _) fun lo r1=>?_;cases acc (aE 46 46) r1 with
  | none=>exact .rfl
  | some r2=>
   refine cF (h _ _) fun hi r3=>?_;cases acc (aa 44) r3 with
   | some r4=>exact h _ _
   | none=>exact .rfl
 | U=>
  simp only[aQ];cases acc (aa 33) r with
  | some r1=>exact cF (h _ _) fun b r5=>.rfl
  | none=>
  cases acc (aa 126) r with
  | some r1=>exact cF (h _ _) fun b r5=>.rfl
  | none=>
  cases acc (aa 45) r with
  | some r1=>exact cF (h _ _) fun b r5=>.rfl
  | none=>exact h _ _
 | P=>exact Ai h r
theorem qG:∀(n:Nat) (k:PK) (r:List Tok),(gz n k r).le (gz (n+1) k r)
 | 0,_,_=>.inl rfl
 | n+1,k,r=>sy (qG n) k r
theorem mP{n m:Nat}(h:n≤m)(k:PK)(r:List Tok):(gz n k r).le (gz m k r):=by
 induction h with
 | refl=>exact .rfl
 | step h ih=>
  rcases ih with e|e
  .exact .inl e
  .rw[e];exact qG _ k r
def iL(s:Bool)(r:List Tok):PR->Prop
 | .out=>True
 | .bad _ r'=>r' <:+ r
 | .ok _ r'=>r' <:+ r/\(s=true->r'.length<r.length)
theorem iL.weak{s:Bool}{r r0:List Tok}{x:PR}(h:iL s r x)(hr:r <:+ r0):iL s r0 x:=by
 cases x with
 | out=>trivial
 | bad e q=>exact h.trans hr
 | ok e q=>exact⟨h.1.trans hr,fun e=>R7 (h.2 e) hr.length_le⟩
theorem iL.strict{s:Bool}{r r0:List Tok}{x:PR}(h:iL s r x)(hr:r <:+ r0)(hl:r.length<r0.length):iL true r0 x:=by
 cases x with
 | out=>trivial
 | bad e q=>exact h.trans hr
 | ok e q=>exact⟨h.1.trans hr,fun _=>R8 h.1.length_le hl⟩
theorem iL.less{s:Bool}{r:List Tok}{x:PR}(h:iL s r x):iL false r x:=by
 cases x with
 | out=>trivial
 | bad e q=>exact h
 | ok e q=>exact⟨h.1,fun h=>by cases h⟩
theorem cD{s t:Bool}{r:List Tok}{x:PR}{f:Ex->List Tok->PR}(h:iL s r x)(hf:∀e r1,r1 <:+ r->iL t r1 (f e r1)):iL (s||t) r (x.bind f):=by
 cases x with
 | out=>trivial
 | bad e q=>exact h
 | ok e q=>
  have h1:=hf e q h.1;show iL (s||t) r (f e q);cases hx:f e q with
  | out=>trivial
  | bad e' q'=>rw[hx]at h1;exact h1.trans h.1
  | ok e' q'=>
   rw[hx]at h1;refine⟨h1.1.trans h.1,fun hs=>?_⟩;rcases Bool.or_eq_true_iff.1 hs with g|g
   .exact R8 h1.1.length_le (h.2 g)
   .exact R7 (h1.2 g) h.1.length_le
theorem dY{s:Bool}(r:List Tok):iL s r (eX r):=by
 cases r with
 | nil=>exact RS _
 | cons t r=>exact RS _
theorem eu(e:Ex){r r1:List Tok}(h:r1 <:+ r):iL false r (.ok e r1):=⟨h,fun h=>by cases h⟩
theorem Fu{s:Bool}(e:Ex){r r1:List Tok}(h:r1 <:+ r/\r1.length<r.length):iL s r (.ok e r1):=⟨h.1,fun _=>h.2⟩
def PK.eats:PK->Bool
 | .Lp _ _=>false
 | _=>true
theorem Eu{rec:PK->List Tok->PR}(h:∀k r,iL k.eats r (rec k r))(r:List Tok):iL true r (eC rec r):=by
 unfold eC;cases h1:acc (aa 40) r with
 | some r1=>
  obtain⟨a1,a2⟩:=ay h1;refine(cD (t:=false) ((h .W r1)) fun e r2 hs=>?_).strict a1 a2;cases h2:acc (aa 41) r2 with
  | some r3=>exact eu _ (ay h2).1
  | none=>exact dY _
 | none=>
 cases h2:ch r with
 | some p=>
  obtain⟨n,r1⟩:=p;simp only;split
  .exact RS _
  .exact Fu _ (lj h2)
 | none=>
 cases h3:bA r with
 | none=>exact dY _
 | some p=>
 obtain⟨s,r1⟩:=p;obtain⟨n1,n2⟩:=fq h3
 suffices hh:∀x,iL false r1 x->iL true r x by
  refine hh _ ?_;simp only;cases h4:(if s=kg then acc (aa 40) r1 else none)with
  | some r2=>
   have a1:r2 <:+ r1:=by
    split at h4
    .exact(ay h4).1
    .cases h4
   simp only;cases h5:bA r2 with
   | none=>exact(dY r2).weak a1
   | some p=>
    obtain⟨a,r3⟩:=p;simp only;cases h6:acc (aa 41) r3 with
    | some r4=>exact eu _ (((ay h6).1.trans (fq h5).1).trans a1)
    | none=>exact(dY r3).weak ((fq h5).1.trans a1)
  | none=>
  simp only;cases h5:(if s=fV then acc (aa 40) r1 else none)with
  | some r2=>
   have a1:r2 <:+ r1:=by
    split at h5
    .exact(ay h5).1
    .cases h5
   have:=(cD (t:=false) (f:=fun e r3=>match acc (aa 41) r3 with|some r4=>.ok (aZ 25 [e]) r4|none=>eX r3) (h .W r2) fun e r3 hs=>by
    cases h6:acc (aa 41) r3 with
    | some r4=>exact eu _ (ay h6).1
    | none=>exact dY _).weak a1
   exact this.less
  | none=>
  simp only;cases h6:acc (aa 91) r1 with
  | some r2=>
   have:=(cD (t:=false) (f:=fun e r3=>match acc (aa 93) r3 with|some r4=>.ok (.mk 3 0 s [e]) r4|none=>eX r3) (h .W r2) fun e r3 hs=>by
    cases h6:acc (aa 93) r3 with
    | some r4=>exact eu _ (ay h6).1
    | none=>exact dY _).weak (ay h6).1
   exact this.less
  | none=>
  simp only;cases h7:acc (aa 64) r1 with
  | some r2=>
   simp only;cases h8:ch r2 with
   | none=>exact(dY r2).weak (ay h7).1
   | some p=>
    obtain⟨n,r3⟩:=p;simp only;split
    .exact(ay h7).1
    .exact eu _ ((lj h8).1.trans (ay h7).1)
  | none=>exact eu _ (RS _)
 intro x hx;exact hx.strict n1 n2
theorem EK{rec:PK->List Tok->PR}(h:∀k r,iL k.eats r (rec k r))(k:PK)(r:List Tok):iL k.eats r (aQ rec k r):=by
 cases k with
 | W=>
  simp only[aQ];refine cD (s:=true) (t:=false) (h .I r) fun c r1 _=>?_;cases h1:acc (aa 63) r1 with
  | none=>exact eu _ (RS _)
  | some r2=>
   have:=cD (s:=true) (t:=false) (f:=fun a r3=>match acc (aa 58) r3 with|none=>eX r3|some r4=>(rec .W r4).bind fun b r5=>.ok (aZ 22 [c,a,b]) r5) (h .W r2) fun a r3 _=>by
    cases h2:acc (aa 58) r3 with
    | none=>exact dY _
    | some r4=>
     have:=(cD (s:=true) (t:=false) (f:=fun b r5=>.ok (aZ 22 [c,a,b]) r5) (h .W r4) fun b r5 _=>eu _ (RS _)).weak (ay h2).1;exact this.less
   have h3:=this.weak (ay h1).1;exact h3.less
 | I=>
  simp only[aQ];refine cD (s:=true) (t:=false) (h (.L 3) r) fun c r1 _=>?_;cases h1:acc (aE 61 62) r1 with
  | none=>exact eu _ (RS _)
  | some r2=>
   have:=(cD (s:=true) (t:=false) (f:=fun b r5=>.ok (aZ 21 [c,b]) r5) (h .I r2) fun b r5 _=>eu _ (RS _)).weak (ay h1).1;exact this.less
 | L k=>
  simp only[aQ];split
  .exact h .U r
  .exact cD (s:=true) (t:=false) (h (.L (k+1)) r) fun a r1 _=>h (.Lp k a) r1
 | Lp k a=>
  simp only[aQ];cases h1:(if k=9 then acc bX r else none)with
  | some r1=>
   have a1:r1 <:+ r:=by
    split at h1
    .exact(ay h1).1
    .cases h1
   have:=(cD (s:=true) (t:=false) (f:=fun b r2=>rec (.Lp k b) r2) (h (.In a) r1) fun b r2 _=>h (.Lp k b) r2).weak a1;exact this.less
  | none=>
   simp only;cases h2:eY k r with
   | none=>exact eu _ (RS _)
   | some p=>
    obtain⟨o,ex,r1⟩:=p;have:=(cD (s:=true) (t:=false) (f:=fun c r2=>rec (.Lp k (if ex then aZ o [c,a]else aZ o [a,c])) r2) (h (.L (k+1)) r1) fun b r2 _=>h (.Lp k _) r2).weak (om h2).1;exact this.less
 | In a=>
  simp only[aQ];cases h1:acc (aa 123) r with
  | none=>exact dY _
  | some r1=>exact(h (.Ip [a]) r1).weak (ay h1).1
 | Ip args=>
  simp only[aQ];refine cD (s:=true) (t:=false) (h .W r) fun lo r1 _=>?_;cases h1:acc (aE 46 46) r1 with
  | none=>exact dY _
  | some r2=>
   have:=(cD (s:=true) (t:=false) (f:=fun hi r3=>match acc (aa 44) r3 with|some r4=>rec (.Ip (args++[lo,hi])) r4|none=>match acc (aa 125) r3 with|some r5=>.ok (aZ 23 (args++[lo,hi])) r5|none=>eX r3) (h .W r2) fun hi r3 _=>by
    cases h2:acc (aa 44) r3 with
    | some r4=>
     have:=(h (.Ip (args++[lo,hi])) r4).weak (ay h2).1;exact this.less
    | none=>
     simp only;cases h3:acc (aa 125) r3 with
     | some r5=>exact eu _ (ay h3).1
     | none=>exact dY _).weak (ay h1).1
   exact this.less
 | U=>
  simp only[aQ];cases h1:acc (aa 33) r with
  | some r1=>exact(cD (s:=true) (t:=false) (h .U r1) fun a r2 _=>eu _ (RS _)).weak (ay h1).1
  | none=>
  cases h2:acc (aa 126) r with
  | some r1=>exact(cD (s:=true) (t:=false) (h .U r1) fun a r2 _=>eu _ (RS _)).weak (ay h2).1
  | none=>
  cases h3:acc (aa 45) r with
  | some r1=>exact(cD (s:=true) (t:=false) (h .U r1) fun a r2 _=>eu _ (RS _)).weak (ay h3).1
  | none=>exact h .P r
 | P=>exact Eu h r
theorem oD:∀(n:Nat) (k:PK) (r:List Tok),iL k.eats r (gz n k r)
 | 0,_,_=>trivial
 | n+1,k,r=>EK (oD n) k r
def PK.cost:PK->Nat
 | .W=>15
 | .I=>14
 | .L k=>3+(13-k)
 | .Lp _ _=>1
 | .In _=>1
 | .Ip _=>16
 | .U=>2
 | .P=>1
def jK(k:PK)(r:List Tok):Nat:=40*r.length+k.cost
theorem dS{x:PR}{f:Ex->List Tok->PR}(h:x≠.out)(hf:∀e r,x=.ok e r->f e r≠.out):x.bind f≠.out:=by
 cases x with
 | out=>exact absurd rfl h
 | bad e r=>intro h;cases h
 | ok e r=>exact hf e r rfl
theorem gp(r:List Tok):eX r≠.out:=by cases r<;>(intro h;cases h)
theorem qb(k:PK):1≤k.cost/\k.cost≤16:=by
 cases k<;>simp only[PK.cost]<;>omega
theorem ll{n:Nat}{k:PK}{r r1:List Tok}{e:Ex}(h:gz n k r=.ok e r1):r1.length≤r.length/\(k.eats=true->r1.length<r.length):=by
 have:=oD n k r;rw[h]at this;exact⟨this.1.length_le,this.2⟩
theorem Rx:∀(n:Nat) (k:PK) (r:List Tok),jK k r≤n->gz n k r≠.out:=by
 intro n
 induction n with
 | zero=>intro k r h;have:=(qb k).1;unfold jK at h;omega
 | succ n ih=>
  intro k r hn
  have less:∀(k':PK) (r':List Tok),r'.length<r.length->gz n k' r'≠.out:=fun k' r' hl=>ih k' r' (by
   have:=(qb k').2;have:=(qb k).1;unfold jK at *;omega)
  have same:∀(k':PK),k'.cost<k.cost->gz n k' r≠.out:=fun k' hc=>ih k' r (by unfold jK at *;omega);show aQ (gz n) k r≠.out;cases k with
  | W=>
   simp only[aQ];refine dS (same .I (by decide)) fun c r1 h1=>?_;have l1:=(ll h1).2 rfl;cases h2:acc (aa 63) r1 with
   | none=>intro h;cases h
   | some r2=>
    have l2:=(ay h2).2;refine dS (less _ _ (by omega)) fun a r3 h3=>?_;have l3:=(ll h3).1;cases h4:acc (aa 58) r3 with
    | none=>exact gp _
    | some r4=>
     have l4:=(ay h4).2;exact dS (less _ _ (by omega)) fun b r5 _ h=>by cases h
  | I=>
   simp only[aQ];refine dS (same (.L 3) (by decide)) fun c r1 h1=>?_;have l1:=(ll h1).2 rfl;cases h2:acc (aE 61 62) r1 with
   | none=>intro h;cases h
   | some r2=>
    have l2:=(ay h2).2;exact dS (less _ _ (by omega)) fun b r5 _ h=>by cases h
  | L k=>
   simp only[aQ];split
   .exact same .U (by simp only[PK.cost];omega)
   .rename_i hk;refine dS (same (.L (k+1)) (by simp only[PK.cost];omega)) fun c r1 h1=>?_;exact less _ _ ((ll h1).2 rfl)
  | Lp k a=>
   simp only[aQ];cases h1:(if k=9 then acc bX r else none)with
   | some r1=>
    have a1:r1.length<r.length:=by
     split at h1
     .exact(ay h1).2
     .cases h1
    exact dS (less _ _ a1) fun b r2 h2=>less _ _ (by have:=(ll h2).1;omega)
   | none=>
    simp only;cases h2:eY k r with
    | none=>intro h;cases h
    | some p=>
     obtain⟨o,ex,r1⟩:=p;have a1:=(om h2).2;exact dS (less _ _ a1) fun b r2 h2=>less _ _ (by have:=(ll h2).1;omega)
  | In a=>
   simp only[aQ];cases h1:acc (aa 123) r with
   | none=>exact gp _
   | some r1=>exact less _ _ (ay h1).2
  | Ip args=>
   simp only[aQ];refine dS (same .W (by simp only[PK.cost];omega)) fun lo r1 h1=>?_;have l1:=(ll h1).2 rfl;cases h2:acc (aE 46 46) r1 with
   | none=>exact gp _
   | some r2=>
    have l2:=(ay h2).2;refine dS (less _ _ (by omega)) fun hi r3 h3=>?_;have l3:=(ll h3).1;cases h4:acc (aa 44) r3 with
    | some r4=>exact less _ _ (by have:=(ay h4).2;omega)
    | none=>
     simp only;cases h5:acc (aa 125) r3 with
     | some r5=>intro h;cases h
     | none=>exact gp _
  | U=>
   simp only[aQ];cases h1:acc (aa 33) r with
   | some r1=>exact dS (less _ _ (ay h1).2) fun b r5 _ h=>by cases h
   | none=>
   cases h2:acc (aa 126) r with
   | some r1=>exact dS (less _ _ (ay h2).2) fun b r5 _ h=>by cases h
   | none=>
   cases h3:acc (aa 45) r with
   | some r1=>exact dS (less _ _ (ay h3).2) fun b r5 _ h=>by cases h
   | none=>exact same .P (by decide)
  | P=>
   show eC (gz n) r≠.out;unfold eC;cases h1:acc (aa 40) r with
   | some r1=>
    refine dS (less _ _ (ay h1).2) fun e r2 _=>?_;cases acc (aa 41) r2 with
    | some r3=>intro h;cases h
    | none=>exact gp _
   | none=>
   cases h2:ch r with
   | some p=>simp only;split<;>(intro h;cases h)
   | none=>
   cases h3:bA r with
   | none=>exact gp _
   | some p=>
   obtain⟨s,r1⟩:=p;have l1:=(fq h3).2;simp only;cases h4:(if s=kg then acc (aa 40) r1 else none)with
   | some r2=>
    simp only;cases bA r2 with
    | none=>exact gp _
    | some p=>
     simp only;cases acc (aa 41) p.2 with
     | some r4=>intro h;cases h
     | none=>exact gp _
   | none=>
   simp only;cases h5:(if s=fV then acc (aa 40) r1 else none)with
   | some r2=>
    have a1:r2.length<r1.length:=by
     split at h5
     .exact(ay h5).2
     .cases h5
    refine dS (less _ _ (by omega)) fun e r2 _=>?_;cases acc (aa 41) r2 with
    | some r3=>intro h;cases h
    | none=>exact gp _
   | none=>
   simp only;cases h6:acc (aa 91) r1 with
   | some r2=>
    have a1:=(ay h6).2;refine dS (less _ _ (by omega)) fun e r2 _=>?_;cases acc (aa 93) r2 with
    | some r3=>intro h;cases h
    | none=>exact gp _
   | none=>
   simp only;cases h7:acc (aa 64) r1 with
   | some r2=>
    simp only;cases ch r2 with
    | none=>exact gp _
    | some p=>simp only;split<;>(intro h;cases h)
   | none=>intro h;cases h
def par(k:PK)(r:List Tok):PR:=gz (40*r.length+20) k r
theorem eV(k:PK)(r:List Tok):par k r≠.out:=Rx _ _ _ (by have:=(qb k).2;unfold jK;omega)
theorem Hg(n:Nat)(k:PK)(r:List Tok):(gz n k r).le (par k r):=by
 rcases Nat.le_total n (40*r.length+20)with h|h
 .exact mP h k r
 .rcases mP h k r with e|e
  .exact absurd e (eV k r)
  .exact .inr e.symm
theorem cT(k:PK)(r:List Tok):par k r=aQ par k r:=by
 have h1:=sy (Hg (40*r.length+20)) k r;have h2:=mP (R9 (40*r.length+20)) k r;rcases h2 with e|e
 .exact absurd e (eV k r)
 .rcases h1 with g|g
  .exact absurd (e.trans g) (eV k r)
  .exact e.trans g
theorem nP(k:PK)(r:List Tok):iL k.eats r (par k r):=oD _ k r
def io(o:Int):Option (ByteArray×Nat):=(cf.find? fun b=>decide (b.2.1=o)).map fun b=>(b.1,b.2.2)
def lx(o:Int):Nat:=match io o with
 | some (_,l)=>l
 | none=>if o=22 then 1 else if o=23 then 9 else if o=4\/o=5\/o=6 then 13 else 14
def tm(m:ByteArray):Tok:=⟨4,0,m,1⟩
def tw(m:ByteArray):Tok:=⟨2,0,m,1⟩
def tn(s:ByteArray):Tok:=⟨1,0,s,1⟩
def td(n:Int):Tok:=⟨3,n,uT n,1⟩
def fK(k:Nat)(a:Int×List Tok):List Tok:=if lx a.1<k then tm (aa 40)::(a.2++[tm (aa 41)])else a.2
def fp:List (Int×List Tok)->List Tok
 | []=>[]
 | [_]=>[]
 | [a,b]=>a.2++tm (aE 46 46)::b.2
 | a::b::c::r=>a.2++tm (aE 46 46)::(b.2++tm (aa 44)::fp (c::r))
def dU(s:ByteArray):Int:=(((kQ s 91).data.toList.headD 0).toNat:Int)-48
def mB(s:ByteArray):List Tok:=if iz s=true then[tn (iV s 91),tm (aa 64),td (dU s)]else[tn s]
def lk(o n:Int)(s:ByteArray)(xs:List (Int×List Tok)):List Tok:=match io o with
 | some (m,l)=>fK (if l=2 then 3 else l) (xs.getD 0 (1,[]))++tm m::fK (if l=2 then 2 else l+1) (xs.getD 1 (1,[]))
 | none=>
  if o=4 then tm (aa 33)::fK 13 (xs.getD 0 (1,[]))
  else if o=5 then tm (aa 126)::fK 13 (xs.getD 0 (1,[]))
  else if o=6 then tm (aa 45)::fK 13 (xs.getD 0 (1,[]))
  else if o=22 then fK 2 (xs.getD 0 (1,[]))++tm (aa 63)::(fK 1 (xs.getD 1 (1,[]))++tm (aa 58)::fK 1 (xs.getD 2 (1,[])))
  else if o=23 then fK 9 (xs.getD 0 (1,[]))++tw bX::tm (aa 123)::(fp xs.tail++[tm (aa 125)])
  else if o=1 then[td n]
  else if o=3 then tn s::tm (aa 91)::((xs.getD 0 (1,[])).2++[tm (aa 93)])
  else if o=24 then[tn kg,tm (aa 40),tn s,tm (aa 41)]
  else if o=25 then tn fV::tm (aa 40)::((xs.getD 0 (1,[])).2++[tm (aa 41)])
  else mB s
mutual
def bG:Ex->List Tok
 | .mk o n s l=>lk o n s (eJ l)
def eJ:List Ex->List (Int×List Tok)
 | []=>[]
 | a::r=>(a.op,bG a)::eJ r
end
theorem y7(l:List Ex):eJ l=l.map fun a=>(a.op,bG a):=by
 induction l with
 | nil=>rfl
 | cons a r ih=>simp only[eJ,ih,R0]
structure Stop(k:Nat)(r:List Tok):Prop where
 q:k≤1->acc (aa 63) r=none
 im:k≤2->acc (aE 61 62) r=none
 op:∀j,k≤j->3≤j->eY j r=none
 ins:k≤9->acc bX r=none
 b:acc (aa 91) r=none
 a:acc (aa 64) r=none
 p:acc (aa 40) r=none
theorem Stop.mono{k j:Nat}{r:List Tok}(h:Stop k r)(hj:k≤j):Stop j r:=
 ⟨fun e=>h.q (by omega),fun e=>h.im (by omega),fun i h1 h2=>h.op i (by omega) h2,fun e=>h.ins (by omega),h.b,h.a,h.p⟩
theorem bJ{m:ByteArray}{t:Tok}{r:List Tok}(h:t.text≠m):acc m (t::r)=none:=by
 simp only[acc];rw[if_neg (fun hc=>h hc.2.2)]
theorem mW{t:Tok}{r:List Tok}{k:Nat}:∀(l:List (ByteArray×Int×Nat)),(∀b,b∈l->b.2.2=k->t.text≠b.1)->jb l k (t::r)=none
 | [],_=>rfl
 | b::l,h=>by
  simp only[jb];split
  .rename_i hb;rw[bJ (h b (by simp) hb)];exact mW l fun c hc=>h c (by simp[hc])
  .exact mW l fun c hc=>h c (by simp[hc])
theorem zq{t:Tok}{r:List Tok}{k:Nat}(h:∀b,b∈cf->b.2.2=k->t.text≠b.1)(h1:t.text≠aa 62)(h2:t.text≠aE 62 61):eY k (t::r)=none:=by
 unfold eY;rw[mW cf h];simp only;split
 .rw[bJ h1,bJ h2]
 .rfl
theorem nV{k:Nat}{t:Tok}(r:List Tok)(h1:k≤1->t.text≠aa 63)(h2:k≤2->t.text≠aE 61 62)(h3:∀b,b∈cf->k≤b.2.2->t.text≠b.1)(h4:k≤9->t.text≠bX)
 (h5:t.text≠aa 62/\t.text≠aE 62 61/\t.text≠aa 91/\t.text≠aa 64/\t.text≠aa 40):Stop k (t::r):=
 ⟨fun e=>bJ (h1 e),fun e=>bJ (h2 e),fun j hj _=>zq (fun b hb hbj=>h3 b hb (by omega)) h5.1 h5.2.1,fun e=>bJ (h4 e),bJ h5.2.2.1,bJ h5.2.2.2.1,bJ h5.2.2.2.2⟩
theorem gb{m:ByteArray}(h:m∈[aa 41,aa 93,aa 125,aa 44,aE 46 46,aa 58])(k:Nat)(r:List Tok):Stop k (tm m::r):=by
 have hd:∀m,m∈[aa 41,aa 93,aa 125,aa 44,aE 46 46,aa 58]->(m≠aa 63/\m≠aE 61 62/\(∀b,b∈cf->m≠b.1)/\m≠bX)/\(m≠aa 62/\m≠aE 62 61/\m≠aa 91/\m≠aa 64/\m≠aa 40):=by decide +kernel
 obtain⟨⟨h1,h2,h3,h4⟩,h5⟩:=hd m h;exact nV r (fun _=>h1) (fun _=>h2) (fun b hb _=>h3 b hb) (fun _=>h4) h5
theorem LP(r:List Tok):Stop 2 (tm (aa 63)::r):=
 nV r (fun h=>by omega) (fun _=>by decide +kernel) (by decide +kernel) (fun _=>by decide +kernel) (by decide +kernel)
theorem xP{b:ByteArray×Int×Nat}(h:b∈cf)(r:List Tok):Stop (b.2.2+1) (tm b.1::r):=by
 have hd:∀b,b∈cf->(2≤b.2.2/\b.1≠aa 63/\(b.2.2+1≤2->b.1≠aE 61 62)/\(∀c,c∈cf->b.2.2+1≤c.2.2->b.1≠c.1)/\b.1≠bX)/\(b.1≠aa 62/\b.1≠aE 62 61/\b.1≠aa 91/\b.1≠aa 64/\b.1≠aa 40):=by decide +kernel
 obtain⟨⟨h1,h2,h3,h4,h5⟩,h6⟩:=hd b h;exact nV r (fun _=>h2) h3 h4 (fun _=>h5) h6
theorem vY(r:List Tok):Stop 10 (tw bX::r):=
 nV r (fun h=>by omega) (fun h=>by omega) (by decide +kernel) (fun h=>by omega) (by decide +kernel)
theorem cC{m:ByteArray}(h:bC (tm m)=true)(r:List Tok):acc m (tm m::r)=some r:=by
 simp only[acc];rw[if_pos ⟨h,.inl rfl,rfl⟩]
theorem ol{m:ByteArray}(h:bC (tw m)=true)(r:List Tok):acc m (tw m::r)=some r:=by
 simp only[acc];rw[if_pos ⟨h,.inr rfl,rfl⟩]
theorem lA(m s:ByteArray)(r:List Tok):acc m (tn s::r)=none:=by
 simp only[acc];rw[if_neg (fun h=>by rcases h.2.1 with h|h<;>cases h)]
theorem qM(m:ByteArray)(n:Int)(r:List Tok):acc m (td n::r)=none:=by
 simp only[acc];rw[if_neg (fun h=>by rcases h.2.1 with h|h<;>cases h)]
theorem ca:∀m,m∈[aa 40,aa 41,aa 123,aa 125,aa 91,aa 93,aa 58,aE 46 46,aa 63,aa 44,aa 64,aa 33,aa 126,aa 45]->bC (tm m)=true:=by decide +kernel
theorem yS:∀b,b∈cf->bC (tm b.1)=true:=by decide +kernel
theorem tl:bC (tw bX)=true:=by decide +kernel
theorem G2:∀b,b∈cf->3≤b.2.2->∀r,eY b.2.2 (tm b.1::r)=some (b.2.1,false,r):=by
 intro b hb hk r
 have key:∀(l:List (ByteArray×Int×Nat)),b∈l->(∀c,c∈l->c.1=b.1->c=b)->(∀c,c∈l->bC (tm c.1)=true)->jb l b.2.2 (tm b.1::r)=some (b.2.1,r):=by
  intro l
  induction l with
  | nil=>intro h;cases h
  | cons c l ih=>
   intro hbl hu hv;simp only[jb];by_cases e:c.1=b.1
   .have:=hu c (by simp) e;subst this;rw[if_pos rfl,cC (hv c (by simp))]
   .have hbl':b∈l:=by
     rcases List.mem_cons.1 hbl with h|h
     .subst h;exact absurd rfl e
     .exact h
    have hr:=ih hbl' (fun d hd=>hu d (by simp[hd])) (fun d hd=>hv d (by simp[hd]));rw[bJ (t:=tm b.1) (fun h=>e h.symm),hr];split<;>rfl
 have hu:∀b,b∈cf->∀c,c∈cf->c.1=b.1->c=b:=by decide +kernel
 unfold eY;rw[key cf hb (hu b hb) yS]
def pk(k:Nat):PK:=if k=1 then .W else if k=2 then .I else if k=14 then .P else .L k
def Bp(k:Nat)(T:List Tok)(e:Ex):Prop:=∀r,Stop k r->par (pk k) (T++r)=.ok e r
theorem u7(r:List Tok):par (.L 13) r=par .U r:=by rw[cT];simp only[aQ];rw[if_pos (by omega)]
theorem uU{k:Nat}{r:List Tok}(h:Stop k r)(hk:3≤k)(e:Ex):par (.Lp k e) r=.ok e r:=by
 rw[cT];simp only[aQ]
 have h1:(if k=9 then acc bX r else none)=none:=by
  split
  .exact h.ins (by omega)
  .rfl
 rw[h1,h.op k (R6 _) hk]
theorem OI{T:List Tok}{e:Ex}{j:Nat}(h:Bp (j+1) T e)(h1:1≤j)(h2:j≤13)(h3:j=13->∀r,acc (aa 33) (T++r)=none/\acc (aa 126) (T++r)=none/\acc (aa 45) (T++r)=none):Bp j T e:=by
 intro r hr;have hn:=h r (hr.mono (R9 j));by_cases j1:j=1
 .subst j1;show par .W (T++r)=_;have hn:par .I (T++r)=.ok e r:=hn;rw[cT];simp only[aQ,hn,PR.bind,hr.q (R6 _)]
 by_cases j2:j=2
 .subst j2;show par .I (T++r)=_;have hn:par (.L 3) (T++r)=.ok e r:=hn;rw[cT];simp only[aQ,hn,PR.bind,hr.im (R6 _)]
 by_cases j13:j=13
 .subst j13;show par (.L 13) (T++r)=_;have hn:par .P (T++r)=.ok e r:=hn;obtain⟨a1,a2,a3⟩:=h3 rfl r;rw[u7,cT];simp only[aQ,a1,a2,a3,hn]
 .have hp:pk j=.L j:=by unfold pk;rw[if_neg j1,if_neg j2,if_neg (by omega)]
  have hp1:pk (j+1)=.L (j+1):=by unfold pk;rw[if_neg (by omega),if_neg (by omega),if_neg (by omega)]
  rw[hp1]at hn;rw[hp,cT];simp only[aQ];rw[if_neg (by omega),hn];simp only[PR.bind];exact uU hr (by omega) e
theorem Jr{T:List Tok}{e:Ex}{k:Nat}(h:Bp (k+1) T e)(h1:3≤k)(h2:k≤12){r:List Tok}(hr:Stop (k+1) r):par (.L k) (T++r)=par (.Lp k e) r:=by
 have hp1:pk (k+1)=.L (k+1):=by unfold pk;rw[if_neg (by omega),if_neg (by omega),if_neg (by omega)]
 have hn:=h r hr;rw[hp1]at hn;rw[cT];simp only[aQ];rw[if_neg (by omega),hn];rfl
theorem OO{T:List Tok}{e:Ex}(h:Bp 1 T e):Bp 14 (tm (aa 40)::(T++[tm (aa 41)])) e:=by
 intro r hr;show par .P _=_;rw[cT];simp only[aQ];unfold eC;rw[List.cons_append,cC (ca _ (by simp))];have:=h (tm (aa 41)::r) (gb (by simp) 1 r);have hp:pk 1=.W:=rfl;rw[hp]at this;simp only[List.append_assoc,List.singleton_append,this,PR.bind,cC (ca (aa 41) (by simp))]
structure RT(e:Ex):Prop where
 at_:∀k,1≤k->k≤14->Bp k (fK k (e.op,bG e)) e
 left:∀k,3≤k->k≤12->∀r,Stop (k+1) r->par (.L k) (fK k (e.op,bG e)++r)=par (.Lp k e) r
theorem tN{e:Ex}(k0:Nat)(hk:lx e.op=k0)(h1:1≤k0)(h14:k0≤14)(hb:Bp k0 (bG e) e)(hp:k0=14->∀r,acc (aa 33) (bG e++r)=none/\acc (aa 126) (bG e++r)=none/\acc (aa 45) (bG e++r)=none)
 (hl:3≤k0->k0≤12->∀r,Stop (k0+1) r->par (.L k0) (bG e++r)=par (.Lp k0 e) r):RT e:=by
 have plain:∀n k,k0=k+n->1≤k->Bp k (bG e) e:=by
  intro n
  induction n with
  | zero=>intro k e _;rw[Nat.add_zero]at e;subst e;exact hb
  | succ n ih=>intro k hkn h1;exact OI (ih (k+1) (by omega) (by omega)) h1 (by omega) (fun e=>hp (by omega))
 have b1:Bp 1 (bG e) e:=plain (k0-1) 1 (by omega) (R6 _)
 have pr:∀n k,14=k+n->1≤k->Bp k (tm (aa 40)::(bG e++[tm (aa 41)])) e:=by
  intro n
  induction n with
  | zero=>intro k e _;have:k=14:=by omega
          subst this;exact OO b1
  | succ n ih=>intro k hkn h1;exact OI (ih (k+1) (by omega) (by omega)) h1 (by omega) (fun e r=>⟨bJ (t:=tm (aa 40)) (by decide +kernel),bJ (t:=tm (aa 40)) (by decide +kernel),bJ (t:=tm (aa 40)) (by decide +kernel)⟩)
 have at_:∀k,1≤k->k≤14->Bp k (fK k (e.op,bG e)) e:=by
  intro k g1 g2;unfold fK;simp only[hk];split
  .exact pr (14-k) k (by omega) g1
  .exact plain (k0-k) k (by omega) g1
 refine⟨at_,fun k g1 g2 r hr=>?_⟩;by_cases e0:k=k0
 .subst e0;have:fK k (e.op,bG e)=bG e:=by unfold fK;simp only[hk];rw[if_neg (by omega)]
  rw[this];exact hl g1 g2 r hr
 .have:fK k (e.op,bG e)=fK (k+1) (e.op,bG e):=by
   unfold fK;simp only[hk];by_cases g:k0<k
   .rw[if_pos g,if_pos (by omega)]
   .rw[if_neg g,if_neg (by omega)]
  rw[this];exact Jr (at_ (k+1) (by omega) (by omega)) g1 g2 hr
end Go.Proofs.YthekkgfmagliiaaGreatDoor
