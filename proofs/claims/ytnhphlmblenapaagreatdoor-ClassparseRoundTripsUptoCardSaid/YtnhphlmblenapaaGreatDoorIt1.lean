import Derived.Lib.SlBytesRow
import Derived.Laws.ResultCell
import Derived.ChangeArms
import Derived.Test.YtnhphlmblenapaaGreatDoorBl2
set_option linter.unusedVariables false
set_option linter.unusedSimpArgs false
set_option linter.unusedSectionVars false
open List renaming getElem?_eq_getElem->TU,getElem_map->TV,getElem_mem->TW,getElem_append_right->TX,getElem_append_left->TY,getElem_cons_zero->TZ,getElem_range->T0,getElem?_map->T3,length_cons->T4,range->T5
namespace Go.Proofs.YtnhphlmblenapaaGreatDoor
open Go.RowKit
theorem so(e:Ex):eo e≤aX e:=by
 induction e using Ex.ind with
 | h o m s l ih=>
 simp only[eo,aX]
 suffices H:∀(r:List Ex),(∀a,a∈r->a∈l)->d9 r≤bo r by have:=H l (fun _ h=>h);omega
 intro r
 induction r with
 | nil=>intro _;simp[d9,bo]
 | cons a r ihr=>
  intro hm;have h1:=ih a (hm a (by simp));have h2:=ihr (fun x hx=>hm x (by simp[hx]));simp only[d9,bo];omega
theorem Dz(e:Ex):1≤aX e:=by cases e;simp[aX]
theorem LL(l:List Ex):l.length≤bo l:=by
 induction l with
 | nil=>simp
 | cons a r ih=>have:=Dz a;simp only[T4,bo];omega
mutual
def dex:Ex->List D
 | .mk o n s l=>[ac o,ac n,ab s,.sl (Jl l)]
def Jl:List Ex->LLD
 | []=>[]
 | a::r=>dex a::Jl r
end
theorem xI(l:List Ex):Jl l=l.map dex:=by
 induction l with
 | nil=>rfl
 | cons a r ih=>simp only[Jl,ih,List.map_cons]
theorem bC(e:Ex):dex e=[ac e.op,ac e.num,ab e.name,.sl (e.args.map dex)]:=by
 cases e;simp only[dex,xI,Ex.op,Ex.num,Ex.name,Ex.args]
def vex(e:Ex):V:=.agg ((dex e).map V.d)
theorem an(e:Ex):vex e=.agg [.d (ac e.op),.d (ac e.num),.d (ab e.name),.d (.sl (e.args.map dex))]:=by
 unfold vex;rw[bC];rfl
section
variable {M : am} {w : World}
theorem Gv(hM:M.hold w)(e:Ex):∀(vs:List Value),vs.length=(dex e).length->(∀i (h:i<(dex e).length) (h':i<vs.length),DRep M (dex e)[i] vs[i])->ExRep w e vs:=by
 induction e using Ex.ind with
 | h o n s l ih=>
 intro vs hl hr;simp only[dex,xI]at hl hr
 match vs,hl with
 | [v0,v1,v2,v3],_=>
 have r0:=hr 0 (by simp) (by simp);have r1:=hr 1 (by simp) (by simp);have r2:=hr 2 (by simp) (by simp);have r3:=hr 3 (by simp) (by simp);simp only[TZ,List.getElem_cons_succ,ac,ab]at r0 r1 r2 r3;cases r0 with|lit _ h0=>
 cases r1 with|lit _ h1=>
 cases r2 with|lit _ h2=>
 cases r3 with
 | sl _ k p cap val hk hd hf hc hm=>
 have hlen:(l.map dex).length=l.length:=by simp
 have h4:∀a:Ex,(dex a).length=4:=fun a=>by rw[bC];rfl
 refine .mk o n s l _ ((T5 l.length).map fun i=>(T5 4).map fun j=>val i j) (by simp) (fun i h h'=>?_) ?_ ?_ ?_ h2
 .simp only[TV,T0];refine ih _ (TW h) _ (by rw[h4];simp) (fun j g g'=>?_);simp only[TV,T0];have:=hd i j (by simpa using h) (by simpa using g);simpa using this
 .refine⟨p,cap,by simp,by simpa using hc,hm,fun i cs hi=>?_⟩;rw[T3]at hi;obtain⟨q,hq,rfl⟩:=Option.map_eq_some_iff.1 hi;have hql:=(List.getElem?_eq_some_iff.1 hq).1;have hqe:q=i:=by have:=(List.getElem?_eq_some_iff.1 hq).2;simpa using this.symm
  subst hqe;have hlt:q<(l.map dex).length:=by simpa using hql
  obtain⟨b,off,h5,h6⟩:=hf q hlt;have hk4:k=4:=by rw[<-hk _ (TW hlt)];simp[h4]
  subst hk4;refine⟨b,off,h5,by simp,fun j v hj=>?_⟩;rw[T3]at hj;obtain⟨j',hj',rfl⟩:=Option.map_eq_some_iff.1 hj;have hjl:=(List.getElem?_eq_some_iff.1 hj').1;have hje:j'=j:=by have:=(List.getElem?_eq_some_iff.1 hj').2;simpa using this.symm
  subst hje;exact hM _ _ _ (h6 j' (by simpa using hjl))
 .simp only[cV,IntKind.min,IntKind.max,IntKind.signed,IntKind.bits]at h0;simpa using h0
 .simp only[cV,IntKind.min,IntKind.max,IntKind.signed,IntKind.bits]at h1;simpa using h1
theorem Ik{bm:List Nat}(hM:M.hold w){e:Ex}{v:Value}(h:Rep M bm (vex e) v):lO w e v:=by
 unfold vex at h;generalize hcs:(dex e).map V.d=cs at h;cases h with
 | @agg _ vs hl hh h1=>
 refine⟨vs,Gv hM e vs (by rw[hl,<-hcs];simp) (fun i g g'=>?_),rfl⟩;have:=hh i (by rw[<-hcs];simpa using g) g';have e1:cs[i]'(by rw[<-hcs];simpa using g)=.d (dex e)[i]:=by subst hcs;simp
 rw[e1]at this;cases this with|d h=>exact h
end
theorem yS(o m:Int)(s:ByteArray)(k:Nat):0≤bM o m s k/\bM o m s k≤7:=by
 unfold bM;repeat' split
 all_goals omega
theorem K1(e:Ex):0≤dj e/\dj e≤7:=by
 induction e using Ex.ind with
 | h o m s l ih=>
 have hL:∀(r:List Ex),(∀a,a∈r->a∈l)->0≤mM r/\mM r≤7:=by
  intro r
  induction r with
  | nil=>intro _;simp[mM]
  | cons a r ihr=>
   intro hm;have h1:=ih a (hm a (by simp));have h2:=ihr (fun x hx=>hm x (by simp[hx]));simp only[mM];split<;>omega
 have h1:=yS o m s l.length;have h2:=hL l (fun _ h=>h);simp only[dj];split<;>omega
theorem zp(e:Ex):cV (.int .i64 (bz e)):=by
 have h:0≤bz e/\bz e≤7:=by
  have:=K1 e;unfold bz;split<;>omega
 generalize bz e=y at h;simp only[cV,IntKind.min,IntKind.max,IntKind.signed,IntKind.bits,if_true];omega
theorem nj(e:Ex)(hs:aX e≤1200000)(hd:eo e≤1200000)(σ:LLV):Fun G 129 [vex e] σ (aP (.d (ac (bz e))) σ):=
 rt Tryz.func129 (by kernel_rfl) (by kernel_rfl) (zp e) fun M bm pr w v hG hM hr=>Dc e w v (Ik hM hr) (rp hG.1 hM) hd hs
end Go.Proofs.YtnhphlmblenapaaGreatDoor
namespace Go.Proofs.YtnhphlmblenapaaGreatDoor
open Go.RowKit
section
variable {M : am} {w : World}
end
theorem J0{f:FuncId}{fn:Func}{args:List V}{u:Value}{σ:LLV}(hf:Tryz.prog.funcs[f]? = some fn)(hn:(fn.name == "runtime.NumGoroutine")=false)(hb:fn.body.isNone=false)(hu:cV u)
 (h:∀(M:am) (bm:List Nat) (w:World) (vs:List Value),G.cells M->M.hold w->vs.length=args.length->(∀i (h:i<args.length) (h':i<vs.length),Rep M bm args[i] vs[i])->Calls Tryz.prog f vs.toArray w fun e w'=>e=.returned u/\Ext w w'):
 Fun G f args σ (aP (.d (.lit u)) σ):=by
 refine⟨bH (P:=Tryz.prog) hf hn hb,fun M bm tk pr w vs hG hI ht hl hr=>(h M bm w vs hG.1 hI.facts hl hr).mono fun e w' ⟨he,hx⟩=>?_⟩;obtain⟨h1,h2⟩:=hI.ext hx;refine⟨M,bm,tk,σ,.ret (.d (.lit u)),⟨rfl,rfl⟩,h1,h2,fun v e=>?_,fun v e=>by cases e⟩;cases e;exact⟨u,he,.d (.lit u hu),fun _ _ _ e=>by cases e⟩
theorem H5{f:FuncId}{fn:Func}{a:V}{u:Value}{σ:LLV}(hf:Tryz.prog.funcs[f]? = some fn)(hn:(fn.name == "runtime.NumGoroutine")=false)(hb:fn.body.isNone=false)(hu:cV u)
 (h:∀(M:am) (bm:List Nat) (w:World) (v:Value),G.cells M->M.hold w->Rep M bm a v->Calls Tryz.prog f #[v] w fun e w'=>e=.returned u/\Ext w w'):Fun G f [a] σ (aP (.d (.lit u)) σ):=
 J0 hf hn hb hu fun M bm w vs hG hM hl hr=>match vs,hl with
  | [v],_=>h M bm w v hG hM (hr 0 (by simp) (by simp))
end Go.Proofs.YtnhphlmblenapaaGreatDoor
namespace Go.Proofs.YtnhphlmblenapaaGreatDoor
open Go.RowKit
theorem xq{f:FuncId}{fn:Func}{args:List V}{x:V}{σ:LLV}(hf:Tryz.prog.funcs[f]? = some fn)(hn:(fn.name == "runtime.NumGoroutine")=false)(hb:fn.body.isNone=false)(hx:∀T k rows,x≠.own T k rows)
 (h:∀(M:am) (bm:List Nat) (w:World) (vs:List Value),G.cells M->M.hold w->vs.length=args.length->(∀i (h:i<args.length) (h':i<vs.length),Rep M bm args[i] vs[i])->
   Calls Tryz.prog f vs.toArray w fun e w'=>∃u,e=.returned u/\Ext w w'/\Rep (Ba w w') [] x u):Fun G f args σ (aP x σ):=by
 refine⟨bH (P:=Tryz.prog) hf hn hb,fun M bm tk pr w vs hG hI ht hl hr=>(h M bm w vs hG.1 hI.facts hl hr).mono fun e w' ⟨u,he,hx',hu⟩=>?_⟩;have hlt:∀b,b<w.heap.size->∀o,(if w.heap.size≤b then w'.cell? ⟨b,o,none⟩else M b o)=M b o:=fun b hb o=>if_neg (by omega)
 have hle:M.le fun b o=>if w.heap.size≤b then w'.cell? ⟨b,o,none⟩else M b o:=fun b o x hm=>by
  have hb:=hI.facts.lt hm;show(if w.heap.size≤b then w'.cell? ⟨b,o,none⟩else M b o)=some x;rw[hlt b hb o];exact hm
 obtain⟨h1,h2⟩:=hI.grow (M':=fun b o=>if w.heap.size≤b then w'.cell? ⟨b,o,none⟩else M b o) hx' hle (fun b o x hm=>by
  by_cases hb:w.heap.size≤b
  .simpa only[if_pos hb]using hm
  .simp only[if_neg hb]at hm;exact hx'.cell (hI.facts b o x hm)) hlt
 refine⟨_,bm,tk,σ,.ret x,⟨rfl,rfl⟩,h1,h2,fun v e=>?_,fun v e=>by cases e⟩;cases e;refine⟨u,he,hu.mono (fun b o x hm=>?_) (fun i b h=>by simp at h),fun T k rows e=>absurd e (hx T k rows)⟩;unfold Ba at hm;split at hm
 .rename_i hb;simp only[if_pos hb];exact hm
 .cases hm
theorem Dg{M:am}{l:List ByteArray}{p:Option Addr}{cap:Nat}(h1:l.length≤cap)(h2:cap≤maxLen)(hs:∀s,s∈l->s.size≤maxLen)
 (h:∀i s,l[i]? = some s->∃b off,p=some ⟨b,off,none⟩/\M b (off+i)=some (.string s)):DRep M (dy l) (.slice p l.length cap):=by
 have hlen:l.length=(l.map fun s=>[ab s]).length:=by simp
 unfold dy;rw[hlen];refine .sl _ 1 p cap (fun i _=>.string (l[i]?.getD ⟨#[]⟩)) (fun r hr=>?_) (fun i j hi hj=>?_) (fun i hi=>?_) (by omega) h2
 .obtain⟨s,-,rfl⟩:=List.mem_map.1 hr;rfl
 .have hi':i<l.length:=by simpa using hi
  have hj0:j=0:=by simpa using hj
  subst hj0;simp only[TV,TZ,TU hi',Option.getD_some];exact .lit _ (hs _ (TW hi'))
 .have hi':i<l.length:=by simpa using hi
  obtain⟨b,off,h7,h8⟩:=h i _ (TU hi');refine⟨b,off,h7,fun j hj=>?_⟩;have hj0:j=0:=by omega
  subst hj0;simp only[TU hi',Option.getD_some];simpa using h8
def wy(tk:bA)(g:Option Nat):bA:=fun i j=>match i,j with
 | none,0=>g
 | i,j=>tk i j
theorem pt{f:FuncId}{fn:Func}{args:List V}{l:List ByteArray}{σ:LLV}(hf:Tryz.prog.funcs[f]? = some fn)(hn:(fn.name == "runtime.NumGoroutine")=false)(hb:fn.body.isNone=false)
 (h:∀(M:am) (bm:List Nat) (w:World) (vs:List Value),G.cells M->M.hold w->vs.length=args.length->(∀i (h:i<args.length) (h':i<vs.length),Rep M bm args[i] vs[i])->(∀s,s∈l->s.size≤maxLen)/\Calls Tryz.prog f vs.toArray w (vI l w)):
 Fun G f args σ (aP (.own 9 1 (l.map fun s=>[ab s])) σ):=by
 refine⟨bH (P:=Tryz.prog) hf hn hb,fun M bm tk pr w vs hG hI ht hl hr=>(h M bm w vs hG.1 hI.facts hl hr).2.mono fun e w' ⟨v,he,hrow,hg,hx⟩=>?_⟩;have hs:=(h M bm w vs hG.1 hI.facts hl hr).1;have hlt:∀b,b<w.heap.size->∀o,(if w.heap.size≤b then(if o<l.length then w'.cell? ⟨b,o,none⟩else none)else M b o)=M b o:=fun b hb o=>if_neg (by omega)
 have hle:M.le fun b o=>if w.heap.size≤b then(if o<l.length then w'.cell? ⟨b,o,none⟩else none)else M b o:=fun b o x hm=>by
  have hb:=hI.facts.lt hm;show(if w.heap.size≤b then(if o<l.length then w'.cell? ⟨b,o,none⟩else none)else M b o)=some x;rw[hlt b hb o];exact hm
 obtain⟨h1,h2⟩:=hI.grow (M':=fun b o=>if w.heap.size≤b then(if o<l.length then w'.cell? ⟨b,o,none⟩else none)else M b o) hx hle (fun b o x hm=>by
  by_cases hb:w.heap.size≤b
  .simp only[if_pos hb]at hm;split at hm
   .exact hm
   .cases hm
  .simp only[if_neg hb]at hm;exact hx.cell (hI.facts b o x hm)) hlt
 have hgl:∀g,v.ownBlock=some g->g<w'.heap.size:=fun g hgg=>by
  obtain⟨-,⟨rfl,-⟩|⟨g',cap,cur,rfl,-,h3,-⟩⟩:=hrow
  .cases hgg
  .cases hgg;exact(Array.getElem?_eq_some_iff.1 h3).1
 have hbm:=hI.bm_lt
 have hI2:Inv (fun b o=>if w.heap.size≤b then(if o<l.length then w'.cell? ⟨b,o,none⟩else none)else M b o) bm σ (wy tk v.ownBlock) pr w':=by
  refine⟨h1.facts,h1.len,h1.box,h1.free,h1.bmnd,fun i j g hij=>?_,fun i j i' j' g h3 h4=>?_,h1.prlt⟩
  .unfold wy at hij;split at hij
   .have:=hg g hij;exact⟨hgl g hij,fun hb=>by have:=hbm g hb;omega,fun hp=>by have:=hI.prlt g hp;omega⟩
   .exact h1.tok _ _ _ hij
  .have old:∀i j,tk i j=some g->g<w.heap.size:=fun i j hij=>(hI.tok _ _ _ hij).1;unfold wy at h3 h4;split at h3<;>split at h4
   .exact⟨rfl,rfl⟩
   .have:=hg g h3;have:=old _ _ h4;omega
   .have:=hg g h4;have:=old _ _ h3;omega
   .exact h1.inj _ _ _ _ _ h3 h4
 refine⟨_,bm,wy tk v.ownBlock,σ,.ret (.own 9 1 (l.map fun s=>[ab s])),⟨rfl,rfl⟩,hI2,h2,fun x e=>?_,fun x e=>by cases e⟩;cases e;have hlen:(l.map fun s=>[ab s]).length=l.length:=by simp
 refine⟨v,he,.own ?_,fun T k rows e=>?_⟩
 .obtain⟨p,cap,rfl,g1,g2,g3⟩:=I3 hrow;refine Dg g1 g2 hs fun i s hi=>?_;obtain⟨b,off,rfl,g4⟩:=g3 i s hi;refine⟨b,off,rfl,?_⟩
  have hb0:off=0:=by
   obtain⟨-,⟨e,-⟩|⟨g',cap',cur,e,-⟩⟩:=hrow
   .cases e
   .cases e;rfl
  subst hb0;have hil:=(List.getElem?_eq_some_iff.1 hi).1;have:=hg b rfl;simp only[Nat.zero_add]at g4 ⊢;rw[if_pos this,if_pos hil];exact g4
 .cases e;have hrow':=hrow;obtain⟨g0,⟨rfl,g1⟩|⟨g,cap,cur,rfl,g2,g3,g4⟩⟩:=hrow
  .exact .inl ⟨rfl,by have:l=[]:=List.eq_nil_of_length_eq_zero g1;simp[this]⟩
  .refine .inr ⟨g,_,rfl,rfl,fun r hr=>?_,by rw[hlen];exact hrow',fun o x hm=>?_⟩
   .obtain⟨s,-,rfl⟩:=List.mem_map.1 hr;rfl
   .have:=hg g rfl;simp only[if_pos this]at hm;split at hm
    .rw[hlen];omega
    .cases hm
theorem fZ{e:Ex}(h:bz e=0):dj e=0:=by
 unfold bz at h;split at h
 .cases h
 .exact h
def gD(M:am)(ds:List D)(cs:List Value):Prop:=cs.length=ds.length/\∀i (h:i<ds.length) (h':i<cs.length),DRep M ds[i] cs[i]
theorem gD.nil{M:am}:gD M [] []:=⟨rfl,fun i h=>by simp at h⟩
theorem gD.cons{M:am}{d:D}{v:Value}{ds:List D}{cs:List Value}(h:DRep M d v)(hs:gD M ds cs):gD M (d::ds) (v::cs):=
 ⟨by simp[hs.1],fun i h1 h2=>by
   cases i with
   | zero=>exact h
   | succ i=>exact hs.2 i (by simpa using h1) (by simpa using h2)⟩
theorem gD.append{M:am}{ds ds':List D}{cs cs':List Value}(h:gD M ds cs)(h':gD M ds' cs'):gD M (ds++ds') (cs++cs'):=by
 refine⟨by simp[h.1,h'.1],fun i h1 h2=>?_⟩;by_cases hi:i<ds.length
 .rw[TY hi,TY (by rw[h.1];exact hi)];exact h.2 i _ _
 .rw[TX (by omega),TX (by rw[h.1];omega)];have hl:=h.1;simp only[hl];exact h'.2 (i-ds.length) (by simp at h1;omega) (by simp at h2;omega)
theorem gD.rep{M:am}{bm:List Nat}{ds:List D}{cs:List Value}(h:gD M ds cs):Rep M bm (.agg (ds.map V.d)) (.agg cs.toArray):=by
 refine .agg (by simp[h.1]) (fun i g g'=>?_) (fun v hv=>?_)
 .simp only[TV];exact .d (h.2 i (by simpa using g) g')
 .obtain⟨i,hi,rfl⟩:=List.getElem_of_mem hv;exact(h.2 i (by rw[<-h.1];exact hi) hi).one
section
variable {H : Type} {enc : TypeId × Value -> H} {P : Program} {W : World} {base : Nat} {spare : Nat -> Bool} {held : Bool} {fuel : Nat} {t : TypeId} {cs : List Value} {x : DataW H × List MemPlace}
end
end Go.Proofs.YtnhphlmblenapaaGreatDoor
namespace Go.Proofs.YtnhphlmblenapaaGreatDoor
open Go.RowKit
structure Wt where
 lo:Int
 hi:Int
 w:Int
 each:Bool
 deriving DecidableEq
inductive It where
 | mk (kind:Int) (e:Ex) (name idx:ByteArray) (ws:List Wt) (items els:List It) (bef aft:List ByteArray)
namespace It
def kind:It->Int|mk k _ _ _ _ _ _ _ _=>k
def ex:It->Ex|mk _ e _ _ _ _ _ _ _=>e
def name:It->ByteArray|mk _ _ s _ _ _ _ _ _=>s
def idx:It->ByteArray|mk _ _ _ s _ _ _ _ _=>s
def ws:It->List Wt|mk _ _ _ _ l _ _ _ _=>l
def items:It->List It|mk _ _ _ _ _ l _ _ _=>l
def els:It->List It|mk _ _ _ _ _ _ l _ _=>l
def bef:It->List ByteArray|mk _ _ _ _ _ _ _ l _=>l
def aft:It->List ByteArray|mk _ _ _ _ _ _ _ _ l=>l
end It
theorem m8(k:Int)(e:Ex)(nm ix:ByteArray)(ws:List Wt)(l m:List It)(bf af:List ByteArray):(It.mk k e nm ix ws l m bf af).kind=k:=rfl
theorem sJ(k:Int)(e:Ex)(nm ix:ByteArray)(ws:List Wt)(l m:List It)(bf af:List ByteArray):(It.mk k e nm ix ws l m bf af).ex=e:=rfl
theorem nk(k:Int)(e:Ex)(nm ix:ByteArray)(ws:List Wt)(l m:List It)(bf af:List ByteArray):(It.mk k e nm ix ws l m bf af).name=nm:=rfl
theorem pJ(k:Int)(e:Ex)(nm ix:ByteArray)(ws:List Wt)(l m:List It)(bf af:List ByteArray):(It.mk k e nm ix ws l m bf af).idx=ix:=rfl
theorem sP(k:Int)(e:Ex)(nm ix:ByteArray)(ws:List Wt)(l m:List It)(bf af:List ByteArray):(It.mk k e nm ix ws l m bf af).ws=ws:=rfl
theorem e8(k:Int)(e:Ex)(nm ix:ByteArray)(ws:List Wt)(l m:List It)(bf af:List ByteArray):(It.mk k e nm ix ws l m bf af).items=l:=rfl
theorem lr(k:Int)(e:Ex)(nm ix:ByteArray)(ws:List Wt)(l m:List It)(bf af:List ByteArray):(It.mk k e nm ix ws l m bf af).els=m:=rfl
theorem n9(k:Int)(e:Ex)(nm ix:ByteArray)(ws:List Wt)(l m:List It)(bf af:List ByteArray):(It.mk k e nm ix ws l m bf af).bef=bf:=rfl
theorem og(k:Int)(e:Ex)(nm ix:ByteArray)(ws:List Wt)(l m:List It)(bf af:List ByteArray):(It.mk k e nm ix ws l m bf af).aft=af:=rfl
mutual
def isz:It->Nat
 | .mk _ _ _ _ _ l m _ _=>1+cQ l+cQ m
def cQ:List It->Nat
 | []=>0
 | a::r=>isz a+cQ r
end
theorem vX(x:It):1≤isz x:=by cases x;rw[isz];omega
theorem oa(x:It):isz x=1+cQ x.items+cQ x.els:=by cases x;rfl
theorem tb{l:List It}{a:It}(h:a∈l):isz a≤cQ l:=by
 induction l with
 | nil=>cases h
 | cons b r ih=>
  rw[cQ];rcases List.mem_cons.1 h with rfl|h
  .omega
  .have:=ih h;omega
theorem xD(l:List It):l.length≤cQ l:=by
 induction l with
 | nil=>exact Nat.le_refl _
 | cons b r ih=>rw[cQ,T4];have:=vX b;omega
theorem lx{P:List It->Prop}(h0:P [])(h:∀(a:It) (r:List It),P a.items->P a.els->P r->P (a::r)):∀l,P l:=by
 have H:∀n l,cQ l≤n->P l:=by
  intro n
  induction n with
  | zero=>
   intro l hl;cases l with
   | nil=>exact h0
   | cons a r=>rw[cQ]at hl;have:=vX a;omega
  | succ n ih=>
   intro l hl;cases l with
   | nil=>exact h0
   | cons a r=>
    rw[cQ]at hl;have h1:=oa a;exact h a r (ih _ (by omega)) (ih _ (by omega)) (ih _ (by omega))
 exact fun l=>H _ l (Nat.le_refl _)
section
variable {σ : Type} (step : σ -> It -> Nat -> List ByteArray -> Int × σ)
mutual
def wk:It->Nat->List ByteArray->σ->Int×σ
 | .mk k e nm ix ws l m bf af,d,bd,s=>
  if(step s (.mk k e nm ix ws l m bf af) d bd).1=0 then
   if(wks l (if k=4\/k=5 then d+1 else d) (if k=5 then bd++[ix]else bd) (step s (.mk k e nm ix ws l m bf af) d bd).2).1=0 then
    wks m (if k=4\/k=5 then d+1 else d) bd (wks l (if k=4\/k=5 then d+1 else d) (if k=5 then bd++[ix]else bd) (step s (.mk k e nm ix ws l m bf af) d bd).2).2
   else wks l (if k=4\/k=5 then d+1 else d) (if k=5 then bd++[ix]else bd) (step s (.mk k e nm ix ws l m bf af) d bd).2
  else step s (.mk k e nm ix ws l m bf af) d bd
def wks:List It->Nat->List ByteArray->σ->Int×σ
 | [],_,_,s=>(0,s)
 | a::r,d,bd,s=>if(wk a d bd s).1=0 then wks r d bd (wk a d bd s).2 else wk a d bd s
end
def dep(x:It)(d:Nat):Nat:=if x.kind=4\/x.kind=5 then d+1 else d
def bnd(x:It)(bd:List ByteArray):List ByteArray:=if x.kind=5 then bd++[x.idx]else bd
theorem La(x:It)(d:Nat)(bd:List ByteArray)(s:σ):wk step x d bd s=if(step s x d bd).1=0 then(if(wks step x.items (dep x d) (bnd x bd) (step s x d bd).2).1=0 then wks step x.els (dep x d) bd (wks step x.items (dep x d) (bnd x bd) (step s x d bd).2).2 else wks step x.items (dep x d) (bnd x bd) (step s x d bd).2)else step s x d bd:=by
 cases x;rw[wk];rfl
end
def wkE(f:It->Nat->List ByteArray->Int)(l:List It)(d:Nat)(bd:List ByteArray):Int:=(wks (fun(_:Unit) x d bd=>(f x d bd,())) l d bd ()).1
theorem BG(f:It->Nat->List ByteArray->Int)(d:Nat)(bd:List ByteArray):wkE f [] d bd=0:=rfl
theorem FL(f:It->Nat->List ByteArray->Int)(x:It)(r:List It)(d:Nat)(bd:List ByteArray):wkE f (x::r) d bd=
 if f x d bd=0 then(if wkE f x.items (dep x d) (bnd x bd)=0 then(if wkE f x.els (dep x d) bd=0 then wkE f r d bd else wkE f x.els (dep x d) bd)else wkE f x.items (dep x d) (bnd x bd))else f x d bd:=by
 unfold wkE;rw[wks,La];by_cases h1:f x d bd=0
 .rw[if_pos h1,if_pos h1];by_cases h2:(wks (fun(_:Unit) x d bd=>(f x d bd,())) x.items (dep x d) (bnd x bd) ()).1=0
  .rw[if_pos h2,if_pos h2];by_cases h3:(wks (fun(_:Unit) x d bd=>(f x d bd,())) x.els (dep x d) bd ()).1=0
   .rw[if_pos h3,if_pos h3]
   .rw[if_neg h3,if_neg h3]
  .rw[if_neg h2,if_neg h2,if_neg h2]
 .rw[if_neg h1,if_neg h1,if_neg h1]
def ly(e:Ex):Bool:=decide (e.op=0)&&decide (e.num=0)&&decide (e.name=⟨#[]⟩)&&e.args.isEmpty
def dW(x:It):Bool:=
 (decide (x.kind=1\/x.kind=2\/x.kind=4)||ly x.ex)&&(decide (x.kind=3\/x.kind=5)||decide (x.name=⟨#[]⟩))&&(decide (x.kind=5)||decide (x.idx=⟨#[]⟩)) &&
   (decide (x.kind=3)||x.ws.isEmpty)&&(decide (x.kind=4\/x.kind=5)||x.items.isEmpty)&&(decide (x.kind=4)||x.els.isEmpty)&&(decide (x.kind=6)||x.bef.isEmpty&&x.aft.isEmpty)
def wtB(w:Wt):Bool:=decide (0≤w.lo)&&decide (w.lo≤w.hi)&&decide (w.hi≤65535)&&decide (0≤w.w)&&decide (w.w≤1000)
def qw(x:It):Int:=if x.ws.length>16 then 2 else if x.ws=[]then 1 else if x.ws.all wtB=false then 1 else if bv x.name=true then 0 else 7
def om(x:It):Int:=if x.bef=[]\/x.aft=[]then 1 else if(x.bef++x.aft).all bv=true then 0 else 7
def tl(x:It):Int:=if aS x.name=true/\aS x.idx=true then 0 else 7
def bP(x:It)(d:Nat):Int:=
 if ¬(1≤x.kind/\x.kind≤6)\/dW x=false\/4<d\/0<d/\(x.kind=3\/x.kind=6)then 1
 else if x.kind=3 then qw x else if x.kind=6 then om x else if x.kind=5 then tl x else bz x.ex
theorem kU{x:It}{d:Nat}(h:bP x d=0):(1≤x.kind/\x.kind≤6)/\dW x=true/\d≤4:=by
 unfold bP at h;split at h
 .cases h
 .rename_i hn;refine⟨Classical.byContradiction fun hh=>hn (.inl hh),?_,?_⟩
  .cases hp:dW x with
   | true=>rfl
   | false=>exact absurd (.inr (.inl hp)) hn
  .exact Classical.byContradiction fun hh=>hn (.inr (.inr (.inl (by omega))))
theorem zZ{x:It}(h:dW x=true)(hk:¬(x.kind=4\/x.kind=5)):x.items=[]/\x.els=[]:=by
 unfold dW at h;simp only[Bool.and_eq_true,Bool.or_eq_true,decide_eq_true_eq,List.isEmpty_iff]at h;obtain⟨⟨⟨-,h1⟩,h2⟩,-⟩:=h;exact⟨h1.resolve_left hk,h2.resolve_left fun h=>hk (.inl h)⟩
mutual
def rvl:List It->Nat->Int
 | [],_=>0
 | x::r,d=>if rv1 x d=0 then rvl r d else rv1 x d
def rv1:It->Nat->Int
 | .mk k e nm ix ws l m bf af,d=>if bP (.mk k e nm ix ws l m bf af) d=0 then(if rvl l (d+1)=0 then rvl m (d+1)else rvl l (d+1))else bP (.mk k e nm ix ws l m bf af) d
end
theorem Aw(x:It)(d:Nat):rv1 x d=if bP x d=0 then(if rvl x.items (d+1)=0 then rvl x.els (d+1)else rvl x.items (d+1))else bP x d:=by cases x;rw[rv1];rfl
def zV(x:It)(d:Nat)(_:List ByteArray):Int:=bP x d
theorem AJ:∀(l:List It) (d:Nat) (bd:List ByteArray),wkE zV l d bd=rvl l d:=by
 refine lx (fun d bd=>rfl) fun x r h1 h2 h3 d bd=>?_;rw[FL,rvl,Aw];show(if bP x d=0 then _ else bP x d)=_;by_cases hs:bP x d=0
 .rw[if_pos hs,if_pos hs];obtain⟨-,hp,-⟩:=kU hs;by_cases hk:x.kind=4\/x.kind=5
  .have hd:dep x d=d+1:=if_pos hk;rw[hd,h1,h2,h3];by_cases e1:rvl x.items (d+1)=0
   .rw[if_pos e1,if_pos e1]
   .rw[if_neg e1,if_neg e1,if_neg e1]
  .obtain⟨g1,g2⟩:=zZ hp hk;rw[g1,g2,BG,if_pos rfl,BG,if_pos rfl,h3,rvl,if_pos rfl,if_pos rfl]
 .rw[if_neg hs,if_neg hs,if_neg hs]
def cN(l:List It):Int:=if 64<cQ l then 2 else rvl l 0
section
variable (spl : ByteArray -> Option (ByteArray × Int)) (fs : List (ByteArray × Int))
end
end Go.Proofs.YtnhphlmblenapaaGreatDoor
