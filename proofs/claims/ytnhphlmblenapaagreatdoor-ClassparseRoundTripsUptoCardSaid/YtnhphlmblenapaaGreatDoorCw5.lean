import Derived.Test.YtnhphlmblenapaaGreatDoorCw2
set_option linter.unusedVariables false
set_option linter.unusedSimpArgs false
set_option linter.unusedSectionVars false
set_option maxHeartbeats 8000000
open Int renaming reduceEq->TU,ofNat_lt->TV
open List renaming length_append->TW,getElem?_append_left->TX,set_append_left->TY,length_set->TZ,take_of_length_le->T0,take_left'->T3,append_nil->T4,append_assoc->T5,getElem?_set_self->T6,length_map->T7,getElem?_eq_getElem->T8,set_set->T9
open Nat renaming le_refl->Ua
open Option renaming getD_some->Ub
namespace Go.Proofs.YtnhphlmblenapaaGreatDoor
open Go.RowKit
open Nat renaming reduceLeDiff -> jA, reduceBEq -> jB, reduceLT -> jC, reduceEqDiff -> jD, reduceAdd -> jE, reduceSub -> jF, reduceMul -> jG
open V renaming copy -> jV, lend -> jW, lend1 -> jX, cells -> jY, boxable -> jZ
theorem CD{e:Ex}(h:bz e=0):dj e=0/\aX e≤400:=by
 unfold bz at h;split at h
 .cases h
 .rename_i hn;exact⟨h,by omega⟩
theorem wY(e:Ex)(hs:aX e≤1200000)(hd:eo e≤1200000)(σ:LLV):Fun G 211 [vex e] σ (aP (.d (ab (bs (if bz e=0 then bh e else[])))) σ):=by
 have hv:=nj e hs hd;refine ai Tryz.func211 Tj (by simp only[an];rfl) fun hb hw=>?_;unfold Q0;simp -dsimp only[aw,jV,jW,jX,jY,jZ,jA,reduceIte,reduceCtorEq,jB,jC,jD,jE,jF,jG,an];refine ae (by simpa only[an]using hv _) ?_;by_cases h:bz e=0
 .rw[if_pos h];have he:=CD h;have hlen:=oU e he.1;have hT:=Gu e he.1 (by omega);generalize bh e=T at *;simp -dsimp only[aw,jV,jW,jX,jY,jZ,jA,reduceIte,reduceCtorEq,jB,jC,jD,jE,jF,jG,decide_eq_true h];refine ae (by simpa only[an]using hT _) ?_;simp -dsimp only[aw,jV,jW,jX,jY,jZ,jA,reduceIte,reduceCtorEq,jB,jC,jD,jE,jF,jG];first|exact av hb rfl rfl|exact au hb rfl rfl
 .rw[if_neg h];simp -dsimp only[aw,jV,jW,jX,jY,jZ,jA,reduceIte,reduceCtorEq,jB,jC,jD,jE,jF,jG,decide_eq_false h];first|exact av hb rfl rfl|exact au hb rfl rfl
def dx(t:Option Bs)(x:Bs):Option Bs:=match t with|some u=>some (u++x)|none=>if x=[]then none else some x
theorem vV(t:Option Bs){x:Bs}(h:x≠[]):some (t.getD []++x)=dx t x:=by
 cases t with
 | none=>simp[dx,h]
 | some u=>rfl
theorem kA(u x:Bs):dx (some u) x=some (u++x):=rfl
theorem Fb(t:Option Bs):dx t []=t:=by
 cases t with
 | none=>rfl
 | some u=>simp[dx]
theorem iB(t:Option Bs)(x y:Bs):dx (dx t x) y=dx t (x++y):=by
 cases t with
 | none=>
  by_cases h:x=[]
  .subst h;simp[dx]
  .simp[dx,h]
 | some u=>simp[dx]
theorem GI(t:Option Bs)(x:Bs):((dx t x).getD []).length=(t.getD []).length+x.length:=by
 cases t with
 | none=>
  by_cases h:x=[]
  .subst h;rfl
  .simp[dx,h]
 | some u=>simp[dx]
theorem eP(i:Nat)(t:Option Bs)(k:Nat)(ps:List ByteArray)(hk:k≤1000)(hl:(t.getD []).length+(lnT k (0,ps.flatMap bw)).length≤140737488355328)(hp:ps.length≤1000)(σ:LLV)(hs:σ[i]? = some (pgc i t k)):
 Fun G 51 [.ptr i 0,.d (dy ps)] σ (fun o σ'=>o=.ret (.tup [])/\σ'=σ.set i (pgc i (dx t (lnT k (0,ps.flatMap bw))) k)):=by
 have h:=zu i t k ps hk (by rw[eJ]at hl;simp only at hl;omega) hp σ hs;rw[vV t (x:=blk k++(ps.flatMap bw++[10])) (by simp)]at h;exact h
theorem fp(i:Nat)(t t':Bs)(k:Nat)(hk:k≤1000)(f:FuncId)(cap:List V)(σ:LLV)(hs:σ[i]? = some (pgc i (some t) k))
 (h:Fun G f cap (σ.set i (pgc i (some t) ((k+1:Nat):Int))) (fun o σ'=>o=.ret (.tup [])/\σ'=σ.set i (pgc i (some t') ((k+1:Nat):Int)))):
 Fun G 52 [.ptr i 0,.fn f cap] σ (fun o σ'=>o=.ret (.tup [])/\σ'=σ.set i (pgc i (some t') k)):=by
 refine ai Tryz.func52 k52 rfl fun hb hw=>?_;have hi:i<σ.length:=(List.getElem?_eq_some_iff.1 hs).1;have h1:∀X:List V,(σ.set i X)[i]? = some X:=fun X=>T6 hi;have h2:∀X Y:List V,(σ.set i X).set i Y=σ.set i Y:=fun X Y=>T9 X;have hs':σ[i]? = some [.ptr i 0,.own U8 1 (dbs t),.d (ac k)]:=hs;have w1:IntKind.i64.wrap ((k:Int)+1)=((k+1:Nat):Int):=by rw[ba (by omega) (by omega)];omega
 have w2:IntKind.i64.wrap (((k+1:Nat):Int)-1)=(k:Int):=by rw[ba (by omega) (by omega)];omega
 unfold c52;simp -dsimp only[aw,jV,jW,jX,jY,jZ,jA,reduceIte,reduceCtorEq,jB,jC,jD,jE,jF,jG,hs',w1];refine cj (σ1:=σ.set i (pgc i (some t') ((k+1:Nat):Int))) h ?_;have h3:(σ.set i (pgc i (some t') ((k+1:Nat):Int)))[i]? = some [.ptr i 0,.own U8 1 (dbs t'),.d (ac ((k+1:Nat):Int))]:=h1 _;simp -dsimp only[aw,jV,jW,jX,jY,jZ,jA,reduceIte,reduceCtorEq,jB,jC,jD,jE,jF,jG,h3,w2,h2];exact eT (v:=.tup []) (k:=σ.length) (Ua _) (T0 (by simp)) (gm hb (cv (t:=some t') (k:=k) hi)) rfl rfl ⟨rfl,rfl⟩
def wrF(kind:Int):FuncId:=if kind=2 then 160 else if kind=3 then 161 else if kind=4 then 162 else if kind=5 then 163 else if kind=6 then 164 else 165
theorem zG(kind:Int)(σ:LLV):Fun G 114 [.d (ac kind)] σ (aP (.fn (wrF kind) []) σ):=by
 refine ai Tryz.func114 R5 rfl fun hb hw=>?_;unfold Pq wrF;by_cases h2:kind=2
 .rw[if_pos h2];simp -dsimp only[aw,jV,jW,jX,jY,jZ,jA,reduceIte,reduceCtorEq,jB,jC,jD,jE,jF,jG,h2,TU,decide_true,decide_false];first|exact av hb rfl rfl|exact au hb rfl rfl
 rw[if_neg h2];by_cases h3:kind=3
 .rw[if_pos h3];simp -dsimp only[aw,jV,jW,jX,jY,jZ,jA,reduceIte,reduceCtorEq,jB,jC,jD,jE,jF,jG,h3,TU,decide_true,decide_false];first|exact av hb rfl rfl|exact au hb rfl rfl
 rw[if_neg h3];by_cases h4:kind=4
 .rw[if_pos h4];simp -dsimp only[aw,jV,jW,jX,jY,jZ,jA,reduceIte,reduceCtorEq,jB,jC,jD,jE,jF,jG,h4,TU,decide_true,decide_false];first|exact av hb rfl rfl|exact au hb rfl rfl
 rw[if_neg h4];by_cases h5:kind=5
 .rw[if_pos h5];simp -dsimp only[aw,jV,jW,jX,jY,jZ,jA,reduceIte,reduceCtorEq,jB,jC,jD,jE,jF,jG,h5,TU,decide_true,decide_false];first|exact av hb rfl rfl|exact au hb rfl rfl
 rw[if_neg h5];by_cases h6:kind=6
 .rw[if_pos h6];simp -dsimp only[aw,jV,jW,jX,jY,jZ,jA,reduceIte,reduceCtorEq,jB,jC,jD,jE,jF,jG,h6,TU,decide_true,decide_false];first|exact av hb rfl rfl|exact au hb rfl rfl
 rw[if_neg h6];simp -dsimp only[aw,jV,jW,jX,jY,jZ,jA,reduceIte,reduceCtorEq,jB,jC,jD,jE,jF,jG,decide_eq_false h2,decide_eq_false h3,decide_eq_false h4,decide_eq_false h5,decide_eq_false h6];first|exact av hb rfl rfl|exact au hb rfl rfl
structure PgOk(σ:LLV)(i:Nat)(t:Option Bs)(k:Nat):Prop where
 at_:σ[i]? = some (pgc i t k)
 k1:k≤200
theorem ta{e:Ex}(h:bz e=0)(hs:aX e≤1100000)(σ:LLV):Fun G 211 [vex e] σ (aP (.d (ab (bs (bh e)))) σ):=by
 have hd:=so e;have:=wY e (by omega) (by omega) σ;rw[if_pos h]at this;exact this
theorem Lk(a b:Bs):[bs a,bs b].flatMap bw=a++b:=by simp[bw,bJ]
section
variable (i : Nat) (t : Option Bs) (k : Nat) (x : It) (d : Nat) (σ : LLV)
theorem Gr(hp:PgOk σ i t k)(hsh:bP x d=0)(hk:x.kind=1)(hz:aX x.ex≤1100000)(hl:(t.getD []).length+(aZ k (fJ x)).length≤140737488355328):
 Fun G 165 [.ptr i 0,vit x] σ (fun o σ'=>o=.ret (.tup [])/\σ'=σ.set i (pgc i (dx t (aZ k (fJ x))) k)):=by
 have he:bz x.ex=0:=by have:=lk hsh;rw[if_neg (by omega),if_neg (by omega),if_neg (by omega)]at this;exact this
 have hlns:fJ x=[(0,bh x.ex++[59])]:=by rw[kO,if_pos hk]
 rw[hlns,aM,cd,T4]at hl ⊢;have hi:i<σ.length:=(List.getElem?_eq_some_iff.1 hp.at_).1;have hpr:=fun σ=>ta he hz σ;simp only[an]at hpr;refine ai Tryz.func165 Tu (by simp only[bg];rfl) fun hb hw=>?_;unfold Q3;simp -dsimp only[aw,jV,jW,jX,jY,jZ,jA,reduceIte,reduceCtorEq,jB,jC,jD,jE,jF,jG,bg];refine ae (hpr _) ?_;simp -dsimp only[aw,jV,jW,jX,jY,jZ,jA,reduceIte,reduceCtorEq,jB,jC,jD,jE,jF,jG];have hl2:=eP i t k [bs (bh x.ex),bs [59]] (by have:=hp.k1;omega) (by rw[Lk];exact hl) (by simp);rw[Lk]at hl2;refine cj (hl2 _ (by rw[TX hi];exact hp.at_)) ?_;rw[TY _ _ hi];simp -dsimp only[aw,jV,jW,jX,jY,jZ,jA,reduceIte,reduceCtorEq,jB,jC,jD,jE,jF,jG];exact eT (v:=.tup []) (k:=σ.length) (Ua _) (T3 (by simp)) (gm hb (cv hi)) rfl rfl ⟨rfl,rfl⟩
theorem Gg(hp:PgOk σ i t k)(hsh:bP x d=0)(hk:x.kind=2)(hz:aX x.ex≤1100000)(hl:(t.getD []).length+(aZ k (fJ x)).length≤140737488355328):
 Fun G 160 [.ptr i 0,vit x] σ (fun o σ'=>o=.ret (.tup [])/\σ'=σ.set i (pgc i (dx t (aZ k (fJ x))) k)):=by
 have he:bz x.ex=0:=by have:=lk hsh;rw[if_neg (by omega),if_neg (by omega),if_neg (by omega)]at this;exact this
 have hlns:fJ x=[(0,[115,111,102,116,32]++(bh x.ex++[59]))]:=by rw[kO,if_neg (by omega),if_pos hk]
 rw[hlns,aM,cd,T4]at hl ⊢;have hi:i<σ.length:=(List.getElem?_eq_some_iff.1 hp.at_).1;have hpr:=fun σ=>ta he hz σ;simp only[an]at hpr;refine ai Tryz.func160 Sp (by simp only[bg];rfl) fun hb hw=>?_;unfold NU;simp -dsimp only[aw,jV,jW,jX,jY,jZ,jA,reduceIte,reduceCtorEq,jB,jC,jD,jE,jF,jG,bg];refine ae (hpr _) ?_;simp -dsimp only[aw,jV,jW,jX,jY,jZ,jA,reduceIte,reduceCtorEq,jB,jC,jD,jE,jF,jG];have fl:[bs [115,111,102,116,32],bs (bh x.ex),bs [59]].flatMap bw=[115,111,102,116,32]++(bh x.ex++[59]):=by simp[bw,bJ]
 have hl2:=eP i t k [bs [115,111,102,116,32],bs (bh x.ex),bs [59]] (by have:=hp.k1;omega) (by rw[fl];exact hl) (by simp);rw[fl]at hl2;refine cj (hl2 _ (by rw[TX hi];exact hp.at_)) ?_;rw[TY _ _ hi];simp -dsimp only[aw,jV,jW,jX,jY,jZ,jA,reduceIte,reduceCtorEq,jB,jC,jD,jE,jF,jG];exact eT (v:=.tup []) (k:=σ.length) (Ua _) (T3 (by simp)) (gm hb (cv hi)) rfl rfl ⟨rfl,rfl⟩
theorem Ep(hp:PgOk σ i t k)(hsh:bP x d=0)(hk:x.kind=3)(hz:fg x≤1100000)(hl:(t.getD []).length+(aZ k (fJ x)).length≤140737488355328):
 Fun G 161 [.ptr i 0,vit x] σ (fun o σ'=>o=.ret (.tup [])/\σ'=σ.set i (pgc i (dx t (aZ k (fJ x))) k)):=by
 obtain⟨-,hws,hnm⟩:=BS hsh hk;have hbig:=dI x;have hlns:fJ x=[(0,[100,105,115,116,32]++(bw x.name++([32,123,32]++(rc x.ws++[32,125,59]))))]:=by rw[kO,if_neg (by omega),if_neg (by omega),if_pos hk]
 rw[hlns,aM,cd,T4]at hl ⊢;have hi:i<σ.length:=(List.getElem?_eq_some_iff.1 hp.at_).1;refine ai Tryz.func161 R6 (by simp only[bg];rfl) fun hb hw=>?_;unfold Nl;simp -dsimp only[aw,jV,jW,jX,jY,jZ,jA,reduceIte,reduceCtorEq,jB,jC,jD,jE,jF,jG,bg];refine aA (uT x.name hnm _) ?_;simp -dsimp only[aw,jV,jW,jX,jY,jZ,jA,reduceIte,reduceCtorEq,jB,jC,jD,jE,jF,jG];refine aA (tS x.ws (fun w hw=>E6 (List.all_eq_true.1 hws w hw)) (by omega) _) ?_;simp -dsimp only[aw,jV,jW,jX,jY,jZ,jA,reduceIte,reduceCtorEq,jB,jC,jD,jE,jF,jG];have fl:[bs [100,105,115,116,32],x.name,bs [32,123,32],bs (rc x.ws),bs [32,125,59]].flatMap bw=[100,105,115,116,32]++(bw x.name++([32,123,32]++(rc x.ws++[32,125,59]))):=by simp[bw,bJ]
 have hl2:=eP i t k [bs [100,105,115,116,32],x.name,bs [32,123,32],bs (rc x.ws),bs [32,125,59]] (by have:=hp.k1;omega) (by rw[fl];exact hl) (by simp);rw[fl]at hl2;refine fm (hl2 _ (by rw[TX hi];exact hp.at_)) ?_ ?_
 .simp -dsimp only[aw,jV,jW,jX,jY,jZ,jA,reduceIte,reduceCtorEq,jB,jC,jD,jE,jF,jG]
 rw[TY _ _ hi];simp -dsimp only[aw,jV,jW,jX,jY,jZ,jA,reduceIte,reduceCtorEq,jB,jC,jD,jE,jF,jG];exact eT (v:=.tup []) (k:=σ.length) (Ua _) (T3 (by simp)) (gm hb (cv hi)) rfl rfl ⟨rfl,rfl⟩
theorem y4(hp:PgOk σ i t k)(hsh:bP x d=0)(hk:x.kind=6)(hz:fg x≤1100000)(hl:(t.getD []).length+(aZ k (fJ x)).length≤140737488355328):
 Fun G 164 [.ptr i 0,vit x] σ (fun o σ'=>o=.ret (.tup [])/\σ'=σ.set i (pgc i (dx t (aZ k (fJ x))) k)):=by
 obtain⟨-,-,hb1,hb2⟩:=xx hsh hk;have hbig:=dI x;have hlns:fJ x=[(0,[115,111,108,118,101,32]++(jk [44,32] (x.bef.map bw)++([32,98,101,102,111,114,101,32]++(jk [44,32] (x.aft.map bw)++[59]))))]:=by rw[kO,if_neg (by omega),if_neg (by omega),if_neg (by omega),if_neg (by omega),if_neg (by omega)]
 rw[hlns,aM,cd,T4]at hl ⊢;have hi:i<σ.length:=(List.getElem?_eq_some_iff.1 hp.at_).1;have f1:=fun σ=>tc x.bef hb1 (by omega) σ;have f2:=fun σ=>tc x.aft hb2 (by omega) σ;simp only[dy]at f1 f2;refine ai Tryz.func164 Tx (by simp only[bg];rfl) fun hb hw=>?_;unfold PS;simp -dsimp only[aw,jV,jW,jX,jY,jZ,jA,reduceIte,reduceCtorEq,jB,jC,jD,jE,jF,jG,bg];refine aA (f1 _) ?_;simp -dsimp only[aw,jV,jW,jX,jY,jZ,jA,reduceIte,reduceCtorEq,jB,jC,jD,jE,jF,jG];refine aA (f2 _) ?_;simp -dsimp only[aw,jV,jW,jX,jY,jZ,jA,reduceIte,reduceCtorEq,jB,jC,jD,jE,jF,jG];generalize jk [44,32] (x.bef.map bw)=L1 at *;generalize jk [44,32] (x.aft.map bw)=L2 at *
 have fl:[bs [115,111,108,118,101,32],bs L1,bs [32,98,101,102,111,114,101,32],bs L2,bs [59]].flatMap bw=[115,111,108,118,101,32]++(L1++([32,98,101,102,111,114,101,32]++(L2++[59]))):=by simp[bw,bJ]
 have hl2:=eP i t k [bs [115,111,108,118,101,32],bs L1,bs [32,98,101,102,111,114,101,32],bs L2,bs [59]] (by have:=hp.k1;omega) (by rw[fl];exact hl) (by simp);rw[fl]at hl2;refine fm (hl2 _ (by rw[TX hi];exact hp.at_)) ?_ ?_
 .simp -dsimp only[aw,jV,jW,jX,jY,jZ,jA,reduceIte,reduceCtorEq,jB,jC,jD,jE,jF,jG]
 rw[TY _ _ hi];simp -dsimp only[aw,jV,jW,jX,jY,jZ,jA,reduceIte,reduceCtorEq,jB,jC,jD,jE,jF,jG];exact eT (v:=.tup []) (k:=σ.length) (Ua _) (T3 (by simp)) (gm hb (cv hi)) rfl rfl ⟨rfl,rfl⟩
end
end Go.Proofs.YtnhphlmblenapaaGreatDoor
namespace Go.Proofs.YtnhphlmblenapaaGreatDoor
open Go.RowKit
open Nat renaming reduceLeDiff -> jA, reduceBEq -> jB, reduceLT -> jC, reduceEqDiff -> jD, reduceAdd -> jE, reduceSub -> jF, reduceMul -> jG
open V renaming copy -> jV, lend -> jW, lend1 -> jX, cells -> jY, boxable -> jZ
theorem aT(σ L:LLV)(i:Nat)(X Y:List V)(hi:i<σ.length):(σ.set i X++L).set i Y=σ.set i Y++L:=by
 rw[TY _ _ (by rw[TZ];exact hi),T9]
theorem bU(σ L:LLV)(i:Nat)(X:List V)(hi:i<σ.length):(σ.set i X++L)[i]? = some X:=by
 rw[TX (by rw[TZ];exact hi),T6 hi]
theorem bT(σ L:LLV)(i j:Nat)(X:List V):(σ.set i X++L)[σ.length+j]? = L[j]? := by
 rw[List.getElem?_append_right (by rw[TZ];omega),TZ];congr 1;omega
theorem bi(σ L:LLV)(i:Nat)(X:List V):(σ.set i X++L)[σ.length]? = L[0]? := bT σ L i 0 X
theorem kY(σ L:LLV)(i:Nat)(X Y:List V):(σ.set i X++L).set σ.length Y=σ.set i X++L.set 0 Y:=by
 rw[List.set_append_right _ _ (by rw[TZ];exact Ua _),TZ,Nat.sub_self]
def nG(l:List It):Prop:=∀(d:Nat),rvl l d=0->∀(i:Nat) (t:Option Bs) (k:Nat) (σ:LLV),σ[i]? = some (pgc i t k)->k≤100+d->(t.getD []).length+(aZ k (lns l)).length≤140737488355328->
 Fun G 57 [.ptr i 0,.d (fF l)] σ (fun o σ'=>o=.ret (.tup [])/\σ'=σ.set i (pgc i (dx t (aZ k (lns l))) k))
abbrev itC(x:It):List V:=[.d (ac x.kind),.d (ac x.ex.op),.d (ac x.ex.num),.d (ab x.ex.name),.d (.sl (x.ex.args.map dex)),.d (ab x.name),.d (ab x.idx),.d (.sl (x.ws.map dwt)),.d (.sl (x.items.map dit)),.d (.sl (x.els.map dit)),.d (.sl (x.bef.map fun s=>[ab s])),.d (.sl (x.aft.map fun s=>[ab s]))]
section
variable (b c i : Nat) (t : Option Bs) (k : Nat) (x : It) (d : Nat) (σ : LLV)
theorem Kv(IH:nG x.items)(hv:rvl x.items d=0)(hb:σ[b]? = some [.ptr i 0])(hc:σ[c]? = some (itC x))(hp:σ[i]? = some (pgc i t k))(hk:k≤100+d)(hl:(t.getD []).length+(aZ k (lns x.items)).length≤140737488355328):
 Fun G 214 [.ptr b 0,.ptr c 0] σ (fun o σ'=>o=.ret (.tup [])/\σ'=σ.set i (pgc i (dx t (aZ k (lns x.items))) k)):=by
 have hi:i<σ.length:=(List.getElem?_eq_some_iff.1 hp).1;have h:=IH d hv i t k σ hp hk hl;refine ai Tryz.func214 RN rfl fun hb' hw=>?_;unfold Ov;simp -dsimp only[aw,jV,jW,jX,jY,jZ,jA,reduceIte,reduceCtorEq,jB,jC,jD,jE,jF,jG,hb,hc];refine cj h ?_;simp -dsimp only[aw,jV,jW,jX,jY,jZ,jA,reduceIte,reduceCtorEq,jB,jC,jD,jE,jF,jG];exact eT (v:=.tup []) (k:=σ.length) (Ua _) (T0 (by simp)) (gm hb' (cv hi)) rfl rfl ⟨rfl,rfl⟩
theorem Jx(IH:nG x.els)(hv:rvl x.els d=0)(hb:σ[b]? = some [.ptr i 0])(hc:σ[c]? = some (itC x))(hp:σ[i]? = some (pgc i t k))(hk:k≤100+d)(hl:(t.getD []).length+(aZ k (lns x.els)).length≤140737488355328):
 Fun G 215 [.ptr b 0,.ptr c 0] σ (fun o σ'=>o=.ret (.tup [])/\σ'=σ.set i (pgc i (dx t (aZ k (lns x.els))) k)):=by
 have hi:i<σ.length:=(List.getElem?_eq_some_iff.1 hp).1;have h:=IH d hv i t k σ hp hk hl;refine ai Tryz.func215 Sf rfl fun hb' hw=>?_;unfold Oh;simp -dsimp only[aw,jV,jW,jX,jY,jZ,jA,reduceIte,reduceCtorEq,jB,jC,jD,jE,jF,jG,hb,hc];refine cj h ?_;simp -dsimp only[aw,jV,jW,jX,jY,jZ,jA,reduceIte,reduceCtorEq,jB,jC,jD,jE,jF,jG];exact eT (v:=.tup []) (k:=σ.length) (Ua _) (T0 (by simp)) (gm hb' (cv hi)) rfl rfl ⟨rfl,rfl⟩
theorem KX(IH:nG x.items)(hv:rvl x.items d=0)(hb:σ[b]? = some [.ptr i 0])(hc:σ[c]? = some (itC x))(hp:σ[i]? = some (pgc i t k))(hk:k≤100+d)(hl:(t.getD []).length+(aZ k (lns x.items)).length≤140737488355328):
 Fun G 216 [.ptr b 0,.ptr c 0] σ (fun o σ'=>o=.ret (.tup [])/\σ'=σ.set i (pgc i (dx t (aZ k (lns x.items))) k)):=by
 have hi:i<σ.length:=(List.getElem?_eq_some_iff.1 hp).1;have h:=IH d hv i t k σ hp hk hl;refine ai Tryz.func216 ST rfl fun hb' hw=>?_;unfold OQ;simp -dsimp only[aw,jV,jW,jX,jY,jZ,jA,reduceIte,reduceCtorEq,jB,jC,jD,jE,jF,jG,hb,hc];refine cj h ?_;simp -dsimp only[aw,jV,jW,jX,jY,jZ,jA,reduceIte,reduceCtorEq,jB,jC,jD,jE,jF,jG];exact eT (v:=.tup []) (k:=σ.length) (Ua _) (T0 (by simp)) (gm hb' (cv hi)) rfl rfl ⟨rfl,rfl⟩
end
theorem f125:[bs [125]].flatMap bw=[125]:=by simp[bw,bJ]
theorem Be(k:Nat)(x:Ln):lnT k x≠[]:=by unfold lnT;simp
theorem pO(t:Option Bs)(k:Nat)(x:Ln):∃u,dx t (lnT k x)=some u/\u.length=(t.getD []).length+(lnT k x).length:=
 ⟨t.getD []++lnT k x,(vV t (Be k x)).symm,TW⟩
section
variable (i : Nat) (t : Option Bs) (k : Nat) (x : It) (d : Nat) (σ : LLV)
theorem Eb(IH:nG x.items)(hp:PgOk σ i t k)(hd:k≤100+d)(hsh:bP x d=0)(hv:rvl x.items (d+1)=0)(hk:x.kind=5)(hl:(t.getD []).length+(aZ k (fJ x)).length≤140737488355328):
 Fun G 163 [.ptr i 0,vit x] σ (fun o σ'=>o=.ret (.tup [])/\σ'=σ.set i (pgc i (dx t (aZ k (fJ x))) k)):=by
 have hlns:fJ x=(0,[101,97,99,104,32]++(bw x.idx++([32,105,110,32]++(bw x.name++[32,123]))))::(upL (lns x.items)++[(0,[125])]):=by rw[kO,if_neg (by omega),if_neg (by omega),if_neg (by omega),if_neg (by omega),if_pos hk]
 rw[hlns,aM,bj,ed,aM,cd,T4]at hl ⊢;simp only[TW]at hl;have hi:i<σ.length:=(List.getElem?_eq_some_iff.1 hp.at_).1;have k1:=hp.k1;have fl:[bs [101,97,99,104,32],x.idx,bs [32,105,110,32],x.name,bs [32,123]].flatMap bw=[101,97,99,104,32]++(bw x.idx++([32,105,110,32]++(bw x.name++[32,123]))):=by simp[bw,bJ]
 generalize hH:(0,[101,97,99,104,32]++(bw x.idx++([32,105,110,32]++(bw x.name++[32,123]))))=H at hl ⊢;obtain⟨u,hu,hul⟩:=pO t k H;have hL1:=eP i t k [bs [101,97,99,104,32],x.idx,bs [32,105,110,32],x.name,bs [32,123]] (by omega) (by rw[fl,hH];omega) (by simp);rw[fl,hH,hu]at hL1;have hL3:=eP i (some (u++aZ (k+1) (lns x.items))) k [bs [125]] (by omega) (by rw[f125,Ub,TW];omega) (by simp);refine ai Tryz.func163 SS (by simp only[bg];rfl) fun hb hw=>?_;unfold Qh;simp -dsimp only[aw,jV,jW,jX,jY,jZ,jA,reduceIte,reduceCtorEq,jB,jC,jD,jE,jF,jG,bg];refine cj (hL1 _ (by rw[TX hi];exact hp.at_)) ?_;rw[TY _ _ hi];simp -dsimp only[aw,jV,jW,jX,jY,jZ,jA,reduceIte,reduceCtorEq,jB,jC,jD,jE,jF,jG,bT,bi]
 refine cj (fp i u (u++aZ (k+1) (lns x.items)) k (by omega) _ _ _ (bU σ _ i _ hi) ?_) ?_
 .rw[aT _ _ _ _ _ hi,aT _ _ _ _ _ hi];have:=KX σ.length (σ.length+1) i (some u) (k+1) x (d+1) (σ.set i (pgc i (some u) ((k+1:Nat):Int))++[[.ptr i 0],itC x]) IH hv (bi ..) (bT ..) (bU σ _ i _ hi) (by omega) (by rw[Ub];omega);rw[aT _ _ _ _ _ hi]at this;exact this
 rw[aT _ _ _ _ _ hi];simp -dsimp only[aw,jV,jW,jX,jY,jZ,jA,reduceIte,reduceCtorEq,jB,jC,jD,jE,jF,jG,bT,bi];refine cj (hL3 _ (bU σ _ i _ hi)) ?_;rw[aT _ _ _ _ _ hi];simp -dsimp only[aw,jV,jW,jX,jY,jZ,jA,reduceIte,reduceCtorEq,jB,jC,jD,jE,jF,jG];refine eT (v:=.tup []) (k:=σ.length) (Ua _) (T3 (by simp)) (gm hb (cv hi)) rfl rfl ⟨rfl,?_⟩;rw[<-iB,<-iB,hu,f125];rfl
end
end Go.Proofs.YtnhphlmblenapaaGreatDoor
namespace Go.Proofs.YtnhphlmblenapaaGreatDoor
open Go.RowKit
open Nat renaming reduceLeDiff -> jA, reduceBEq -> jB, reduceLT -> jC, reduceEqDiff -> jD, reduceAdd -> jE, reduceSub -> jF, reduceMul -> jG
open V renaming copy -> jV, lend -> jW, lend1 -> jX, cells -> jY, boxable -> jZ
theorem E8{σ:LLV}{i:Nat}{X:List V}(h:σ[i]? = some X):σ.set i X=σ:=by
 apply List.ext_getElem?;intro j;by_cases e:j=i
 .subst e;rw[T6 (List.getElem?_eq_some_iff.1 h).1,h]
 .rw[List.getElem?_set_ne (Ne.symm e)]
section
variable (i : Nat) (t : Option Bs) (k : Nat) (x : It) (d : Nat) (σ : LLV)
theorem xn(IH:nG x.items)(IH2:nG x.els)(hp:PgOk σ i t k)(hd:k≤100+d)(hsh:bP x d=0)(hv:rvl x.items (d+1)=0)(hv2:rvl x.els (d+1)=0)(hk:x.kind=4)(hz:fg x≤1100000)(hl:(t.getD []).length+(aZ k (fJ x)).length≤140737488355328):
 Fun G 162 [.ptr i 0,vit x] σ (fun o σ'=>o=.ret (.tup [])/\σ'=σ.set i (pgc i (dx t (aZ k (fJ x))) k)):=by
 have hbig:=dI x;have he:bz x.ex=0:=by have:=lk hsh;rw[if_neg (by omega),if_neg (by omega),if_neg (by omega)]at this;exact this
 have hlns:fJ x=(0,[105,102,32,40]++(bh x.ex++[41,32,123]))::(upL (lns x.items)++((if x.els.isEmpty=true then[]else(0,[125,32,101,108,115,101,32,123])::upL (lns x.els))++[(0,[125])])):=by
  rw[kO,if_neg (by omega),if_neg (by omega),if_neg (by omega),if_pos hk]
 rw[hlns,aM,bj,ed,bj,aM,cd,T4]at hl ⊢;have hi:i<σ.length:=(List.getElem?_eq_some_iff.1 hp.at_).1;have k1:=hp.k1;have hel:=ns x.els;have hpr:=fun σ=>ta he (by omega) σ;simp only[an]at hpr;have fl:[bs [105,102,32,40],bs (bh x.ex),bs [41,32,123]].flatMap bw=[105,102,32,40]++(bh x.ex++[41,32,123]):=by simp[bw,bJ]
 have fe:[bs [125,32,101,108,115,101,32,123]].flatMap bw=[125,32,101,108,115,101,32,123]:=by simp[bw,bJ]
 generalize hH:(0,[105,102,32,40]++(bh x.ex++[41,32,123]))=H at hl ⊢;obtain⟨u,hu,hul⟩:=pO t k H;have hL1:=eP i t k [bs [105,102,32,40],bs (bh x.ex),bs [41,32,123]] (by omega) (by rw[fl,hH];simp only[TW]at hl;omega) (by simp);rw[fl,hH,hu]at hL1;refine ai Tryz.func162 RE (by simp only[bg];rfl) fun hb hw=>?_
 have endL:∀(v:Bs) (R:Bs),v.length+(lnT k (0,[125])).length≤140737488355328->dx t R=some v->∀X:LLV,Fun G 51 [.ptr i 0,.d (dy [bs [125]])] (σ.set i (pgc i (some v) k)++X) (fun o σ'=>o=.ret (.tup [])/\σ'=σ.set i (pgc i (dx t (R++lnT k (0,[125]))) k)++X):=by
  intro v R hv hR X;have h3:=eP i (some v) k [bs [125]] (by omega) (by rw[f125,Ub];exact hv) (by simp) _ (bU σ X i _ hi);rw[aT _ _ _ _ _ hi,f125]at h3;exact h3.mono fun o σ' ⟨e1,e2⟩=>⟨e1,by rw[e2,<-hR,iB]⟩
 unfold Pf;simp -dsimp only[aw,jV,jW,jX,jY,jZ,jA,reduceIte,reduceCtorEq,jB,jC,jD,jE,jF,jG,bg,bT,bi];refine aA (hpr _) ?_;simp -dsimp only[aw,jV,jW,jX,jY,jZ,jA,reduceIte,reduceCtorEq,jB,jC,jD,jE,jF,jG,bT,bi];refine fm (hL1 _ (by rw[TX hi];exact hp.at_)) ?_ ?_
 .simp -dsimp only[aw,jV,jW,jX,jY,jZ,jA,reduceIte,reduceCtorEq,jB,jC,jD,jE,jF,jG,bT,bi]
 rw[TY _ _ hi];simp -dsimp only[aw,jV,jW,jX,jY,jZ,jA,reduceIte,reduceCtorEq,jB,jC,jD,jE,jF,jG,bT,bi];simp only[TW]at hl;refine cj (fp i u (u++aZ (k+1) (lns x.items)) k (by omega) _ _ _ (bU σ _ i _ hi) ?_) ?_
 .rw[aT _ _ _ _ _ hi,aT _ _ _ _ _ hi];have:=Kv σ.length (σ.length+1) i (some u) (k+1) x (d+1) (σ.set i (pgc i (some u) ((k+1:Nat):Int))++[[.ptr i 0],itC x]) IH hv (bi ..) (bT ..) (bU σ _ i _ hi) (by omega) (by rw[Ub];omega);rw[aT _ _ _ _ _ hi]at this;exact this
 rw[aT _ _ _ _ _ hi];have hu2:dx t (lnT k H++aZ (k+1) (lns x.items))=some (u++aZ (k+1) (lns x.items)):=by rw[<-iB,hu];rfl
 by_cases hne:x.els=[]
 .have hel0:x.els.isEmpty=true:=by rw[hne];rfl
  have h0:decide ((0:Int)<(x.els.length:Nat))=false:=by rw[hne];rfl
  rw[if_pos hel0,cd]at hl ⊢;simp -dsimp only[aw,jV,jW,jX,jY,jZ,jA,reduceIte,reduceCtorEq,jB,jC,jD,jE,jF,jG,bT,bi,T7,h0];refine cj (endL _ _ (by rw[TW];omega) hu2 _) ?_;simp -dsimp only[aw,jV,jW,jX,jY,jZ,jA,reduceIte,reduceCtorEq,jB,jC,jD,jE,jF,jG];refine eT (v:=.tup []) (k:=σ.length) (Ua _) (T3 (by simp)) (gm hb (cv hi)) rfl rfl ⟨rfl,?_⟩;simp only[T5,List.nil_append]
 .have hel0:¬x.els.isEmpty=true:=by rw[List.isEmpty_iff];exact hne
  have hpos:0<x.els.length:=List.length_pos_iff.2 hne;have h0:decide ((0:Int)<(x.els.length:Nat))=true:=decide_eq_true (by omega);rw[if_neg hel0,aM,ed]at hl ⊢;simp only[TW]at hl;have hL2:=eP i (some (u++aZ (k+1) (lns x.items))) k [bs [125,32,101,108,115,101,32,123]] (by omega) (by rw[fe,Ub,TW];omega) (by simp);rw[fe,kA,T5]at hL2;have hc2:=fun S h1 h2 h3=>Jx σ.length (σ.length+1) i (some (u++(aZ (k+1) (lns x.items)++lnT k (0,[125,32,101,108,115,101,32,123])))) (k+1) x (d+1) S IH2 hv2 h1 h2 h3 (by omega) (by rw[Ub];simp only[TW];omega)
  have hu4:dx t (lnT k H++(aZ (k+1) (lns x.items)++(lnT k (0,[125,32,101,108,115,101,32,123])++aZ (k+1) (lns x.els))))=some (u++(aZ (k+1) (lns x.items)++(lnT k (0,[125,32,101,108,115,101,32,123])++aZ (k+1) (lns x.els)))):=by rw[<-iB,hu];rfl
  have e3:u++(aZ (k+1) (lns x.items)++lnT k (0,[125,32,101,108,115,101,32,123]))++aZ (k+1) (lns x.els)=u++(aZ (k+1) (lns x.items)++(lnT k (0,[125,32,101,108,115,101,32,123])++aZ (k+1) (lns x.els))):=by simp only[T5]
  simp only[kA,e3]at hc2;generalize aZ (k+1) (lns x.items)=I at *;generalize lnT k (0,[125,32,101,108,115,101,32,123])=E at *;generalize aZ (k+1) (lns x.els)=L2 at *;simp -dsimp only[aw,jV,jW,jX,jY,jZ,jA,reduceIte,reduceCtorEq,jB,jC,jD,jE,jF,jG,bT,bi,T7,h0];refine cj (hL2 _ (bU σ _ i _ hi)) ?_;rw[aT _ _ _ _ _ hi];simp -dsimp only[aw,jV,jW,jX,jY,jZ,jA,reduceIte,reduceCtorEq,jB,jC,jD,jE,jF,jG,bT,bi];refine cj (fp i (u++(I++E)) (u++(I++(E++L2))) k (by omega) _ _ _ (bU σ _ i _ hi) ?_) ?_
  .rw[aT _ _ _ _ _ hi,aT _ _ _ _ _ hi];have:=hc2 (σ.set i (pgc i (some (u++(I++E))) ((k+1:Nat):Int))++[[.ptr i 0],itC x]) (bi ..) (bT ..) (bU σ _ i _ hi);rw[aT _ _ _ _ _ hi]at this;exact this
  rw[aT _ _ _ _ _ hi];simp -dsimp only[aw,jV,jW,jX,jY,jZ,jA,reduceIte,reduceCtorEq,jB,jC,jD,jE,jF,jG,bT,bi];refine cj (endL _ _ (by simp only[TW];omega) hu4 _) ?_;simp -dsimp only[aw,jV,jW,jX,jY,jZ,jA,reduceIte,reduceCtorEq,jB,jC,jD,jE,jF,jG];refine eT (v:=.tup []) (k:=σ.length) (Ua _) (T3 (by simp)) (gm hb (cv hi)) rfl rfl ⟨rfl,?_⟩;simp only[T5]
end
theorem Hy(x:It)(r:List It):lns (x::r)=fJ x++lns r:=by rw[lns]
theorem yx(l:List It){j:Nat}(h:j<l.length):lns (l.take (j+1))=lns (l.take j)++fJ l[j]:=by
 rw[List.take_succ_eq_append_getElem h,Cc,Hy];simp[lns]
theorem Aj(l:List It)(hbig:aF l≤1100000)(IH:∀x,x∈l->nG x.items/\nG x.els):nG l:=by
 intro d hv i t k σ hs hk hl;have hi:i<σ.length:=(List.getElem?_eq_some_iff.1 hs).1;have hll:l.length≤aF l:=ns l;refine ai Tryz.func57 k57 rfl fun hb hw=>?_;unfold c57;simp -dsimp only[aw,jV,jW,jX,jY,jZ,jA,reduceIte,reduceCtorEq,jB,jC,jD,jE,jF,jG,fF,T7];refine aN [0,6,7,8] (fun(j:Nat) ρ σ'=>ρ=[(0,.ptr i 0),(6,.d (.sl (l.map dit))),(7,aB .i64 l.length),(8,aB .i64 j)]/\σ'=σ.set i (pgc i (dx t (aZ k (lns (l.take j)))) k)) l.length ⟨rfl,by rw[List.take_zero,lns,cd,Fb,E8 hs]⟩ ?_ _;rintro j ρ' σ' hj ⟨rfl,rfl⟩
 have bbt:∀t,aj (σ.set i (pgc i t k)).length (σ.set i (pgc i t k))=true:=fun t=>by
  rw[TZ];exact gm hb (cv hi)
 by_cases hlt:j<l.length
 .have hx:=List.getElem_mem hlt;have wj:=aH hlt (show l.length≤9223372036854775807 by omega);obtain⟨s1,s2,s3⟩:=wV hv hx;obtain⟨hk6,-,hd4⟩:=kU s1;obtain⟨I1,I2⟩:=IH _ hx;have hxb:=ib hx;have hzb:=dI l[j]
  have hlen:∀m,(aZ k (lns (l.take m))).length≤(aZ k (lns l)).length:=fun m=>by
   have h:=congrArg (fun q=>(aZ k (lns q)).length) (List.take_append_drop m l);simp only[Cc,bj,TW]at h;omega
  have hlj:=hlen (j+1);rw[yx l hlt,bj,TW]at hlj;have hn:dx t (aZ k (lns (l.take (j+1))))=dx (dx t (aZ k (lns (l.take j)))) (aZ k (fJ l[j])):=by rw[yx l hlt,bj,iB]
  have hlx:=GI t (aZ k (lns (l.take j)));rw[hn];generalize hT:dx t (aZ k (lns (l.take j)))=T at *;have hdx:=ea l[j];have hget:(l.map dit)[j]? = some (dit l[j]):=by rw[List.getElem?_map,T8 hlt];rfl
  generalize l[j]=x at *
  have hone:∀S:LLV,S[i]? = some (pgc i T k)->Fun G (wrF x.kind) [.ptr i 0,vit x] S (fun o σ'=>o=.ret (.tup [])/\σ'=S.set i (pgc i (dx T (aZ k (fJ x))) k)):=by
   intro S hS;have hP:PgOk S i T k:=⟨hS,by omega⟩
   unfold wrF;by_cases h2:x.kind=2
   .rw[if_pos h2];exact Gg i T k x d S hP s1 h2 (by omega) (by omega)
   rw[if_neg h2];by_cases h3:x.kind=3
   .rw[if_pos h3];exact Ep i T k x d S hP s1 h3 (by omega) (by omega)
   rw[if_neg h3];by_cases h4:x.kind=4
   .rw[if_pos h4];exact xn i T k x d S I1 I2 hP hk s1 s2 s3 h4 (by omega) (by omega)
   rw[if_neg h4];by_cases h5:x.kind=5
   .rw[if_pos h5];exact Eb i T k x d S I1 hP hk s1 s2 h5 (by omega)
   rw[if_neg h5];by_cases h6:x.kind=6
   .rw[if_pos h6];exact y4 i T k x d S hP s1 h6 (by omega) (by omega)
   rw[if_neg h6];exact Gr i T k x d S hP s1 (by omega) (by omega) (by omega)
  simp only[bg]at hone;simp -dsimp only[aw,jV,jW,jX,jY,jZ,jA,reduceIte,reduceCtorEq,jB,jC,jD,jE,jF,jG,TV,hlt,decide_true,T8 hlt,hget,hdx,List.map_cons,List.map_nil,nc,bi,kY,TZ];refine aA (zG x.kind _) ?_;simp -dsimp only[aw,jV,jW,jX,jY,jZ,jA,reduceIte,reduceCtorEq,jB,jC,jD,jE,jF,jG,bi,TZ,nc];refine fm (hone _ (bU σ _ i _ hi)) ?_ ?_
  .simp -dsimp only[aw,jV,jW,jX,jY,jZ,jA,reduceIte,reduceCtorEq,jB,jC,jD,jE,jF,jG]
  rw[aT _ _ _ _ _ hi];simp -dsimp only[aw,jV,jW,jX,jY,jZ,jA,reduceIte,reduceCtorEq,jB,jC,jD,jE,jF,jG,wj];exact⟨hlt,Nxt.drop (l:=[_]) (by simp) (bbt _) (by simp[aq,V.under];exact hi) ⟨rfl,rfl⟩⟩
 .simp -dsimp only[aw,jV,jW,jX,jY,jZ,jA,reduceIte,reduceCtorEq,jB,jC,jD,jE,jF,jG,TV,hlt,decide_false];rw[T0 (by omega)];exact eT (v:=.tup []) (k:=σ.length) (Ua _) (T0 (by simp)) (gm hb (cv hi)) rfl rfl ⟨rfl,rfl⟩
end Go.Proofs.YtnhphlmblenapaaGreatDoor
