import Derived.Test.YtnhphlmblenapaaGreatDoorDm8
set_option linter.unusedVariables false
set_option linter.unusedSimpArgs false
set_option linter.unusedSectionVars false
set_option maxHeartbeats 4000000
open Bool renaming and_eq_true->TU,false_eq_true->TV,and_true->TW
open List renaming take_length->TX,take_left->TY,cons_append->TZ,drop_eq_nil_of_le->T0,nil_append->T3,map_cons->T4,drop_zero->T5,append_assoc->T6,length_cons->T7,drop_eq_getElem_cons->T8,take_of_length_le->T9,length_append->Ua,take_append->Ub,length_drop->Uc,isEmpty_nil->Ud,length_nil->Ue,append_nil->Uf,all_append->Ug,sum_cons->Uh,all_cons->Ui,map_nil->Uj,all_nil->Uk
open Nat renaming le_refl->Ul,zero_le->Um,add_sub_cancel_left->Un,reduceAdd->Uo
open Option renaming getD_some->Uq,getD_none->Ur,map_some->Us,map_none->Ut
namespace Go.Proofs.YtnhphlmblenapaaGreatDoor
open Go.RowKit
open Nat renaming reduceLeDiff -> jA, reduceBEq -> jB, reduceLT -> jC, reduceEqDiff -> jD, reduceAdd -> jE, reduceSub -> jF, reduceMul -> jG
open V renaming copy -> jV, lend -> jW, lend1 -> jX, cells -> jY, boxable -> jZ
def kbz:List V:=[.d (ab ⟨#[]⟩),.d (ab ⟨#[]⟩),.nil,.nil]
def kbx(nm p:ByteArray)(f b:V):List V:=[.d (ab nm),.d (ab p),f,b]
section
variable {ts : List Tok} {a i : Nat} (H : TsV ts) (ha : a ≤ ts.length) (σ : LLV) (hi : σ[i]? = some (pb ts a))
include H ha hi
theorem Ae:Fun G 34 [.ptr i 0] σ (CQ vkl ts i σ (lE (zLs ts) (ts.drop a))):=by
 refine ai Tryz.func34 k34 rfl fun hb hw=>?_;have S:=St.init hi hb;have hL:=H.ok.len;obtain⟨x,hx⟩:∃x,x=lE (zLs ts) (ts.drop a):=⟨_,rfl⟩
 rw[<-hx];unfold lE at hx;rw[bZ]at hx;unfold c34
 refine mK 4 (fun ρ σ'=>∃(nm par:ByteArray) (a2:Nat) (σ2:LLV),(ρ=[(0,.ptr i 0),(2,.ptr σ2.length 0),(3,.ptr (σ2.length+1) 0)]\/ρ=[(0,.ptr i 0),(2,.ptr σ2.length 0),(3,.ptr (σ2.length+1) 0),(11,ak false)])/\σ'=σ2++[kbz,kbx nm par .nil .nil]/\St σ i ts a2 σ2/\a2≤ts.length/\
  x=bO (zLs ts) (aa 123) (ts.drop a2) fun r4=>(gJ (zLs ts) r4).bind fun f r5=>(iZ (zLs ts) r5).bind fun b r6=>bO (zLs ts) (aa 125) r6 fun r7=>.ok ⟨nm,par,f,b⟩ r7) ?_ ?_
 .simp only[kM];simp -dsimp only[aw,jV,jW,jX,jY,jZ,jA,reduceIte,reduceCtorEq,jB,jC,jD,jE,jF,jG];refine aR S ha (cq _) hx (pW H kh ha (by decide +kernel) _ (al S.at_ _)) (fun _ a1 hx h1 h2 h3 hy σ1 S1 hl1=>?_) (fun e n b hx σ1 S1 hl1=>?_)
  case refine_2=>
   rw[<-hl1];simp -dsimp only[aw,jV,jW,jX,jY,jZ,jA,reduceIte,reduceCtorEq,jB,jC,jD,jE,jF,jG];exact aD S1 hx
  rw[<-hl1];rw[i8]at hx;simp -dsimp only[aw,jV,jW,jX,jY,jZ,jA,reduceIte,reduceCtorEq,jB,jC,jD,jE,jF,jG];refine aR S1 h2 (jx _) hx (gY H h2 _ (al S1.at_ _)) (fun nm a2 hx h1 h2 h3 hy σ2 S2 hl2=>?_) (fun e n b hx σ1 S1 hl1=>?_)
  case refine_2=>
   rw[<-hl1];simp -dsimp only[aw,jV,jW,jX,jY,jZ,jA,reduceIte,reduceCtorEq,jB,jC,jD,jE,jF,jG];exact aD S1 hx
  rw[<-hl2];simp -dsimp only[aw,jV,jW,jX,jY,jZ,jA,reduceIte,reduceCtorEq,jB,jC,jD,jE,jF,jG];refine iJ H (m:=iF) (by decide +kernel) S2 h2 (fun hs2 hlt2 σ3 S3 hl3=>?_) (fun hs2=>?_)
  .rw[eD hs2]at hx;rw[<-hl3];simp -dsimp only[aw,jV,jW,jX,jY,jZ,jA,reduceIte,reduceCtorEq,jB,jC,jD,jE,jF,jG];refine aR S3 hlt2 (jx _) hx (gY H hlt2 _ (al S3.at_ _)) (fun par a4 hx h1 h2 h3 hy σ1 S1 hl1=>?_) (fun e n b hx σ1 S1 hl1=>?_)
   case refine_2=>
    rw[<-hl1];simp -dsimp only[aw,jV,jW,jX,jY,jZ,jA,reduceIte,reduceCtorEq,jB,jC,jD,jE,jF,jG];exact aD S1 hx
   rw[<-hl1];simp -dsimp only[aw,jV,jW,jX,jY,jZ,jA,reduceIte,reduceCtorEq,jB,jC,jD,jE,jF,jG];exact Mid.mk ⟨nm,par,a4,σ1,.inl rfl,rfl,S1,h2,hx⟩
  .rw[ez hs2]at hx;simp -dsimp only[aw,jV,jW,jX,jY,jZ,jA,reduceIte,reduceCtorEq,jB,jC,jD,jE,jF,jG];exact Mid.mk ⟨nm,⟨#[]⟩,a2,σ2,.inr rfl,rfl,S2,h2,hx⟩
 .simp only[kM];rintro ρ' σ' ⟨nm,par,a2,σ2,hρ,rfl,S2,h2,hx⟩;rw[<-S2.len];rw[bZ]at hx;unfold kbz kbx
  refine mK 1 (fun ρ σ'=>∃(a2:Nat) (σ2:LLV),ρ=[(0,.ptr i 0),(2,.ptr σ2.length 0),(3,.ptr (σ2.length+1) 0)]/\σ'=σ2++[kbz,kbx nm par .nil .nil]/\St σ i ts a2 σ2/\a2≤ts.length/\
   x=(gJ (zLs ts) (ts.drop a2)).bind fun f r5=>(iZ (zLs ts) r5).bind fun b r6=>bO (zLs ts) (aa 125) r6 fun r7=>.ok ⟨nm,par,f,b⟩ r7) ?_ ?_
  .simp only[kM];rcases hρ with rfl|rfl
   all_goals
    simp -dsimp only[aw,jV,jW,jX,jY,jZ,jA,reduceIte,reduceCtorEq,jB,jC,jD,jE,jF,jG];refine aR S2 h2 (cq _) hx (cw H (aa 123) h2 (by decide +kernel) _ (al S2.at_ _)) (fun _ a3 hx h1 h2 h3 hy σ1 S1 hl1=>?_) (fun e n b hx σ1 S1 hl1=>?_)
    case refine_2=>
     rw[<-hl1];simp -dsimp only[aw,jV,jW,jX,jY,jZ,jA,reduceIte,reduceCtorEq,jB,jC,jD,jE,jF,jG];exact aD S1 hx
    rw[<-hl1];simp -dsimp only[aw,jV,jW,jX,jY,jZ,jA,reduceIte,reduceCtorEq,jB,jC,jD,jE,jF,jG];exact Mid.mk ⟨a3,σ1,rfl,rfl,S1,h2,hx⟩
  .simp only[kM];rintro ρ' σ' ⟨a3,σ3,rfl,rfl,S3,h3,hx⟩;rw[S2.len,<-S3.len];unfold kbz kbx;simp -dsimp only[aw,jV,jW,jX,jY,jZ,jA,reduceIte,reduceCtorEq,jB,jC,jD,jE,jF,jG];refine aR S3 h3 (uO _ _) hx (xl H h3 _ (al S3.at_ _)) (fun fl a4 hx h1 h4 h5 hy σ1 S1 hl1=>?_) (fun e n b hx σ1 S1 hl1=>?_)
   case refine_2=>
    rw[<-hl1];simp -dsimp only[aw,jV,jW,jX,jY,jZ,jA,reduceIte,reduceCtorEq,jB,jC,jD,jE,jF,jG];exact aD S1 hx
   rw[<-hl1];unfold iZ at hx;simp -dsimp only[aw,jV,jW,jX,jY,jZ,jA,reduceIte,reduceCtorEq,jB,jC,jD,jE,jF,jG]
   refine tX [0,2,3] (R:=fun(j:Nat) ρ σ'=>∃(a1:Nat) (l:List Bk) (σ2:LLV),ρ=[(0,.ptr i 0),(2,.ptr σ2.length 0),(3,.ptr (σ2.length+1) 0)]/\σ'=σ2++[kbz,kbx nm par (.d (.sl (fl.map dfl))) (.own 46 2 (l.map dbk))]/\St σ i ts a1 σ2/\a1≤ts.length/\l.length+j≤2*a1/\j≤a1/\
    x=(db (fun(l:List Bk) r=>(acc bS r).map fun r1=>(iI (zLs ts) r1).bind fun b r2=>.ok (l++[b]) r2) l (ts.drop a1)).bind fun b r6=>bO (zLs ts) (aa 125) r6 fun r7=>.ok ⟨nm,par,fl,b⟩ r7) ts.length (FG (σ:=σ1) (cs:=kbx nm par (.d (.sl (fl.map dfl))) .nil) (fo:=3) (q:=1) 46 2 rfl rfl) ⟨a4,[],σ1,rfl,rfl,S1,h4,by simp,by omega,hx⟩ ?_ _
   rintro j ρ' σ' hj ⟨a5,l,σ5,rfl,rfl,S5,h6,h7,h8,hx⟩;rw[fr (ld _).eats]at hx;rw[S1.len,<-S5.len];unfold kbz kbx;simp -dsimp only[aw,jV,jW,jX,jY,jZ,jA,reduceIte,reduceCtorEq,jB,jC,jD,jE,jF,jG];refine iJ H (m:=bS) (by decide +kernel) S5 h6 (fun hs2 hlt2 σ6 S6 hl6=>?_) (fun hs2=>?_)
   .simp only[hs2,Us,dN]at hx;unfold iI at hx;rw[i8,dN]at hx;rw[<-hl6];simp -dsimp only[aw,jV,jW,jX,jY,jZ,jA,reduceIte,reduceCtorEq,jB,jC,jD,jE,jF,jG];refine aR S6 hlt2 (jx _) hx (gY H hlt2 _ (al S6.at_ _)) (fun bn a7 hx h1 h9 h10 hy σ7 S7 hl7=>?_) (fun e n b hx σ1 S1 hl1=>?_)
    case refine_2=>
     rw[<-hl1];simp -dsimp only[aw,jV,jW,jX,jY,jZ,jA,reduceIte,reduceCtorEq,jB,jC,jD,jE,jF,jG];exact aD S1 hx
    rw[dN]at hx;rw[<-hl7];simp -dsimp only[aw,jV,jW,jX,jY,jZ,jA,reduceIte,reduceCtorEq,jB,jC,jD,jE,jF,jG];have hlt7:a5+1<a7:=by unfold gS at h10;rw[Uc]at h10;omega
    refine aR S7 h9 (mm _ (List.suffix_refl _)) hx (EB H h9 _ (al S7.at_ _)) (fun bl a8 hx h1 h11 h12 hy σ8 S8 hl8=>?_) (fun e n b hx σ1 S1 hl1=>?_)
    case refine_2=>
     rw[<-hl1];simp -dsimp only[aw,jV,jW,jX,jY,jZ,jA,reduceIte,reduceCtorEq,jB,jC,jD,jE,jF,jG];exact aD S1 hx
    have hx:x=(db (fun(l:List Bk) r=>(acc bS r).map fun r1=>(iI (zLs ts) r1).bind fun b r2=>.ok (l++[b]) r2) (l++[(bn,bl)]) (ts.drop a8)).bind fun b r6=>bO (zLs ts) (aa 125) r6 fun r7=>.ok ⟨nm,par,fl,b⟩ r7:=hx;rw[<-hl8];simp -dsimp only[aw,jV,jW,jX,jY,jZ,jA,reduceIte,reduceCtorEq,jB,jC,jD,jE,jF,jG];refine bI (by omega) ?_;simp -dsimp only[aw,jV,jW,jX,jY,jZ,jA,reduceIte,reduceCtorEq,jB,jC,jD,jE,jF,jG];exact⟨by omega,Nxt.to (σ8++[kbz,kbx nm par (.d (.sl (fl.map dfl))) (.own 46 2 ((l++[(bn,bl)]).map dbk))]) [[.d (ab bn),.d (.sl (bl.map dit))]] (by simp[kbz,kbx,dbk,fF]) (by simp) (ax S8.bb rfl) (by simp[aq,V.under,S8.len];have:=S8.lt;omega) ⟨a8,l++[(bn,bl)],σ8,rfl,rfl,S8,h11,by simp;omega,by omega,hx⟩⟩
   .simp only[hs2,Ut,CP.bind]at hx;rw[bZ]at hx;simp -dsimp only[aw,jV,jW,jX,jY,jZ,jA,reduceIte,reduceCtorEq,jB,jC,jD,jE,jF,jG];refine aR S5 h6 (cq _) hx (cw H (aa 125) h6 (by decide +kernel) _ (al S5.at_ _)) (fun _ a6 hx h1 h2 h3 hy σ6 S6 hl6=>?_) (fun e n b hx σ1 S1 hl1=>?_)
    case refine_2=>
     rw[<-hl1];simp -dsimp only[aw,jV,jW,jX,jY,jZ,jA,reduceIte,reduceCtorEq,jB,jC,jD,jE,jF,jG];exact aD S1 hx
    rw[<-hl6];simp -dsimp only[aw,jV,jW,jX,jY,jZ,jA,reduceIte,reduceCtorEq,jB,jC,jD,jE,jF,jG];exact cO S6 h2 hx rfl (by simp[Pt,be,bL,aw,jV,jW,jX,jY,jZ,jA,reduceIte,reduceCtorEq,jB,jC,jD,jE,jF,jG])
end
theorem isE{ts:List Tok}{a:Nat}(h:a<ts.length):(ts.drop a).isEmpty=false:=by rw[T8 h];rfl
section
variable {ts : List Tok} {a i : Nat} (H : TsV ts) (ha : a ≤ ts.length) (σ : LLV) (hi : σ[i]? = some (pb ts a))
include H ha hi
theorem An:Fun G 25 [.ptr i 0,.bnd 26 [.ptr i 0]] σ (CQ (fun l=>.d (.sl (l.map dit))) ts i σ (iS (zLs ts) (ts.drop a))):=by
 refine ai Tryz.func25 k25 rfl fun hb hw=>?_;have S:=St.init hi hb;have hL:=H.ok.len;obtain⟨x,hx⟩:∃x,x=iS (zLs ts) (ts.drop a):=⟨_,rfl⟩
 rw[<-hx];unfold iS at hx;unfold c25;simp -dsimp only[aw,jV,jW,jX,jY,jZ,jA,reduceIte,reduceCtorEq,jB,jC,jD,jE,jF,jG]
 refine aN [0,1,5] (R:=fun(j:Nat) ρ σ'=>∃(a1:Nat) (l:List It) (σ2:LLV),ρ=[(0,.ptr i 0),(1,.bnd 26 [.ptr i 0]),(5,.own 54 12 (l.map dit))]/\σ'=σ2++[]/\St σ i ts a1 σ2/\a1≤ts.length/\l.length+j≤2*a1/\j≤a1/\
  x=db (fun l r=>if r.isEmpty=true then none else some ((jn (zLs ts) r).bind fun x r1=>.ok (l++[x]) r1)) l (ts.drop a1)) ts.length ⟨a,[],σ,rfl,(Uf _).symm,S,ha,by simp,by omega,hx⟩ ?_ _
 rintro j ρ' σ' hj ⟨a1,l,σ2,rfl,rfl,S2,h4,h5,h6,hx⟩;rw[fr (sj (kL (zLs ts)) iv)]at hx;rw[<-S2.len];simp -dsimp only[aw,jV,jW,jX,jY,jZ,jA,reduceIte,reduceCtorEq,jB,jC,jD,jE,jF,jG];refine ae (kz ts a1 i _ (al S2.at_ [])) ?_;by_cases hlt:a1<ts.length
 .simp only[isE hlt,TV,if_false,dN]at hx;simp -dsimp only[aw,jV,jW,jX,jY,jZ,jA,reduceIte,reduceCtorEq,jB,jC,jD,jE,jF,jG,decide_eq_true hlt];refine aR S2 h4 (kL _ _) hx (C7 H h4 _ (al S2.at_ _)) (fun y a3 hx h7 h8 h9 hy σ4 S4 hl4=>?_) (fun e n b hx σ1 S1 hl1=>?_)
  case refine_2=>
   rw[<-hl1];simp -dsimp only[aw,jV,jW,jX,jY,jZ,jA,reduceIte,reduceCtorEq,jB,jC,jD,jE,jF,jG];exact aD S1 hx
  rw[<-hl4];simp -dsimp only[aw,jV,jW,jX,jY,jZ,jA,reduceIte,reduceCtorEq,jB,jC,jD,jE,jF,jG,bg];refine bI (by omega) ?_;simp -dsimp only[aw,jV,jW,jX,jY,jZ,jA,reduceIte,reduceCtorEq,jB,jC,jD,jE,jF,jG];have hlt4:a1<a3:=by have:=iv y;rw[Uc]at h9;omega
  exact⟨by omega,Nxt.same (by simp) (ax S4.bb rfl) (by have:=S4.lt;simp[aq,V.under,V.unders,S4.len,this]) ⟨a3,l++[y],σ4,by rw[List.map_append,T4,Uj,ea],rfl,S4,h8,by simp;omega,by omega,hx⟩⟩
 .rw[T0 (by omega)]at hx;simp only[Ud,if_true]at hx;simp -dsimp only[aw,jV,jW,jX,jY,jZ,jA,reduceIte,reduceCtorEq,jB,jC,jD,jE,jF,jG,decide_eq_false hlt];exact cO S2 h4 (by rw[hx,T0 (by omega)]) rfl rfl
end
end Go.Proofs.YtnhphlmblenapaaGreatDoor
namespace Go.Proofs.YtnhphlmblenapaaGreatDoor
open Go.RowKit
open Nat renaming reduceLeDiff -> jA, reduceBEq -> jB, reduceLT -> jC, reduceEqDiff -> jD, reduceAdd -> jE, reduceSub -> jF, reduceMul -> jG
open V renaming copy -> jV, lend -> jW, lend1 -> jX, cells -> jY, boxable -> jZ
theorem F9{l:Bs}{ts:List Tok}(h:gG l=.ok ts)(hl:l.length≤16384):TsV ts:=⟨Jf h hl,fun t ht=>((jv h).1 t ht).1⟩
def xw{α:Type}(z:α):CP α->α×Int×Int
 | .out=>(z,0,1)
 | .bad e n=>(z,n,e)
 | .ok v _=>(v,0,0)
def ft{α:Type}(z:α)(F:List Tok->CP α)(l:Bs):α×Int×Int:=if 16384<l.length then(z,0,2)else match gG l with
 | .err n e=>(z,n,e)
 | .ok ts=>xw z (F ts)
def fN{α:Type}(mk:α->V)(r:α×Int×Int):V:=.tup [mk r.1,.d (ac r.2.1),.d (ac r.2.2)]
def kZ:Kl:=⟨⟨#[]⟩,⟨#[]⟩,[],[]⟩
def my(l:List It):V:=.d (.sl (l.map dit))
theorem KY(σ:LLV)(i j k:Nat):fW G 59 [.ptr i 0,.ptr j 0,.ptr k 0] σ none (fun σ'=>σ'=σ):=by
 refine fu Tryz.func59 k59 rfl (fun v h=>by cases h) fun hb=>?_;unfold c59;simp -dsimp only[aw,jV,jW,jX,jY,jZ,jA,reduceIte,reduceCtorEq,jB,jC,jD,jE,jF,jG,ur,tZ,Ur];exact⟨σ.length,Ul _,by rw[TX];exact hb,TX⟩
theorem JT(τ:LLV)(e n:Int)(x:List V):fW G 59 [.ptr τ.length 0,.ptr (τ.length+1) 0,.ptr (τ.length+2) 0] (τ++[[.nil],[.d (ac 0)],[.d (ac 0)],x]) (some (ep e n))
 (fun σ'=>σ'=τ++[[.nil],[.d (ac n)],[.d (ac e)],x]):=by
 refine fu Tryz.func59 k59 rfl (fun v h=>by cases h;rfl) fun hb=>?_;unfold c59 ep;simp -dsimp only[aw,jV,jW,jX,jY,jZ,jA,reduceIte,reduceCtorEq,jB,jC,jD,jE,jF,jG,ur,tZ,Uq]
 have hT:∀y:LLV,(τ++[.nil]::[.d (ac n)]::[.d (ac e)]::x::y).take (τ.length+4)=τ++[[.nil],[V.d (ac n)],[V.d (ac e)],x]:=fun y=>by
  rw[Ub,T9 (by omega),Un];rfl
 refine⟨τ.length+4,by simp,?_,?_⟩
 .rw[hT];simp only[Ua,T7,Ue,Uo]at hb;unfold aj at hb ⊢;rw[Ug,TU]at hb ⊢;refine⟨hb.1,?_⟩;have:=hb.2;simp only[Ui,Uk,TW,TU]at this ⊢;exact⟨rfl,rfl,rfl,this.2.2.2⟩
 .rw[hT]
theorem Gi(F:List Tok->CP (List It))(hF:∀ts,F ts≠.out)(g:FuncId)(l:Bs)(hc:∀ts,TsV ts->ts.length≤16384->∀(i:Nat) (τ:LLV),τ[i]? = some (pb ts 0)->Fun G g [.ptr i 0] τ (CQ my ts i τ (F ts)))(σ:LLV):
 Fun G 23 [.d (ab (bs l)),.fn g []] σ (aP (fN my (ft [] F l)) σ):=by
 refine nZ Tryz.func23 k23 rfl fun hb hw=>?_;unfold c23
 have fin:∀(r:(List It)×Int×Int) (x:LLV) ρ,ft [] F l=r->be (σ++x) ρ vS=some (fN my r)->fin σ.length vS (aP (fN my (ft [] F l)) σ) .ret ρ (σ++x):=fun r x ρ hp h=>by
  rw[hp];exact aO hb h rfl TY ⟨rfl,rfl⟩
 have finl:∀(r:(List It)×Int×Int) (x:LLV) ρ,ft [] F l=r->be (σ++x) ρ vS=some (fN my r)->CL σ.length vS (aP (fN my (ft [] F l)) σ) ρ (σ++x):=fun r x ρ hp h=>by
  rw[hp];exact⟨_,h,σ.length,Ul _,by rw[TY];exact hb,rfl,by rw[TY];exact⟨rfl,rfl⟩⟩
 by_cases hbig:16384<l.length
 .have hP:ft [] F l=([],0,2):=by unfold ft;rw[if_pos hbig]
  simp -dsimp only[aw,jV,jW,jX,jY,jZ,jA,reduceIte,reduceCtorEq,jB,jC,jD,jE,jF,jG,kx];refine ae (qE l hbig _) ?_;simp -dsimp only[aw,jV,jW,jX,jY,jZ,jA,reduceIte,reduceCtorEq,jB,jC,jD,jE,jF,jG,kx,Int.reduceEq,decide_false];refine fin _ _ _ hP ?_;simp[fN,my,vS,be,dp,bL,aw,jV,jW,jX,jY,jZ,jA,reduceIte,reduceCtorEq,jB,jC,jD,jE,jF,jG]
 have ht:=rY l (by omega);have hR:tO l=sZ (gG l):=by unfold tO;rw[if_neg hbig]
 rw[hR]at ht;cases hx:gG l with
 | err n e=>
  have hP:ft [] F l=([],n,e):=by unfold ft;rw[if_neg hbig,hx]
  have de:=decide_eq_false (uS hx);rw[hx]at ht;unfold sZ at ht;simp -dsimp only[aw,jV,jW,jX,jY,jZ,jA,reduceIte,reduceCtorEq,jB,jC,jD,jE,jF,jG,kx];refine ae (ht _) ?_;simp -dsimp only[aw,jV,jW,jX,jY,jZ,jA,reduceIte,reduceCtorEq,jB,jC,jD,jE,jF,jG,kx,de];refine fin _ _ _ hP ?_;simp[fN,my,vS,be,dp,bL,aw,jV,jW,jX,jY,jZ,jA,reduceIte,reduceCtorEq,jB,jC,jD,jE,jF,jG]
 | ok ts=>
  have H:=F9 hx (by omega);have hl16:=(jv hx).2;have hP:ft [] F l=xw [] (F ts):=by unfold ft;rw[if_neg hbig,hx]
  rw[hx]at ht;unfold sZ at ht;have hC:=hc ts H (by omega) (σ.length+3);simp -dsimp only[aw,jV,jW,jX,jY,jZ,jA,reduceIte,reduceCtorEq,jB,jC,jD,jE,jF,jG,kx];refine ae (ht _) ?_;simp -dsimp only[aw,jV,jW,jX,jY,jZ,jA,reduceIte,reduceCtorEq,jB,jC,jD,jE,jF,jG,decide_true,kx,GY];refine aC (hC _ (by rw[rK];rfl)) fun out σ' hq=>?_;cases hy:F ts with
  | out=>exact absurd hy (hF ts)
  | bad e n=>
   rw[hy]at hq hP;obtain⟨rfl,b,rfl⟩:=hq;rw[lZ];simp -dsimp only[aw,jV,jW,jX,jY,jZ,jA,reduceIte,reduceCtorEq,jB,jC,jD,jE,jF,jG,bu];refine(JT σ e n (pb ts b)).mono fun σ' h=>?_;subst h;have:=finl _ [[.nil],[.d (ac n)],[.d (ac e)],pb ts b] [(4,.ptr σ.length 0),(5,.ptr (σ.length+1) 0),(6,.ptr (σ.length+2) 0)] hP (by simp[fN,xw,my,vS,be,dp,bL,aw,jV,jW,jX,jY,jZ,jA,reduceIte,reduceCtorEq,jB,jC,jD,jE,jF,jG]);exact this
  | ok v r=>
   rw[hy]at hq hP;obtain⟨rfl,rfl⟩:=hq;rw[lZ];simp -dsimp only[aw,jV,jW,jX,jY,jZ,jA,reduceIte,reduceCtorEq,jB,jC,jD,jE,jF,jG,bB,pb,my];refine(KY _ _ _ _).mono fun σ' h=>?_;subst h;have:=finl _ [[my v],[.d (ac 0)],[.d (ac 0)],pb ts (ts.length-r.length)] [(4,.ptr σ.length 0),(5,.ptr (σ.length+1) 0),(6,.ptr (σ.length+2) 0)] hP (by simp[fN,xw,my,vS,be,dp,bL,aw,jV,jW,jX,jY,jZ,jA,reduceIte,reduceCtorEq,jB,jC,jD,jE,jF,jG]);exact this
theorem Jk(σ:LLV)(i j k:Nat):fW G 81 [.ptr i 0,.ptr j 0,.ptr k 0] σ none (fun σ'=>σ'=σ):=by
 refine fu Tryz.func81 k81 rfl (fun v h=>by cases h) fun hb=>?_;unfold c81;simp -dsimp only[aw,jV,jW,jX,jY,jZ,jA,reduceIte,reduceCtorEq,jB,jC,jD,jE,jF,jG,ur,tZ,Ur];exact⟨σ.length,Ul _,by rw[TX];exact hb,TX⟩
theorem K3(τ:LLV)(e n:Int)(x:List V):fW G 81 [.ptr τ.length 0,.ptr (τ.length+1) 0,.ptr (τ.length+2) 0] (τ++[[.d (ab ⟨#[]⟩),.d (ab ⟨#[]⟩),.nil,.nil],[.d (ac 0)],[.d (ac 0)],x]) (some (ep e n))
 (fun σ'=>σ'=τ++[[.d (ab ⟨#[]⟩),.d (ab ⟨#[]⟩),.nil,.nil],[.d (ac n)],[.d (ac e)],x]):=by
 refine fu Tryz.func81 k81 rfl (fun v h=>by cases h;rfl) fun hb=>?_;unfold c81 ep;simp -dsimp only[aw,jV,jW,jX,jY,jZ,jA,reduceIte,reduceCtorEq,jB,jC,jD,jE,jF,jG,ur,tZ,Uq]
 have hT:∀y:LLV,(τ++[.d (ab ⟨#[]⟩),.d (ab ⟨#[]⟩),.nil,.nil]::[.d (ac n)]::[.d (ac e)]::x::y).take (τ.length+4)=τ++[[.d (ab ⟨#[]⟩),.d (ab ⟨#[]⟩),.nil,.nil],[V.d (ac n)],[V.d (ac e)],x]:=fun y=>by
  rw[Ub,T9 (by omega),Un];rfl
 refine⟨τ.length+4,by simp,?_,?_⟩
 .rw[hT];simp only[Ua,T7,Ue,Uo]at hb;unfold aj at hb ⊢;rw[Ug,TU]at hb ⊢;refine⟨hb.1,?_⟩;have:=hb.2;simp only[Ui,Uk,TW,TU]at this ⊢;exact⟨rfl,rfl,rfl,this.2.2.2⟩
 .rw[hT]
theorem Gf(F:List Tok->CP Kl)(hF:∀ts,F ts≠.out)(g:FuncId)(l:Bs)(hc:∀ts,TsV ts->ts.length≤16384->∀(i:Nat) (τ:LLV),τ[i]? = some (pb ts 0)->Fun G g [.ptr i 0] τ (CQ vkl ts i τ (F ts)))(σ:LLV):
 Fun G 32 [.d (ab (bs l)),.fn g []] σ (aP (fN vkl (ft kZ F l)) σ):=by
 refine nZ Tryz.func32 k32 rfl fun hb hw=>?_;unfold c32
 have fin:∀(r:Kl×Int×Int) (x:LLV) ρ,ft kZ F l=r->be (σ++x) ρ wH=some (fN vkl r)->fin σ.length wH (aP (fN vkl (ft kZ F l)) σ) .ret ρ (σ++x):=fun r x ρ hp h=>by
  rw[hp];exact aO hb h rfl TY ⟨rfl,rfl⟩
 have finl:∀(r:Kl×Int×Int) (x:LLV) ρ,ft kZ F l=r->be (σ++x) ρ wH=some (fN vkl r)->CL σ.length wH (aP (fN vkl (ft kZ F l)) σ) ρ (σ++x):=fun r x ρ hp h=>by
  rw[hp];exact⟨_,h,σ.length,Ul _,by rw[TY];exact hb,rfl,by rw[TY];exact⟨rfl,rfl⟩⟩
 by_cases hbig:16384<l.length
 .have hP:ft kZ F l=(kZ,0,2):=by unfold ft;rw[if_pos hbig]
  simp -dsimp only[aw,jV,jW,jX,jY,jZ,jA,reduceIte,reduceCtorEq,jB,jC,jD,jE,jF,jG,kx];refine ae (qE l hbig _) ?_;simp -dsimp only[aw,jV,jW,jX,jY,jZ,jA,reduceIte,reduceCtorEq,jB,jC,jD,jE,jF,jG,kx,Int.reduceEq,decide_false];refine fin _ _ _ hP ?_;simp[fN,kZ,wH,be,dp,bL,aw,jV,jW,jX,jY,jZ,jA,reduceIte,reduceCtorEq,jB,jC,jD,jE,jF,jG]
 have ht:=rY l (by omega);have hR:tO l=sZ (gG l):=by unfold tO;rw[if_neg hbig]
 rw[hR]at ht;cases hx:gG l with
 | err n e=>
  have hP:ft kZ F l=(kZ,n,e):=by unfold ft;rw[if_neg hbig,hx]
  have de:=decide_eq_false (uS hx);rw[hx]at ht;unfold sZ at ht;simp -dsimp only[aw,jV,jW,jX,jY,jZ,jA,reduceIte,reduceCtorEq,jB,jC,jD,jE,jF,jG,kx];refine ae (ht _) ?_;simp -dsimp only[aw,jV,jW,jX,jY,jZ,jA,reduceIte,reduceCtorEq,jB,jC,jD,jE,jF,jG,kx,de];refine fin _ _ _ hP ?_;simp[fN,kZ,wH,be,dp,bL,aw,jV,jW,jX,jY,jZ,jA,reduceIte,reduceCtorEq,jB,jC,jD,jE,jF,jG]
 | ok ts=>
  have H:=F9 hx (by omega);have hl16:=(jv hx).2;have hP:ft kZ F l=xw kZ (F ts):=by unfold ft;rw[if_neg hbig,hx]
  rw[hx]at ht;unfold sZ at ht;have hC:=hc ts H (by omega) (σ.length+3);simp -dsimp only[aw,jV,jW,jX,jY,jZ,jA,reduceIte,reduceCtorEq,jB,jC,jD,jE,jF,jG,kx];refine ae (ht _) ?_;simp -dsimp only[aw,jV,jW,jX,jY,jZ,jA,reduceIte,reduceCtorEq,jB,jC,jD,jE,jF,jG,decide_true,kx,GY];refine aC (hC _ (by rw[rK];rfl)) fun out σ' hq=>?_;cases hy:F ts with
  | out=>exact absurd hy (hF ts)
  | bad e n=>
   rw[hy]at hq hP;obtain⟨rfl,b,rfl⟩:=hq;rw[lZ];simp -dsimp only[aw,jV,jW,jX,jY,jZ,jA,reduceIte,reduceCtorEq,jB,jC,jD,jE,jF,jG,bu];refine(K3 σ e n (pb ts b)).mono fun σ' h=>?_;subst h;have:=finl _ [[.d (ab ⟨#[]⟩),.d (ab ⟨#[]⟩),.nil,.nil],[.d (ac n)],[.d (ac e)],pb ts b] [(4,.ptr σ.length 0),(5,.ptr (σ.length+1) 0),(6,.ptr (σ.length+2) 0)] hP (by simp[fN,xw,kZ,wH,be,dp,bL,aw,jV,jW,jX,jY,jZ,jA,reduceIte,reduceCtorEq,jB,jC,jD,jE,jF,jG]);exact this
  | ok v r=>
   rw[hy]at hq hP;obtain⟨rfl,rfl⟩:=hq;rw[lZ];simp -dsimp only[aw,jV,jW,jX,jY,jZ,jA,reduceIte,reduceCtorEq,jB,jC,jD,jE,jF,jG,bB,pb,kZ];refine(Jk _ _ _ _).mono fun σ' h=>?_;subst h;have:=finl _ [[.d (ab v.name),.d (ab v.par),.d (.sl (v.flds.map dfl)),.d (.sl (v.blks.map dbk))],[.d (ac 0)],[.d (ac 0)],pb ts (ts.length-r.length)] [(4,.ptr σ.length 0),(5,.ptr (σ.length+1) 0),(6,.ptr (σ.length+2) 0)] hP (by simp[fN,xw,kZ,wH,be,dp,bL,aw,jV,jW,jX,jY,jZ,jA,reduceIte,reduceCtorEq,jB,jC,jD,jE,jF,jG]);exact this
def vt:List Bk->Int
 | []=>0
 | b::r=>if cN b.2=0 then vt r else cN b.2
def tI(c:Kl):Int:=if pY c=0 then vt c.blks else pY c
theorem Jr{l:List Bk}{b:Bk}(h:b∈l):aF b.2≤bsz l:=by
 induction l with
 | nil=>cases h
 | cons a r ih=>
  unfold bsz at *;rw[T4,Uh];rcases List.mem_cons.1 h with rfl|h
  .omega
  .have:=ih h;omega
theorem Kw(l:List Bk):l.length≤bsz l:=by
 induction l with
 | nil=>exact Ul _
 | cons a r ih=>unfold bsz at *;rw[T4,Uh,T7];omega
theorem AK(c:Kl)(hk:ksz c≤1100000)(σ:LLV):Fun G 37 [vkl c] σ (aP (.d (ac (tI c))) σ):=by
 have hk2:c.flds.length≤1100000/\bsz c.blks≤1100000:=by unfold ksz at hk;omega
 have hbl:=Kw c.blks;refine ai Tryz.func37 k37 rfl fun hb hw=>?_;unfold c37;simp -dsimp only[aw,jV,jW,jX,jY,jZ,jA,reduceIte,reduceCtorEq,jB,jC,jD,jE,jF,jG];refine ae (mC c (by omega) (by omega) _) ?_;by_cases h0:pY c=0
 .have hv:tI c=vt c.blks:=by unfold tI;rw[if_pos h0]
  rw[hv];simp -dsimp only[aw,jV,jW,jX,jY,jZ,jA,reduceIte,reduceCtorEq,jB,jC,jD,jE,jF,jG,decide_eq_true h0,List.length_map];refine aN [13,14,15] (fun(j:Nat) ρ σ'=>ρ=[(13,.d (.sl (c.blks.map dbk))),(14,aB .i64 c.blks.length),(15,aB .i64 j)]/\σ'=σ++[[.d (ab c.name),.d (ab c.par),.d (.sl (c.flds.map dfl)),.d (.sl (c.blks.map dbk))]]/\vt c.blks=vt (c.blks.drop j)) c.blks.length ⟨rfl,rfl,rfl⟩ ?_ _;rintro j ρ' σ' hj ⟨rfl,rfl,hI⟩;by_cases hlt:j<c.blks.length
  .have wj:=aH hlt (show c.blks.length≤9223372036854775807 by omega);have e1:(c.blks.map dbk)[j]? = some (dbk c.blks[j]):=by rw[List.getElem?_map,List.getElem?_eq_getElem hlt];rfl
   have hm:=Jr (List.getElem_mem hlt);rw[T8 hlt,vt]at hI;have hd:dbk c.blks[j]=[ab c.blks[j].1,fF c.blks[j].2]:=rfl;simp -dsimp only[aw,jV,jW,jX,jY,jZ,jA,reduceIte,reduceCtorEq,jB,jC,jD,jE,jF,jG,Int.ofNat_lt,hlt,decide_true,e1,hd,T4,Uj];refine ae (ji _ (by omega) _) ?_;by_cases h0:cN c.blks[j].2=0
   .rw[if_pos h0]at hI;simp -dsimp only[aw,jV,jW,jX,jY,jZ,jA,reduceIte,reduceCtorEq,jB,jC,jD,jE,jF,jG,h0,decide_true,wj];exact⟨hlt,Nxt.drp1 (by simp) (ax hb rfl) (by simp[aq,V.under]) ⟨rfl,rfl,hI⟩⟩
   .rw[if_neg h0]at hI;rw[hI];simp -dsimp only[aw,jV,jW,jX,jY,jZ,jA,reduceIte,reduceCtorEq,jB,jC,jD,jE,jF,jG,decide_eq_false h0];first|exact av hb rfl rfl|exact au hb rfl rfl
  .rw[T0 (by omega),vt]at hI;rw[hI];simp -dsimp only[aw,jV,jW,jX,jY,jZ,jA,reduceIte,reduceCtorEq,jB,jC,jD,jE,jF,jG,Int.ofNat_lt,hlt,decide_false];first|exact av hb rfl rfl|exact au hb rfl rfl
 .have hv:tI c=pY c:=by unfold tI;rw[if_neg h0]
  rw[hv];simp -dsimp only[aw,jV,jW,jX,jY,jZ,jA,reduceIte,reduceCtorEq,jB,jC,jD,jE,jF,jG,decide_eq_false h0];first|exact av hb rfl rfl|exact au hb rfl rfl
theorem vC{α:Type}{sz:α->Nat}{z:α}{F:List Tok->CP α}(hF:∀ts,Tk sz ts.length ts (F ts))(hz:sz z≤16384)(l:Bs):sz (ft z F l).1≤16384:=by
 unfold ft;split
 .exact hz
 .rename_i hl;cases ht:gG l with
  | err n' e'=>exact hz
  | ok ts=>
   have hl16:=(jv ht).2;have h:=hF ts;simp only;cases hf:F ts with
   | out=>exact hz
   | bad e' n'=>exact hz
   | ok w r=>rw[hf]at h;have:=h.2;simp only[xw];omega
def m5(l:Bs):List It×Int×Int:=
 let r:=ft [] (fun ts=>iS (zLs ts) ts) l
 if r.2.2=0 then(if cN r.1=0 then(r.1,0,0)else([],0,cN r.1))else([],r.2.1,r.2.2)
def jO(l:Bs):Kl×Int×Int:=
 let r:=ft kZ (fun ts=>pz (zLs ts) ts) l
 if r.2.2=0 then(if tI r.1=0 then(r.1,0,0)else(kZ,0,tI r.1))else(kZ,r.2.1,r.2.2)
theorem Ka(ts:List Tok)(H:TsV ts)(i:Nat)(τ:LLV)(hi:τ[i]? = some (pb ts 0)):Fun G 24 [.ptr i 0] τ (CQ my ts i τ (iS (zLs ts) ts)):=by
 refine ai Tryz.func24 k24 rfl fun hb hw=>?_;have S:=St.init hi hb;obtain⟨x,hx⟩:∃x,x=iS (zLs ts) ts:=⟨_,rfl⟩
 rw[<-hx];rw[ic (iS _ _)]at hx;have h:=An (a:=0) H (Um _) (τ++[]) (al hi []);rw[T5]at h;unfold c24;simp -dsimp only[aw,jV,jW,jX,jY,jZ,jA,reduceIte,reduceCtorEq,jB,jC,jD,jE,jF,jG];refine jz (aR S (Um _) (by rw[T5];exact tG _ _) hx h (fun v a2 hx h1 h2 h3 hy σ1 S1 hl1=>?_) (fun e n b hx σ1 S1 hl1=>?_))
 case refine_2=>
  rw[<-hl1];simp -dsimp only[aw,jV,jW,jX,jY,jZ,jA,reduceIte,reduceCtorEq,jB,jC,jD,jE,jF,jG];exact aD S1 hx
 rw[<-hl1];simp -dsimp only[aw,jV,jW,jX,jY,jZ,jA,reduceIte,reduceCtorEq,jB,jC,jD,jE,jF,jG];exact cO S1 h2 hx rfl rfl
theorem KH(ts:List Tok)(H:TsV ts)(i:Nat)(τ:LLV)(hi:τ[i]? = some (pb ts 0)):Fun G 33 [.ptr i 0] τ (CQ vkl ts i τ (pz (zLs ts) ts)):=by
 refine ai Tryz.func33 k33 rfl fun hb hw=>?_;have S:=St.init hi hb;obtain⟨x,hx⟩:∃x,x=pz (zLs ts) ts:=⟨_,rfl⟩
 rw[<-hx];unfold pz at hx;have h:=fun l=>Ae (a:=0) H (Um _) (τ++l) (al hi l);rw[T5]at h;unfold c33;simp -dsimp only[aw,jV,jW,jX,jY,jZ,jA,reduceIte,reduceCtorEq,jB,jC,jD,jE,jF,jG];refine aR S (Um _) (by rw[T5];exact yi _ _) hx (h _) (fun v a2 hx h1 h2 h3 hy σ1 S1 hl1=>?_) (fun e n b hx σ1 S1 hl1=>?_)
 case refine_2=>
  rw[<-hl1];simp -dsimp only[aw,jV,jW,jX,jY,jZ,jA,reduceIte,reduceCtorEq,jB,jC,jD,jE,jF,jG];exact aD S1 hx
 rw[<-hl1];simp -dsimp only[aw,jV,jW,jX,jY,jZ,jA,reduceIte,reduceCtorEq,jB,jC,jD,jE,jF,jG];refine ae (kz ts a2 i _ (al S1.at_ _)) ?_;by_cases hlt:a2<ts.length
 .simp only[isE hlt,TV,if_false]at hx;simp -dsimp only[aw,jV,jW,jX,jY,jZ,jA,reduceIte,reduceCtorEq,jB,jC,jD,jE,jF,jG,decide_eq_true hlt];refine aC (kX ts a2 i H h2 _ (al S1.at_ _)) fun o σ' ⟨e1,e2⟩=>?_;subst e1;subst e2;simp -dsimp only[aw,jV,jW,jX,jY,jZ,jA,reduceIte,reduceCtorEq,jB,jC,jD,jE,jF,jG,bu];exact py S1 hx
 .have hd:ts.drop a2=[]:=T0 (by omega);rw[hd]at hx;simp only[Ud,if_true]at hx;simp -dsimp only[aw,jV,jW,jX,jY,jZ,jA,reduceIte,reduceCtorEq,jB,jC,jD,jE,jF,jG,decide_eq_false hlt];exact cO S1 h2 (by rw[hx,hd]) rfl (by simp[OJ,be,bL,aw,jV,jW,jX,jY,jZ,jA,reduceIte,reduceCtorEq,jB,jC,jD,jE,jF,jG])
theorem nO(l:Bs)(σ:LLV):Fun G 9 [.d (ab (bs l))] σ (aP (fN my (m5 l)) σ):=by
 refine ai Tryz.func9 k9 rfl fun hb hw=>?_;have hP:=Gi (fun ts=>iS (zLs ts) ts) (fun ts=>(tG _ _).ne) 24 l (fun ts H _ i τ hi=>Ka ts H i τ hi) σ;have hsz:=vC (z:=[]) (fun ts=>tG (zLs ts) ts) (by decide) l;unfold c9 m5;generalize ft [] (fun ts=>iS (zLs ts) ts) l=r at *;obtain⟨v,n,e⟩:=r;unfold fN my at *;simp only at hsz hP ⊢;simp -dsimp only[aw,jV,jW,jX,jY,jZ,jA,reduceIte,reduceCtorEq,jB,jC,jD,jE,jF,jG];refine ae hP ?_;by_cases he:e=0
 .have hv:=ji v (by omega);rw[if_pos he];simp -dsimp only[aw,jV,jW,jX,jY,jZ,jA,reduceIte,reduceCtorEq,jB,jC,jD,jE,jF,jG,decide_eq_true he];refine ae (by simpa only[fF]using hv _) ?_;by_cases h0:cN v=0
  .rw[if_pos h0];simp -dsimp only[aw,jV,jW,jX,jY,jZ,jA,reduceIte,reduceCtorEq,jB,jC,jD,jE,jF,jG,decide_eq_true h0];exact aO hb (v:=.tup [.d (.sl (v.map dit)),.d (ac 0),.d (ac 0)]) (by simp[rs9,be,dp,bL,aw,jV,jW,jX,jY,jZ,jA,reduceIte,reduceCtorEq,jB,jC,jD,jE,jF,jG]) rfl TX ⟨rfl,rfl⟩
  .rw[if_neg h0];simp -dsimp only[aw,jV,jW,jX,jY,jZ,jA,reduceIte,reduceCtorEq,jB,jC,jD,jE,jF,jG,decide_eq_false h0];exact aO hb (v:=.tup [.d (.sl []),.d (ac 0),.d (ac (cN v))]) (by simp[rs9,be,dp,bL,aw,jV,jW,jX,jY,jZ,jA,reduceIte,reduceCtorEq,jB,jC,jD,jE,jF,jG]) rfl TX ⟨rfl,rfl⟩
 .rw[if_neg he];simp -dsimp only[aw,jV,jW,jX,jY,jZ,jA,reduceIte,reduceCtorEq,jB,jC,jD,jE,jF,jG,decide_eq_false he];exact aO hb (v:=.tup [.d (.sl []),.d (ac n),.d (ac e)]) (by simp[rs9,be,dp,bL,aw,jV,jW,jX,jY,jZ,jA,reduceIte,reduceCtorEq,jB,jC,jD,jE,jF,jG]) rfl TX ⟨rfl,rfl⟩
theorem lD(l:Bs)(σ:LLV):Fun G 12 [.d (ab (bs l))] σ (aP (fN vkl (jO l)) σ):=by
 refine ai Tryz.func12 k12 rfl fun hb hw=>?_;have hP:=fun σ=>Gf (fun ts=>pz (zLs ts) ts) (fun ts=>(vJ _ _).ne) 33 l (fun ts H _ i τ hi=>KH ts H i τ hi) σ;have hsz:=vC (z:=kZ) (fun ts=>vJ (zLs ts) ts) (by decide) l;unfold c12 jO;generalize ft kZ (fun ts=>pz (zLs ts) ts) l=r at *;obtain⟨v,n,e⟩:=r;unfold fN at *;simp only at hsz hP ⊢;simp -dsimp only[aw,jV,jW,jX,jY,jZ,jA,reduceIte,reduceCtorEq,jB,jC,jD,jE,jF,jG];refine ae (hP _) ?_;have fin:∀(k:Kl) (n e:Int) (x:LLV) ρ,be (σ++x) ρ EL=some (fN vkl (k,n,e))->fin σ.length EL (aP (fN vkl (k,n,e)) σ) .ret ρ (σ++x):=fun k n e x ρ h=>aO hb h rfl TY ⟨rfl,rfl⟩;by_cases he:e=0
 .have hv:=AK v (by omega);generalize tI v=y at *;rw[if_pos he];simp -dsimp only[aw,jV,jW,jX,jY,jZ,jA,reduceIte,reduceCtorEq,jB,jC,jD,jE,jF,jG,decide_eq_true he];refine ae (hv _) ?_;by_cases h0:y=0
  .rw[if_pos h0];simp -dsimp only[aw,jV,jW,jX,jY,jZ,jA,reduceIte,reduceCtorEq,jB,jC,jD,jE,jF,jG,decide_eq_true h0];exact fin v 0 0 _ _ (by simp[fN,EL,be,dp,bL,aw,jV,jW,jX,jY,jZ,jA,reduceIte,reduceCtorEq,jB,jC,jD,jE,jF,jG])
  .rw[if_neg h0];simp -dsimp only[aw,jV,jW,jX,jY,jZ,jA,reduceIte,reduceCtorEq,jB,jC,jD,jE,jF,jG,decide_eq_false h0];exact fin kZ 0 y _ _ (by simp[fN,kZ,EL,be,dp,bL,aw,jV,jW,jX,jY,jZ,jA,reduceIte,reduceCtorEq,jB,jC,jD,jE,jF,jG])
 .rw[if_neg he];simp -dsimp only[aw,jV,jW,jX,jY,jZ,jA,reduceIte,reduceCtorEq,jB,jC,jD,jE,jF,jG,decide_eq_false he];exact fin kZ n e _ _ (by simp[fN,kZ,EL,be,dp,bL,aw,jV,jW,jX,jY,jZ,jA,reduceIte,reduceCtorEq,jB,jC,jD,jE,jF,jG])
def EH(t:Tok):Prop:=t=tm (aa 40)\/t=tm (aa 33)\/t=tm (aa 126)\/t=tm (aa 45)\/(∃s,t=tn s)\/∃n,t=td n
def lF:List ByteArray:=[jU,jQ,ifW,gj,iQ,gH]
theorem Gl{t:Tok}(h:EH t){w:ByteArray}(hw:w∈lF)(q:List Tok):acc w (t::q)=none/\acc (aa 125) (t::q)=none:=by
 have hd:∀w,w∈lF->aa 40≠w/\aa 33≠w/\aa 126≠w/\aa 45≠w:=by decide +kernel
 obtain⟨h1,h2,h3,h4⟩:=hd w hw;rcases h with rfl|rfl|rfl|rfl|⟨s,rfl⟩|⟨n,rfl⟩
 .exact⟨ch h1,ch (by decide +kernel)⟩
 .exact⟨ch h2,ch (by decide +kernel)⟩
 .exact⟨ch h3,ch (by decide +kernel)⟩
 .exact⟨ch h4,ch (by decide +kernel)⟩
 .exact⟨ki _ _ _,ki _ _ _⟩
 .exact⟨pS _ _ _,pS _ _ _⟩
theorem p9{k:Nat}{x:Int×List Tok}{q:List Tok}(h:∃t p,x.2=t::p/\EH t):∃t p,fj k x++q=t::p/\EH t:=by
 unfold fj;split
 .exact⟨_,_,rfl,.inl rfl⟩
 .obtain⟨t,p,e,h⟩:=h;exact⟨t,p++q,by rw[e];rfl,h⟩
theorem ue(e:Ex)(he:dj e=0):∃t q,aW e=t::q/\EH t:=by
 have H:∀n (e:Ex),aX e≤n->dj e=0->∃t q,aW e=t::q/\EH t:=by
  intro n
  induction n with
  | zero=>intro e h;have:=LV e;omega
  | succ n ih=>
   intro e hn he;have hsh:=Fv he;cases hsh with
   | const m h0 h1=>exact⟨_,_,rfl,.inr (.inr (.inr (.inr (.inr ⟨m,rfl⟩))))⟩
   | var s h=>
    show ∃t q,lN s=t::q/\EH t;unfold lN;split<;>exact⟨_,_,rfl,.inr (.inr (.inr (.inr (.inl ⟨_,rfl⟩))))⟩
   | elem s x h hx=>exact⟨_,_,rfl,.inr (.inr (.inr (.inr (.inl ⟨_,rfl⟩))))⟩
   | sum s h=>exact⟨_,_,rfl,.inr (.inr (.inr (.inr (.inl ⟨_,rfl⟩))))⟩
   | ones x hx=>exact⟨_,_,rfl,.inr (.inr (.inr (.inr (.inl ⟨_,rfl⟩))))⟩
   | pre o x h hx=>
    rcases h with rfl|rfl|rfl
    .exact⟨_,_,rfl,.inr (.inl rfl)⟩
    .exact⟨_,_,rfl,.inr (.inr (.inl rfl))⟩
    .exact⟨_,_,rfl,.inr (.inr (.inr (.inl rfl)))⟩
   | bin o m k x y h hx hy=>
    have e1:aW (.mk o 0 ⟨#[]⟩ [x,y])=fj (if k=2 then 3 else k) (x.op,aW x)++tm m::fj (if k=2 then 2 else k+1) (y.op,aW y):=by
     rw[aW];unfold kW;rw[h];rfl
    rw[e1];refine p9 (ih x ?_ hx);simp only[aX,bo]at hn;omega
   | ite x y z hx hy hz=>
    refine p9 (k:=2) (x:=(x.op,aW x)) (ih x ?_ hx);simp only[aX,bo]at hn;omega
   | inside x l hx hl hev hne h32=>
    refine p9 (k:=9) (x:=(x.op,aW x)) (ih x ?_ hx);simp only[aX,bo]at hn;omega
 exact H _ e (Ul _) he
theorem uG{z:Int}{e:Ex}(he:bz e=0)(hr:dj e=0){r:List Tok}(hs:Stop 1 r){α:Type}(k:Ex->List Tok->CP α):exC z (aW e++r) k=k e r:=by
 have h:=ND (AL hr) r hs;unfold exC;rw[show par .W (aW e++r)=.ok e r from h];simp only[he,if_true]
theorem Cw(r:List Tok):Stop 1 (tm (aa 59)::r):=
 mE r (fun _=>by decide +kernel) (fun _=>by decide +kernel) (by decide +kernel) (fun _=>by decide +kernel) (by decide +kernel)
def nd:ByteArray:=⟨#[98,101,102,111,114,101]⟩
def iK(s:ByteArray):List Tok:=if fc s=true then[tn (ff s 91),tm (aa 91),td (ci s),tm (aa 93)]else[tn s]
def jT:List (List Tok)->List Tok
 | []=>[]
 | a::r=>a++r.flatMap fun b=>tm (aa 44)::b
def yB(w:Wt):List Tok:=td w.lo::((if w.hi=w.lo then[]else[tm (aE 46 46),td w.hi])++[tm (if w.each=true then aE 58 61 else aE 58 47),td w.w])
mutual
def gX:It->List Tok
 | .mk k e nm ix ws l m bf af=>
  if k=1 then aW e++[tm (aa 59)]
  else if k=2 then tw jU::(aW e++[tm (aa 59)])
  else if k=3 then tw jQ::(iK nm++tm (aa 123)::(jT (ws.map yB)++[tm (aa 125),tm (aa 59)]))
  else if k=4 then tw ifW::tm (aa 40)::(aW e++tm (aa 41)::tm (aa 123)::(df l++tm (aa 125)::(if m.isEmpty=true then[]else tw gj::tm (aa 123)::(df m++[tm (aa 125)]))))
  else if k=5 then tw iQ::tn ix::tw inW::tn nm::tm (aa 123)::(df l++[tm (aa 125)])
  else tw gH::(jT (bf.map iK)++tw nd::(jT (af.map iK)++[tm (aa 59)]))
def df:List It->List Tok
 | []=>[]
 | x::r=>gX x++df r
end
theorem kQ:∀m,m∈[aa 40,aa 41,aa 123,aa 125,aa 91,aa 93,aa 58,aE 46 46,aa 44,aa 59,aa 61,aE 58 61,aE 58 47]->bq (tm m)=true:=by decide +kernel
theorem qx:∀m,m∈[jU,jQ,ifW,gj,iQ,inW,gH,nd,pi,lj,lv,kh,iF,bS]->bq (tw m)=true:=by decide +kernel
section
variable {z : Int} {α : Type}
theorem cS{m:ByteArray}(h:bq (tm m)=true){r:List Tok}(k:List Tok->CP α):bO z m (tm m::r) k=k r:=by unfold bO;rw[dk h]
theorem vH{m:ByteArray}(h:bq (tw m)=true){r:List Tok}(k:List Tok->CP α):bO z m (tw m::r) k=k r:=by unfold bO;rw[od h]
theorem sO{m:ByteArray}(h:bq (tm m)=true){r:List Tok}(k:List Tok->CP α)(n:CP α):eC m (tm m::r) k n=k r:=by unfold eC;rw[dk h]
theorem nQ{m:ByteArray}(h:bq (tw m)=true){r:List Tok}(k:List Tok->CP α)(n:CP α):eC m (tw m::r) k n=k r:=by unfold eC;rw[od h]
theorem dB{m:ByteArray}{r:List Tok}(h:acc m r=none)(k:List Tok->CP α)(n:CP α):eC m r k n=n:=by unfold eC;rw[h]
theorem j5{s:ByteArray}(h:aS s=true){r:List Tok}(k:ByteArray->List Tok->CP α):dP z (tn s::r) k=k s r:=by unfold dP;rw[jL h]
theorem mA{n:Int}(h0:0≤n)(h1:n≤65535){r:List Tok}(k:Int->List Tok->CP α):gq z (td n::r) k=k n r:=by unfold gq;rw[vg h0 h1]
theorem kH{m m':ByteArray}(h:m≠m')(r:List Tok):acc m' (tm m::r)=none:=ch h
theorem pg{m m':ByteArray}(h:m≠m')(r:List Tok):acc m' (tw m::r)=none:=ch h
end
theorem mw{z:Int}{s:ByteArray}(h:bv s=true){r:List Tok}(hr:acc (aa 91) r=none):fT z (iK s++r)=.ok s r:=by
 unfold iK fT;by_cases he:fc s=true
 .obtain⟨h1,h2,h3,h4⟩:=dX he;rw[if_pos he];simp only[TZ,T3];rw[j5 h1,sO (by decide +kernel),mA h2 (by omega),cS (by decide +kernel),h4]
 .rw[if_neg he];have hn:aS s=true:=by unfold bv at h;simpa[he]using h
  simp only[TZ,T3];rw[j5 hn,dB hr]
theorem qF{z:Int}{w:Wt}(h:wtB w=true)(r:List Tok):gM z (yB w++r)=.ok w r:=by
 unfold wtB at h;simp only[TU,decide_eq_true_eq]at h;obtain⟨⟨⟨⟨h1,h2⟩,h3⟩,h4⟩,h5⟩:=h;obtain⟨lo,hi,n,b⟩:=w;simp only at h1 h2 h3 h4 h5;unfold yB gM;simp only[TZ];rw[mA h1 (by omega)]
 have fin:∀b:Bool,((eC (aE 58 61) (tm (if b=true then aE 58 61 else aE 58 47)::td n::r) (fun r3=>.ok true r3) (bO z (aE 58 47) (tm (if b=true then aE 58 61 else aE 58 47)::td n::r) fun r3=>.ok false r3):CP Bool).bind fun b r3=>gq z r3 fun w r4=>CP.ok (⟨lo,hi,w,b⟩:Wt) r4)=.ok ⟨lo,hi,n,b⟩ r:=by
  intro b;cases b with
  | true=>
   rw[if_pos rfl,sO (by decide +kernel)];simp only[CP.bind];rw[mA h4 (by omega)]
  | false=>
   rw[if_neg (by decide),dB (kH (by decide +kernel) _),cS (by decide +kernel)];simp only[CP.bind];rw[mA h4 (by omega)]
 by_cases e:hi=lo
 .subst e;rw[if_pos rfl];simp only[T3,TZ];have hn:∀b:Bool,(if b=true then aE 58 61 else aE 58 47)≠aE 46 46:=by decide +kernel
  rw[dB (kH (hn b) _)];exact fin b
 .rw[if_neg e];simp only[T3,TZ];rw[sO (by decide +kernel),mA (by omega) h3];exact fin b
theorem nR{α:Type}{p:List Tok->CP α}{tk:α->List Tok}(H:∀r,Tk gS r.length r (p r)){Q:List Tok->Prop}(hc:∀q,Q (tm (aa 44)::q)){r:List Tok}(hQ:Q r)(hr:acc (aa 44) r=none):
 ∀(l l0:List α),(∀x,x∈l->∀q,Q q->p (tk x++q)=.ok x q)->db (fun l r=>(acc (aa 44) r).map fun r2=>(p r2).bind fun s r3=>.ok (l++[s]) r3) l0 ((l.flatMap fun x=>tm (aa 44)::tk x)++r)=.ok (l0++l) r
 | [],l0,_=>by
  rw[fr (ja H).eats];simp only[List.flatMap_nil,T3,Uf,hr,Ut]
 | x::l,l0,h=>by
  rw[fr (ja H).eats]
  have hq:Q ((l.flatMap fun x=>tm (aa 44)::tk x)++r):=by
   cases l with
   | nil=>exact hQ
   | cons y l=>exact hc _
  simp only[List.flatMap_cons,TZ,T6,dk (kQ (aa 44) (by simp)),Us];rw[h x (by simp) _ hq];show db _ (l0++[x]) _=_;rw[nR H hc hQ hr l (l0++[x]) fun y hy=>h y (by simp[hy])];simp
theorem Bt{α:Type}(tk:α->List Tok)(x:α)(l:List α):jT ((x::l).map tk)=tk x++l.flatMap fun x=>tm (aa 44)::tk x:=by
 rw[T4,jT,List.flatMap_map]
theorem pf{z:Int}{l:List ByteArray}(hne:l≠[])(h:∀s,s∈l->bv s=true){r:List Tok}(h1:acc (aa 91) r=none)(h2:acc (aa 44) r=none):fR z (jT (l.map iK)++r)=.ok l r:=by
 cases l with
 | nil=>exact absurd rfl hne
 | cons x l=>
  rw[Bt,T6];unfold fR
  rw[mw (h x (by simp)) (by
   cases l with
   | nil=>exact h1
   | cons y l=>exact kH (by decide +kernel) _)]
  exact nR (gn z) (Q:=fun q=>acc (aa 91) q=none) (fun q=>kH (by decide +kernel) _) h1 h2 l [x] fun y hy q hq=>mw (h y (by simp[hy])) hq
theorem vB{z:Int}{l:List Wt}(hne:l≠[])(h:∀s,s∈l->wtB s=true){r:List Tok}(h2:acc (aa 44) r=none):jy z (jT (l.map yB)++r)=.ok l r:=by
 cases l with
 | nil=>exact absurd rfl hne
 | cons x l=>
  rw[Bt,T6];unfold jy;rw[qF (h x (by simp))];exact nR (jh z) (Q:=fun _=>True) (fun q=>trivial) trivial h2 l [x] fun y hy q _=>qF (h y (by simp[hy])) q
end Go.Proofs.YtnhphlmblenapaaGreatDoor
