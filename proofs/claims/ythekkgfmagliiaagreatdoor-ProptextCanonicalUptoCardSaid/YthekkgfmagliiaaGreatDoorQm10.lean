import Derived.Test.YthekkgfmagliiaaGreatDoorQm5
set_option maxHeartbeats 4000000
set_option linter.unusedVariables false
set_option linter.unusedSimpArgs false
set_option linter.unusedSectionVars false
open List renaming take_left->Rs,map_cons->Ru,getElem?_set_ne->Rv,take_length->Rw,take_of_length_le->Rx,length_set->Ry,append_nil->Rz,set_getElem_self->RA,getElem?_eq_getElem->RB,map_append->RC,length_map->RD,map_nil->RE
open Nat renaming le_refl->RF,zero_le->RG
namespace Go.Proofs.YthekkgfmagliiaaGreatDoor
open Go.RowKit
open Nat renaming reduceLeDiff -> jA, reduceBEq -> jB, reduceLT -> jC, reduceEqDiff -> jD, reduceAdd -> jE, reduceSub -> jF, reduceMul -> jG
open V renaming copy -> jV, lend -> jW, lend1 -> jX, cells -> jY, boxable -> jZ
abbrev Z9:List V:=[.d (ab 0),.d (ab 0),.d (ab 0),.d (ab 0),.d (ab 0),.d (ae ⟨#[]⟩),.nil,.d (ae ⟨#[]⟩),.nil]
theorem Ck(ts:List Tok)(i n:Nat)(H:TsV ts)(hS:jj ts i n .S 32)(a:Nat)(L:Int)(ha:a≤ts.length)(hn:aD ts .U a≤n+1)(σ:LLV)(hi:σ[i]? = some (pq ts a L)):
 Fun G 198 [.ptr i 0] σ (QC vts ts i σ (ff ts (n+1) .U a L)):=by
 refine ai Tryz.func198 Ph rfl fun hb hw=>?_;have S:=Pst.init hi hb;have hL:=H.ok.len;obtain⟨y,hy⟩:∃y,y=ff ts (n+1) .U a L:=⟨_,rfl⟩
 rw[<-hy];have hy:y=ft ts (ff ts n) .U a L:=hy;simp only[ft]at hy;unfold O8;simp -dsimp only[aw,jV,jW,jX,jY,jZ,jA,reduceIte,reduceCtorEq,jB,jC,jD,jE,jF,jG];refine jv H (m:=aa 123) S (by omega) (fun hs1 ha1 σ1 S1 hl1=>?_) (fun hs1=>?_)
 .rw[hs1,if_pos rfl,mD]at hy;rw[<-hl1];simp -dsimp only[aw,jV,jW,jX,jY,jZ,jA,reduceIte,reduceCtorEq,jB,jC,jD,jE,jF,jG];refine eT S1 qg (oB ts (a+1) i L H ha1 _ (ar S1.at_ _)) (fun e a3 L3 hs3 σ3 S3 hl3=>?_) (fun l' e b L3 hs3 σ3 S3 hl3=>?_)
  case refine_2=>
   rw[hs3]at hy;rw[<-hl3];simp -dsimp only[aw,jV,jW,jX,jY,jZ,jA,reduceIte,reduceCtorEq,jB,jC,jD,jE,jF,jG];exact dp S3 hy
  rw[hs3]at hy;have hb3:=qL ha1 hs3;have hy:y=cw ts (aa 125) a3 fun a4=>.ok (.mk 1 0 0 e ⟨#[]⟩ []) a4 L3:=hy;rw[<-hl3];simp -dsimp only[aw,jV,jW,jX,jY,jZ,jA,reduceIte,reduceCtorEq,jB,jC,jD,jE,jF,jG,ak];refine e8 H (m:=aa 125) S3 (by omega) (fun hs4 ha4 σ4 S4 hl4=>?_) (fun hs4 σ4 S4 hl4=>?_)
  case refine_2=>
   rw[dr hs4]at hy;rw[<-hl4];simp -dsimp only[aw,jV,jW,jX,jY,jZ,jA,reduceIte,reduceCtorEq,jB,jC,jD,jE,jF,jG];exact cC S4 hy
  rw[df hs4]at hy;rw[<-hl4];simp -dsimp only[aw,jV,jW,jX,jY,jZ,jA,reduceIte,reduceCtorEq,jB,jC,jD,jE,jF,jG];refine et S4 hy (by rw[am];rfl) ?_;rw[am];simp[AP,aU,bq,Ts.op,Ts.lo,Ts.hi,Ts.ex,Ts.name,Ts.args,aw,jV,jW,jX,jY,jZ,jA,reduceIte,reduceCtorEq,jB,jC,jD,jE,jF,jG]
 rw[hs1,if_neg (by decide)]at hy;simp -dsimp only[aw,jV,jW,jX,jY,jZ,jA,reduceIte,reduceCtorEq,jB,jC,jD,jE,jF,jG];refine e8 H (m:=aa 40) S (by omega) (fun hs2 ha2 σ2 S2 hl2=>?_) (fun hs2 σ2 S2 hl2=>?_)
 case refine_2=>
  rw[dr hs2]at hy;rw[<-hl2];simp -dsimp only[aw,jV,jW,jX,jY,jZ,jA,reduceIte,reduceCtorEq,jB,jC,jD,jE,jF,jG];exact cC S2 hy
 rw[df hs2]at hy;rw[<-hl2];simp -dsimp only[aw,jV,jW,jX,jY,jZ,jA,reduceIte,reduceCtorEq,jB,jC,jD,jE,jF,jG];have hns:aD ts .S (a+1)≤n:=by simp only[aD,QK.cost]at *;omega
 have gS:=fp n .S (a+1) L ha2 hns;refine eT S2 gS.ne (hS (a+1) L ha2 hns _ (ar S2.at_ _)) (fun s a3 L3 hs3 σ3 S3 hl3=>?_) (fun l' e b L3 hs3 σ3 S3 hl3=>?_)
 case refine_2=>
  rw[hs3]at hy;rw[<-hl3];simp -dsimp only[aw,jV,jW,jX,jY,jZ,jA,reduceIte,reduceCtorEq,jB,jC,jD,jE,jF,jG];exact dp S3 hy
 rw[hs3]at hy;have g3:=gS.ok s a3 L3 hs3
 have hy:y=if aH (aa 44) ts a3=true then kM ts (a3+1) fun n a4=>cw ts (aa 61) a4 fun a5=>hZ ts a5 L3 fun e a6 L6=>cw ts (aa 41) a6 fun a7=>.ok (.mk 6 0 0 e n [s]) a7 L6
  else cw ts (aa 41) a3 fun a4=>.ok s a4 L3:=hy
 rw[<-hl3];simp -dsimp only[aw,jV,jW,jX,jY,jZ,jA,reduceIte,reduceCtorEq,jB,jC,jD,jE,jF,jG,am];refine jv H (m:=aa 44) S3 (by omega) (fun hs4 ha4 σ4 S4 hl4=>?_) (fun hs4=>?_)
 case refine_2=>
  rw[hs4,if_neg (by decide)]at hy;simp -dsimp only[aw,jV,jW,jX,jY,jZ,jA,reduceIte,reduceCtorEq,jB,jC,jD,jE,jF,jG];refine e8 H (m:=aa 41) S3 (by omega) (fun hs5 ha5 σ5 S5 hl5=>?_) (fun hs5 σ5 S5 hl5=>?_)
  case refine_2=>
   rw[dr hs5]at hy;rw[<-hl5];simp -dsimp only[aw,jV,jW,jX,jY,jZ,jA,reduceIte,reduceCtorEq,jB,jC,jD,jE,jF,jG];exact cC S5 hy
  rw[df hs5]at hy;rw[<-hl5];simp -dsimp only[aw,jV,jW,jX,jY,jZ,jA,reduceIte,reduceCtorEq,jB,jC,jD,jE,jF,jG];refine et S5 hy (by rw[am];rfl) ?_;rw[am];simp[AP,aU,bq,aw,jV,jW,jX,jY,jZ,jA,reduceIte,reduceCtorEq,jB,jC,jD,jE,jF,jG]
 rw[hs4,if_pos rfl]at hy;rw[<-hl4];simp -dsimp only[aw,jV,jW,jX,jY,jZ,jA,reduceIte,reduceCtorEq,jB,jC,jD,jE,jF,jG];refine Ku H S4 (by omega) (fun t hn5 ha5 σ5 S5 hl5=>⟨?_,?_⟩) (fun hn5=>?_) (fun hn5=>?_)
 .simp -dsimp only[aw,jV,jW,jX,jY,jZ,jA,reduceIte,reduceCtorEq,jB,jC,jD,jE,jF,jG]
 .rw[AO hn5]at hy;rw[<-hl5];simp -dsimp only[aw,jV,jW,jX,jY,jZ,jA,reduceIte,reduceCtorEq,jB,jC,jD,jE,jF,jG,eN];refine bQ ?_ ?_
  .simp -dsimp only[aw,jV,jW,jX,jY,jZ,jA,reduceIte,reduceCtorEq,jB,jC,jD,jE,jF,jG,hl5]
  simp -dsimp only[aw,jV,jW,jX,jY,jZ,jA,reduceIte,reduceCtorEq,jB,jC,jD,jE,jF,jG];refine e8 H (m:=aa 61) S5 (by omega) (fun hs6 ha6 σ6 S6 hl6=>?_) (fun hs6 σ6 S6 hl6=>?_)
  case refine_2=>
   rw[dr hs6]at hy;rw[<-hl6];simp -dsimp only[aw,jV,jW,jX,jY,jZ,jA,reduceIte,reduceCtorEq,jB,jC,jD,jE,jF,jG];exact cC S6 hy
  rw[df hs6,mD]at hy;rw[<-hl6];simp -dsimp only[aw,jV,jW,jX,jY,jZ,jA,reduceIte,reduceCtorEq,jB,jC,jD,jE,jF,jG];refine eT S6 qg (oB ts (a3+1+1+1) i L3 H ha6 _ (ar S6.at_ _)) (fun e a7 L7 hs7 σ7 S7 hl7=>?_) (fun l' e b L7 hs7 σ7 S7 hl7=>?_)
  case refine_2=>
   rw[hs7]at hy;rw[<-hl7];simp -dsimp only[aw,jV,jW,jX,jY,jZ,jA,reduceIte,reduceCtorEq,jB,jC,jD,jE,jF,jG];exact dp S7 hy
  rw[hs7]at hy;have hb7:=qL ha6 hs7;have hy:y=cw ts (aa 41) a7 fun a8=>.ok (.mk 6 0 0 e t.text [s]) a8 L7:=hy;rw[<-hl7];simp -dsimp only[aw,jV,jW,jX,jY,jZ,jA,reduceIte,reduceCtorEq,jB,jC,jD,jE,jF,jG,ak];refine e8 H (m:=aa 41) S7 (by omega) (fun hs8 ha8 σ8 S8 hl8=>?_) (fun hs8 σ8 S8 hl8=>?_)
  case refine_2=>
   rw[dr hs8]at hy;rw[<-hl8];simp -dsimp only[aw,jV,jW,jX,jY,jZ,jA,reduceIte,reduceCtorEq,jB,jC,jD,jE,jF,jG];exact cC S8 hy
  rw[df hs8]at hy;rw[<-hl8];simp -dsimp only[aw,jV,jW,jX,jY,jZ,jA,reduceIte,reduceCtorEq,jB,jC,jD,jE,jF,jG];refine et S8 hy (by rw[am];rfl) ?_;rw[am];simp[AP,aU,bq,bY,Ts.op,Ts.lo,Ts.hi,Ts.ex,Ts.name,Ts.args,aw,jV,jW,jX,jY,jZ,jA,reduceIte,reduceCtorEq,jB,jC,jD,jE,jF,jG]
 .rw[Al hn5]at hy;intro ρ2;simp -dsimp only[aw,jV,jW,jX,jY,jZ,jA,reduceIte,reduceCtorEq,jB,jC,jD,jE,jF,jG];exact cC S4 hy
 .simp -dsimp only[aw,jV,jW,jX,jY,jZ,jA,reduceIte,reduceCtorEq,jB,jC,jD,jE,jF,jG,ap,OP.w1]
theorem yd(ts:List Tok)(i n:Nat)(H:TsV ts)(hH:∀m,m≤n->jj ts i m .H 138)(a:Nat)(L:Int)(ha:a≤ts.length)(hn:aD ts .D a≤n+1)(σ:LLV)(hi:σ[i]? = some (pq ts a L)):
 Fun G 100 [.ptr i 0] σ (QC vts ts i σ (ff ts (n+1) .D a L)):=by
 refine ai Tryz.func100 PV rfl fun hb hw=>?_;have S:=Pst.init hi hb;have hL:=H.ok.len;obtain⟨y,hy⟩:∃y,y=ff ts (n+1) .D a L:=⟨_,rfl⟩
 rw[<-hy];have hy:y=(ff ts n .H a L).bind fun s a1 L1=>ff ts n (.Dp s) a1 L1:=hy;have hnu:aD ts .H a≤n:=by simp only[aD,QK.cost]at *;omega
 have gU:=fp n .H a L ha hnu;unfold E6;simp -dsimp only[aw,jV,jW,jX,jY,jZ,jA,reduceIte,reduceCtorEq,jB,jC,jD,jE,jF,jG];refine eT S gU.ne (hH n (RF _) a L ha hnu _ (ar S.at_ _)) (fun s a1 L1 hs σ1 S1 hl1=>?_) (fun l' e b L2 hs σ1 S1 hl1=>?_)
 case refine_2=>
  rw[hs]at hy;rw[<-hl1];simp -dsimp only[aw,jV,jW,jX,jY,jZ,jA,reduceIte,reduceCtorEq,jB,jC,jD,jE,jF,jG];exact dp S1 hy
 rw[hs]at hy;have g1:=gU.ok s a1 L1 hs;simp only[QK.eats]at g1;rw[<-hl1];simp -dsimp only[aw,jV,jW,jX,jY,jZ,jA,reduceIte,reduceCtorEq,jB,jC,jD,jE,jF,jG,am]
 refine bj [0,2,3] (R:=fun(j:Nat) ρ σ'=>∃(m a1:Nat) (L1:Int) (s:Ts) (q:V) (σ2:LLV),ρ=[(0,.ptr i 0),(2,.ptr σ1.length 0),(3,.ptr (σ1.length+1) 0)]/\σ'=σ2++[Z9,tsC q s]/\TsQ q s/\Pst σ i ts a1 L1 σ2/\σ2.length=σ1.length/\a+1+j≤a1/\a1≤ts.length/\aD ts (.Dp s) a1≤m/\m≤n/\y=ff ts m (.Dp s) a1 L1) (ts.length-a)
  ⟨n,a1,L1,s,_,σ1,rfl,rfl,.inl rfl,S1,rfl,by omega,g1.2,by simp only[aD,QK.cost]at *;omega,RF _,hy⟩ ?_ _
 rintro j ρ' σ' hj ⟨m,a1,L1,s,q,σ2,rfl,rfl,hq,S2,hl2,h1,h2,h3,h4,hy⟩;obtain⟨m,rfl⟩:∃m',m=m'+1:=⟨m-1,by simp only[aD,QK.cost]at h3;omega⟩
 have hy:y=ft ts (ff ts m) (.Dp s) a1 L1:=hy;simp only[ft]at hy;have h1lt:=S2.lt;rw[<-hl2];unfold tsC;simp -dsimp only[aw,jV,jW,jX,jY,jZ,jA,reduceIte,reduceCtorEq,jB,jC,jD,jE,jF,jG];refine jv H (m:=aF 35 35) S2 (by omega) (fun hs3 ha3 σ3 S3 hl3=>?_) (fun hs3=>?_)
 case refine_2=>
  rw[hs3,if_neg (by decide)]at hy;rcases hq with rfl|⟨rfl,hq⟩
  .simp -dsimp only[aw,jV,jW,jX,jY,jZ,jA,reduceIte,reduceCtorEq,jB,jC,jD,jE,jF,jG];refine et S2 hy (by rw[am];rfl) ?_;rw[am];simp[Ey,aU,bq,aw,jV,jW,jX,jY,jZ,jA,reduceIte,reduceCtorEq,jB,jC,jD,jE,jF,jG]
  .simp -dsimp only[aw,jV,jW,jX,jY,jZ,jA,reduceIte,reduceCtorEq,jB,jC,jD,jE,jF,jG];refine et S2 hy (by rw[am];rfl) ?_;rw[am,hq];simp[Ey,aU,bq,aw,jV,jW,jX,jY,jZ,jA,reduceIte,reduceCtorEq,jB,jC,jD,jE,jF,jG]
 rw[hs3,if_pos rfl]at hy;rw[<-hl3];simp -dsimp only[aw,jV,jW,jX,jY,jZ,jA,reduceIte,reduceCtorEq,jB,jC,jD,jE,jF,jG];refine jv H (m:=aa 91) S3 (by omega) (fun hs4 ha4 σ4 S4 hl4=>?_) (fun hs4=>?_)
 .rw[hs4,if_pos rfl]at hy;rw[<-hl4];simp -dsimp only[aw,jV,jW,jX,jY,jZ,jA,reduceIte,reduceCtorEq,jB,jC,jD,jE,jF,jG];refine Ba H S4 (by omega) (fun t hn5 ha5 σ5 S5 hl5=>?_) (fun hn5=>?_)
  case refine_2=>
   rw[qM hn5]at hy;simp -dsimp only[aw,jV,jW,jX,jY,jZ,jA,reduceIte,reduceCtorEq,jB,jC,jD,jE,jF,jG];exact cC S4 hy
  rw[qy hn5]at hy;rw[<-hl5];simp -dsimp only[aw,jV,jW,jX,jY,jZ,jA,reduceIte,reduceCtorEq,jB,jC,jD,jE,jF,jG,eN];refine e8 H (m:=aa 58) S5 (by omega) (fun hs6 ha6 σ6 S6 hl6=>?_) (fun hs6 σ6 S6 hl6=>?_)
  case refine_2=>
   rw[dr hs6]at hy;rw[<-hl6];simp -dsimp only[aw,jV,jW,jX,jY,jZ,jA,reduceIte,reduceCtorEq,jB,jC,jD,jE,jF,jG];exact cC S6 hy
  rw[df hs6]at hy;rw[<-hl6];simp -dsimp only[aw,jV,jW,jX,jY,jZ,jA,reduceIte,reduceCtorEq,jB,jC,jD,jE,jF,jG];refine Ba H S6 (by omega) (fun t2 hn7 ha7 σ7 S7 hl7=>?_) (fun hn7=>?_)
  case refine_2=>
   rw[qM hn7]at hy;simp -dsimp only[aw,jV,jW,jX,jY,jZ,jA,reduceIte,reduceCtorEq,jB,jC,jD,jE,jF,jG];exact cC S6 hy
  rw[qy hn7]at hy;rw[<-hl7];simp -dsimp only[aw,jV,jW,jX,jY,jZ,jA,reduceIte,reduceCtorEq,jB,jC,jD,jE,jF,jG,eN];refine e8 H (m:=aa 93) S7 (by omega) (fun hs8 ha8 σ8 S8 hl8=>?_) (fun hs8 σ8 S8 hl8=>?_)
  case refine_2=>
   rw[dr hs8]at hy;rw[<-hl8];simp -dsimp only[aw,jV,jW,jX,jY,jZ,jA,reduceIte,reduceCtorEq,jB,jC,jD,jE,jF,jG];exact cC S8 hy
  rw[df hs8]at hy;obtain⟨b,hbe⟩:∃b,b=a1+1+1+1+1+1+1:=⟨_,rfl⟩
  have hb1:a1+2≤b:=by omega
  have hb2:b≤ts.length:=by omega
  have hlx:σ8.length=σ3.length:=by rw[hl8,hl7,hl6,hl5,hl4]
  rw[show a1+1+1+1+1+1+1=b from hbe.symm]at hy S8;rw[<-hl8];generalize t.num=lo at *;generalize t2.num=hi2 at *;have S9:=S8;generalize σ8=σ9 at *;have hnh:aD ts .H b≤m:=by simp only[aD,QK.cost]at *;omega
  have gH:=fp m .H b L1 hb2 hnh;rcases hq with rfl|⟨rfl,hq⟩
  .simp -dsimp only[aw,jV,jW,jX,jY,jZ,jA,reduceIte,reduceCtorEq,jB,jC,jD,jE,jF,jG];refine qC S9 gH.ne (hH m (by omega) b L1 hb2 hnh _ (ar S9.at_ _)) (fun t3 a10 L10 hs10 σ10 S10 hl10=>⟨?_,?_⟩) (fun l' e b' L10 hs10 σ10 S10 hl10=>?_)
   .rw[<-hl10];simp -dsimp only[aw,jV,jW,jX,jY,jZ,jA,reduceIte,reduceCtorEq,jB,jC,jD,jE,jF,jG]
   .have hy:=hy.trans (congrArg (fun x=>QF.bind x _) hs10);have g10:=gH.ok t3 a10 L10 hs10;simp only[QK.eats]at g10;have hN:aD ts (.Dp (nT 2 lo hi2 [s,t3])) a10≤m:=by simp only[aD,QK.cost]at *;omega
    rw[<-hl10];simp -dsimp only[aw,jV,jW,jX,jY,jZ,jA,reduceIte,reduceCtorEq,jB,jC,jD,jE,jF,jG,am];refine⟨by omega,Nxt.to (σ10++[Z9,tsC .nil (nT 2 lo hi2 [s,t3])]) [tsC .nil (nT 2 lo hi2 [s,t3])] (by simp[oi,bY]) (by simp) (aE S10.bb rfl) ?_ ⟨m,a10,L10,_,_,σ10,?_,rfl,tI _ _ _ _,S10,by omega,by omega,g10.2,hN,by omega,hy⟩⟩
    .have:=S10.lt;simp[ao,V.under,S10.len];omega
    .rw[hl10,hlx,hl3,hl2]
   .have hy:=hy.trans (congrArg (fun x=>QF.bind x _) hs10);intro ρ2;rw[<-hl10];simp -dsimp only[aw,jV,jW,jX,jY,jZ,jA,reduceIte,reduceCtorEq,jB,jC,jD,jE,jF,jG];exact dp S10 hy
  .simp -dsimp only[aw,jV,jW,jX,jY,jZ,jA,reduceIte,reduceCtorEq,jB,jC,jD,jE,jF,jG];refine qC S9 gH.ne (hH m (by omega) b L1 hb2 hnh _ (ar S9.at_ _)) (fun t3 a10 L10 hs10 σ10 S10 hl10=>⟨?_,?_⟩) (fun l' e b' L10 hs10 σ10 S10 hl10=>?_)
   .rw[<-hl10];simp -dsimp only[aw,jV,jW,jX,jY,jZ,jA,reduceIte,reduceCtorEq,jB,jC,jD,jE,jF,jG]
   .have hy:=hy.trans (congrArg (fun x=>QF.bind x _) hs10);have g10:=gH.ok t3 a10 L10 hs10;simp only[QK.eats]at g10;have hN:aD ts (.Dp (nT 2 lo hi2 [s,t3])) a10≤m:=by simp only[aD,QK.cost]at *;omega
    rw[<-hl10];simp -dsimp only[aw,jV,jW,jX,jY,jZ,jA,reduceIte,reduceCtorEq,jB,jC,jD,jE,jF,jG,am];refine⟨by omega,Nxt.to (σ10++[Z9,tsC .nil (nT 2 lo hi2 [s,t3])]) [tsC .nil (nT 2 lo hi2 [s,t3])] (by simp[oi,bY,hq]) (by simp) (aE S10.bb rfl) ?_ ⟨m,a10,L10,_,_,σ10,?_,rfl,tI _ _ _ _,S10,by omega,by omega,g10.2,hN,by omega,hy⟩⟩
    .have:=S10.lt;simp[ao,V.under,S10.len];omega
    .rw[hl10,hlx,hl3,hl2]
   .have hy:=hy.trans (congrArg (fun x=>QF.bind x _) hs10);intro ρ2;rw[<-hl10];simp -dsimp only[aw,jV,jW,jX,jY,jZ,jA,reduceIte,reduceCtorEq,jB,jC,jD,jE,jF,jG];exact dp S10 hy
 .rw[hs4,if_neg (by decide)]at hy;simp -dsimp only[aw,jV,jW,jX,jY,jZ,jA,reduceIte,reduceCtorEq,jB,jC,jD,jE,jF,jG];refine Ba H S3 (by omega) (fun t hn5 ha5 σ5 S5 hl5=>?_) (fun hn5=>?_)
  case refine_2=>
   rw[qM hn5]at hy;simp -dsimp only[aw,jV,jW,jX,jY,jZ,jA,reduceIte,reduceCtorEq,jB,jC,jD,jE,jF,jG];exact cC S3 hy
  rw[qy hn5]at hy;obtain⟨b,hbe⟩:∃b,b=a1+1+1:=⟨_,rfl⟩
  have hb1:a1+2≤b:=by omega
  have hb2:b≤ts.length:=by omega
  have hlx:σ5.length=σ3.length:=hl5;rw[show a1+1+1=b from hbe.symm]at hy S5;rw[<-hl5];simp -dsimp only[aw,jV,jW,jX,jY,jZ,jA,reduceIte,reduceCtorEq,jB,jC,jD,jE,jF,jG,eN];generalize t.num=lo at *;have S9:=S5;generalize σ5=σ9 at *;have hnh:aD ts .H b≤m:=by simp only[aD,QK.cost]at *;omega
  have gH:=fp m .H b L1 hb2 hnh;rcases hq with rfl|⟨rfl,hq⟩
  .simp -dsimp only[aw,jV,jW,jX,jY,jZ,jA,reduceIte,reduceCtorEq,jB,jC,jD,jE,jF,jG];refine qC S9 gH.ne (hH m (by omega) b L1 hb2 hnh _ (ar S9.at_ _)) (fun t3 a10 L10 hs10 σ10 S10 hl10=>⟨?_,?_⟩) (fun l' e b' L10 hs10 σ10 S10 hl10=>?_)
   .rw[<-hl10];simp -dsimp only[aw,jV,jW,jX,jY,jZ,jA,reduceIte,reduceCtorEq,jB,jC,jD,jE,jF,jG]
   .have hy:=hy.trans (congrArg (fun x=>QF.bind x _) hs10);have g10:=gH.ok t3 a10 L10 hs10;simp only[QK.eats]at g10;have hN:aD ts (.Dp (nT 2 lo lo [s,t3])) a10≤m:=by simp only[aD,QK.cost]at *;omega
    rw[<-hl10];simp -dsimp only[aw,jV,jW,jX,jY,jZ,jA,reduceIte,reduceCtorEq,jB,jC,jD,jE,jF,jG,am];refine⟨by omega,Nxt.to (σ10++[Z9,tsC .nil (nT 2 lo lo [s,t3])]) [tsC .nil (nT 2 lo lo [s,t3])] (by simp[oi,bY]) (by simp) (aE S10.bb rfl) ?_ ⟨m,a10,L10,_,_,σ10,?_,rfl,tI _ _ _ _,S10,by omega,by omega,g10.2,hN,by omega,hy⟩⟩
    .have:=S10.lt;simp[ao,V.under,S10.len];omega
    .rw[hl10,hlx,hl3,hl2]
   .have hy:=hy.trans (congrArg (fun x=>QF.bind x _) hs10);intro ρ2;rw[<-hl10];simp -dsimp only[aw,jV,jW,jX,jY,jZ,jA,reduceIte,reduceCtorEq,jB,jC,jD,jE,jF,jG];exact dp S10 hy
  .simp -dsimp only[aw,jV,jW,jX,jY,jZ,jA,reduceIte,reduceCtorEq,jB,jC,jD,jE,jF,jG];refine qC S9 gH.ne (hH m (by omega) b L1 hb2 hnh _ (ar S9.at_ _)) (fun t3 a10 L10 hs10 σ10 S10 hl10=>⟨?_,?_⟩) (fun l' e b' L10 hs10 σ10 S10 hl10=>?_)
   .rw[<-hl10];simp -dsimp only[aw,jV,jW,jX,jY,jZ,jA,reduceIte,reduceCtorEq,jB,jC,jD,jE,jF,jG]
   .have hy:=hy.trans (congrArg (fun x=>QF.bind x _) hs10);have g10:=gH.ok t3 a10 L10 hs10;simp only[QK.eats]at g10;have hN:aD ts (.Dp (nT 2 lo lo [s,t3])) a10≤m:=by simp only[aD,QK.cost]at *;omega
    rw[<-hl10];simp -dsimp only[aw,jV,jW,jX,jY,jZ,jA,reduceIte,reduceCtorEq,jB,jC,jD,jE,jF,jG,am];refine⟨by omega,Nxt.to (σ10++[Z9,tsC .nil (nT 2 lo lo [s,t3])]) [tsC .nil (nT 2 lo lo [s,t3])] (by simp[oi,bY,hq]) (by simp) (aE S10.bb rfl) ?_ ⟨m,a10,L10,_,_,σ10,?_,rfl,tI _ _ _ _,S10,by omega,by omega,g10.2,hN,by omega,hy⟩⟩
    .have:=S10.lt;simp[ao,V.under,S10.len];omega
    .rw[hl10,hlx,hl3,hl2]
   .have hy:=hy.trans (congrArg (fun x=>QF.bind x _) hs10);intro ρ2;rw[<-hl10];simp -dsimp only[aw,jV,jW,jX,jY,jZ,jA,reduceIte,reduceCtorEq,jB,jC,jD,jE,jF,jG];exact dp S10 hy
theorem sM(ts:List Tok)(i n:Nat)(H:TsV ts)(k k':QK)(mk:List Ts->QK)(w:ByteArray)(op:Int)(g:FuncId)
 (hk:∀n a L,ff ts (n+1) k a L=(ff ts n k' a L).bind fun s a1 L1=>ff ts n (mk [s]) a1 L1)
 (hmk:∀n l a L,ff ts (n+1) (mk l) a L=if aH w ts a=true then(ff ts n k' (a+1) L).bind fun s a2 L2=>ff ts n (mk (l++[s])) a2 L2 else .ok (lR op l) a L)
 (hc:∀a,aD ts k' a+1≤aD ts k a)(hcm:∀l a,aD ts (mk l) a=40*(ts.length-a)+1)(hk40:∀a,aD ts k' a≤40*(ts.length-a)+16)(he:k'.eats=1)
 (hg:∀m,m≤n->jj ts i m k' g)(a:Nat)(L:Int)(ha:a≤ts.length)(hn:aD ts k a≤n+1)(hn2:40*(ts.length-a)+1≤n)(σ:LLV)(hi:σ[i]? = some (pq ts a L)):
 Fun G 64 [.ptr i 0,.d (ab op),.d (ae w),.bnd g [.ptr i 0]] σ (QC vts ts i σ (ff ts (n+1) k a L)):=by
 refine ai Tryz.func64 k64 rfl fun hb hw=>?_;have S:=Pst.init hi hb;have hL:=H.ok.len;obtain⟨y,hy⟩:∃y,y=ff ts (n+1) k a L:=⟨_,rfl⟩
 rw[<-hy];rw[hk]at hy;have hnu:aD ts k' a≤n:=by have:=hc a;omega
 have gU:=fp n k' a L ha hnu;unfold c64;simp -dsimp only[aw,jV,jW,jX,jY,jZ,jA,reduceIte,reduceCtorEq,jB,jC,jD,jE,jF,jG];refine eT S gU.ne (hg n (RF _) a L ha hnu _ (ar S.at_ _)) (fun s a1 L1 hs σ1 S1 hl1=>?_) (fun l' e b L2 hs σ1 S1 hl1=>?_)
 case refine_2=>
  rw[hs]at hy;rw[<-hl1];simp -dsimp only[aw,jV,jW,jX,jY,jZ,jA,reduceIte,reduceCtorEq,jB,jC,jD,jE,jF,jG];exact dp S1 hy
 rw[hs]at hy;have g1:=gU.ok s a1 L1 hs;rw[he]at g1;rw[<-hl1];simp -dsimp only[aw,jV,jW,jX,jY,jZ,jA,reduceIte,reduceCtorEq,jB,jC,jD,jE,jF,jG,am]
 refine bj [0,1,2,3,8,9] (R:=fun(j:Nat) ρ σ'=>∃(m a1:Nat) (L1:Int) (l:List Ts) (σ2:LLV),ρ=[(0,.ptr i 0),(1,.d (ab op)),(2,.d (ae w)),(3,.bnd g [.ptr i 0]),(8,.ptr σ1.length 0),(9,.own 27 9 (l.map dts))]/\σ'=σ2++[Z9]/\Pst σ i ts a1 L1 σ2/\σ2.length=σ1.length/\a+1+j≤a1/\a1≤ts.length/\1≤l.length/\l.length≤a1/\40*(ts.length-a1)+1≤m/\m≤n/\y=ff ts m (mk l) a1 L1) (ts.length-a)
  ⟨n,a1,L1,[s],σ1,by rw[Ru,RE,bY];rfl,rfl,S1,rfl,by omega,g1.2,by simp,by simp;omega,by omega,RF _,hy⟩ ?_ _
 rintro j ρ' σ' hj ⟨m,a1,L1,l,σ2,rfl,rfl,S2,hl2,h1,h2,h5,h6,h3,h4,hy⟩;obtain⟨m,rfl⟩:∃m',m=m'+1:=⟨m-1,by omega⟩
 rw[hmk]at hy;have h1lt:=S2.lt;rw[<-hl2];simp -dsimp only[aw,jV,jW,jX,jY,jZ,jA,reduceIte,reduceCtorEq,jB,jC,jD,jE,jF,jG];refine jv H S2 (by omega) (fun hs3 ha3 σ3 S3 hl3=>?_) (fun hs3=>?_)
 case refine_2=>
  rw[hs3,if_neg (by decide)]at hy;by_cases hl1:l.length=1
  .obtain⟨s1,rfl⟩:=List.length_eq_one_iff.1 hl1;have d1:decide (((1:Nat):Int)=1)=true:=rfl;have e0:iaV 9 (V.d (D.sl [[ab s1.op,ab s1.lo,ab s1.hi,ab s1.ex.op,ab s1.ex.num,ae s1.ex.name,D.sl (s1.ex.args.map dex),ae s1.name,D.sl (s1.args.map dts)]])) (V.d (D.lit (Value.int IntKind.i64 0)))=some (.row [ab s1.op,ab s1.lo,ab s1.hi,ab s1.ex.op,ab s1.ex.num,ae s1.ex.name,D.sl (s1.ex.args.map dex),ae s1.name,D.sl (s1.args.map dts)] 0):=rfl;simp -dsimp only[aw,jV,jW,jX,jY,jZ,jA,reduceIte,reduceCtorEq,jB,jC,jD,jE,jF,jG,d1,bY s1,e0];refine et (mk:=vts) S2 hy (by simp only[lR,am];rfl) ?_;simp only[lR,am];simp[KU,aU,bq,aw,jV,jW,jX,jY,jZ,jA,reduceIte,reduceCtorEq,jB,jC,jD,jE,jF,jG]
  .have d1:decide (((l.length:Nat):Int)=1)=false:=by rw[decide_eq_false_iff_not];omega
   rw[rx (by omega)]at hy;simp -dsimp only[aw,jV,jW,jX,jY,jZ,jA,reduceIte,reduceCtorEq,jB,jC,jD,jE,jF,jG,d1,RD];refine et S2 hy (by rw[am];rfl) ?_;simp only[nT,zEx,am];simp[KU,aU,bq,Ts.op,Ts.lo,Ts.hi,Ts.ex,Ts.name,Ts.args,bS,bi,aN,aO,aw,jV,jW,jX,jY,jZ,jA,reduceIte,reduceCtorEq,jB,jC,jD,jE,jF,jG]
 rw[hs3,if_pos rfl]at hy;have hnx:aD ts k' (a1+1)≤m:=by have:=hk40 (a1+1);omega
 have gX:=fp m k' (a1+1) L1 ha3 hnx;rw[<-hl3];simp -dsimp only[aw,jV,jW,jX,jY,jZ,jA,reduceIte,reduceCtorEq,jB,jC,jD,jE,jF,jG];refine eT S3 gX.ne (hg m (by omega) (a1+1) L1 ha3 hnx _ (ar S3.at_ _)) (fun s4 a4 L4 hs4 σ4 S4 hl4=>?_) (fun l' e b L2 hs4 σ4 S4 hl4=>?_)
 case refine_2=>
  rw[hs4]at hy;rw[<-hl4];simp -dsimp only[aw,jV,jW,jX,jY,jZ,jA,reduceIte,reduceCtorEq,jB,jC,jD,jE,jF,jG];exact dp S4 hy
 rw[hs4]at hy;have g4:=gX.ok s4 a4 L4 hs4;rw[he]at g4;rw[<-hl4];simp -dsimp only[aw,jV,jW,jX,jY,jZ,jA,reduceIte,reduceCtorEq,jB,jC,jD,jE,jF,jG,am];refine bQ (by first|omega|(simp only[RD,maxLen];omega)) ?_;simp -dsimp only[aw,jV,jW,jX,jY,jZ,jA,reduceIte,reduceCtorEq,jB,jC,jD,jE,jF,jG];refine⟨by omega,Nxt.to (σ4++[Z9]) [] (by simp) (by simp) (aE S4.bb rfl) ?_ ⟨m,a4,L4,l++[s4],σ4,?_,rfl,S4,by omega,by omega,g4.2,by simp,by simp;omega,by omega,by omega,hy⟩⟩
 .have:=S4.lt;simp[ao,V.under,V.unders,S4.len];omega
 .rw[hl4,hl3,hl2,RC,Ru,RE,bY s4]
theorem HG(ts:List Tok)(i n:Nat)(H:TsV ts)(hA:∀m,m≤n->jj ts i m .A 65)(a:Nat)(L:Int)(ha:a≤ts.length)(hn:aD ts .S a≤n+1)(σ:LLV)(hi:σ[i]? = some (pq ts a L)):
 Fun G 32 [.ptr i 0] σ (QC vts ts i σ (ff ts (n+1) .S a L)):=by
 have hn2:40*(ts.length-a)+1≤n:=by simp only[aD,QK.cost]at *;omega
 refine ai Tryz.func32 k32 rfl fun hb hw=>?_;have S:=Pst.init hi hb;have hlist:=fun l=>sM ts i n H .S .A QK.Sp orW 4 65 (fun _ _ _=>rfl) (fun _ _ _ _=>rfl) (fun a=>by simp only[aD,QK.cost];omega) (fun _ _=>rfl) (fun a=>by simp only[aD,QK.cost];omega) rfl hA a L ha hn hn2 (σ++l) (ar S.at_ l);have gS:=fp (n+1) .S a L ha hn;generalize ff ts (n+1) .S a L=y at *;unfold c32;simp -dsimp only[aw,jV,jW,jX,jY,jZ,jA,reduceIte,reduceCtorEq,jB,jC,jD,jE,jF,jG];refine eT S gS.ne (hlist _) (fun s a1 L1 hs σ1 S1 hl1=>?_) (fun l' e b L2 hs σ1 S1 hl1=>?_)
 .rw[<-hl1];simp -dsimp only[aw,jV,jW,jX,jY,jZ,jA,reduceIte,reduceCtorEq,jB,jC,jD,jE,jF,jG,am];refine et S1 hs (by rw[am];rfl) ?_;rw[am];simp[Oz,aU,bq,aw,jV,jW,jX,jY,jZ,jA,reduceIte,reduceCtorEq,jB,jC,jD,jE,jF,jG]
 .rw[<-hl1];simp -dsimp only[aw,jV,jW,jX,jY,jZ,jA,reduceIte,reduceCtorEq,jB,jC,jD,jE,jF,jG];exact dp S1 hs
theorem Jc(ts:List Tok)(i n:Nat)(H:TsV ts)(hD:∀m,m≤n->jj ts i m .D 100)(a:Nat)(L:Int)(ha:a≤ts.length)(hn:aD ts .A a≤n+1)(σ:LLV)(hi:σ[i]? = some (pq ts a L)):
 Fun G 65 [.ptr i 0] σ (QC vts ts i σ (ff ts (n+1) .A a L)):=by
 have hn2:40*(ts.length-a)+1≤n:=by simp only[aD,QK.cost]at *;omega
 refine ai Tryz.func65 k65 rfl fun hb hw=>?_;have S:=Pst.init hi hb;have hlist:=fun l=>sM ts i n H .A .D QK.Ap jx 5 100 (fun _ _ _=>rfl) (fun _ _ _ _=>rfl) (fun a=>by simp only[aD,QK.cost];omega) (fun _ _=>rfl) (fun a=>by simp only[aD,QK.cost];omega) rfl hD a L ha hn hn2 (σ++l) (ar S.at_ l);have gS:=fp (n+1) .A a L ha hn;generalize ff ts (n+1) .A a L=y at *;unfold c65;simp -dsimp only[aw,jV,jW,jX,jY,jZ,jA,reduceIte,reduceCtorEq,jB,jC,jD,jE,jF,jG];refine eT S gS.ne (hlist _) (fun s a1 L1 hs σ1 S1 hl1=>?_) (fun l' e b L2 hs σ1 S1 hl1=>?_)
 .rw[<-hl1];simp -dsimp only[aw,jV,jW,jX,jY,jZ,jA,reduceIte,reduceCtorEq,jB,jC,jD,jE,jF,jG,am];refine et S1 hs (by rw[am];rfl) ?_;rw[am];simp[Nm,aU,bq,aw,jV,jW,jX,jY,jZ,jA,reduceIte,reduceCtorEq,jB,jC,jD,jE,jF,jG]
 .rw[<-hl1];simp -dsimp only[aw,jV,jW,jX,jY,jZ,jA,reduceIte,reduceCtorEq,jB,jC,jD,jE,jF,jG];exact dp S1 hs
theorem Bc(ts:List Tok)(i:Nat)(H:TsV ts):∀n,jj ts i n .S 32/\jj ts i n .A 65/\jj ts i n .D 100/\jj ts i n .H 138/\jj ts i n .R 169/\jj ts i n .U 198:=by
 intro n
 induction n using Nat.strongRecOn with
 | _ n ih=>
 cases n with
 | zero=>exact⟨fun b L hb hn=>by simp only[aD,QK.cost]at hn;omega,fun b L hb hn=>by simp only[aD,QK.cost]at hn;omega,fun b L hb hn=>by simp only[aD,QK.cost]at hn;omega,fun b L hb hn=>by simp only[aD,QK.cost]at hn;omega,fun b L hb hn=>by simp only[aD,QK.cost]at hn;omega,fun b L hb hn=>by simp only[aD,QK.cost]at hn;omega⟩
 | succ n=>
  have hm:=fun m (h:m≤n)=>ih m (by omega)
  exact⟨fun b L hb hn σ hi=>HG ts i n H (fun m h=>(hm m h).2.1) b L hb hn σ hi,
   fun b L hb hn σ hi=>Jc ts i n H (fun m h=>(hm m h).2.2.1) b L hb hn σ hi,
   fun b L hb hn σ hi=>yd ts i n H (fun m h=>(hm m h).2.2.2.1) b L hb hn σ hi,
   fun b L hb hn σ hi=>Dy ts i n H (hm n (RF _)).2.2.2.1 (hm n (RF _)).2.2.2.2.1 b L hb hn σ hi,
   fun b L hb hn σ hi=>GQ ts i n H (hm n (RF _)).2.2.2.2.2 b L hb hn σ hi,
   fun b L hb hn σ hi=>Ck ts i n H (hm n (RF _)).1 b L hb hn σ hi⟩
def pfl(ts:List Tok):Nat:=40*ts.length+12
abbrev Z21:List V:=.d (ae ⟨#[]⟩)::.d (.lit (.bool false))::.d (.lit (.bool false))::(Z9++Z9)
theorem BA(ts:List Tok)(i:Nat)(H:TsV ts)(a:Nat)(L:Int)(ha:a≤ts.length)(σ:LLV)(hi:σ[i]? = some (pq ts a L)):
 Fun G 24 [.ptr i 0] σ (QC vpr ts i σ (kw ts (pfl ts) a L)):=by
 refine ai Tryz.func24 k24 rfl fun hb hw=>?_;have S:=Pst.init hi hb;have hL:=H.ok.len;have hS:=(Bc ts i H (pfl ts)).1;have hg:∀b L,b≤ts.length->GF ts (b+1) (ff ts (pfl ts) .S b L):=fun b L hb=>fp (pfl ts) .S b L hb (by simp only[aD,QK.cost,pfl];omega);have hn:∀b,aD ts .S b≤pfl ts:=fun b=>by simp only[aD,QK.cost,pfl];omega
 obtain⟨y,hy⟩:∃y,y=kw ts (pfl ts) a L:=⟨_,rfl⟩
 rw[<-hy];unfold kw at hy;unfold c24;simp -dsimp only[aw,jV,jW,jX,jY,jZ,jA,reduceIte,reduceCtorEq,jB,jC,jD,jE,jF,jG];refine e8 H (m:=qb) S (by omega) (fun hs1 ha1 σ1 S1 hl1=>?_) (fun hs1 σ1 S1 hl1=>?_)
 case refine_2=>
  rw[dr hs1]at hy;rw[<-hl1];simp -dsimp only[aw,jV,jW,jX,jY,jZ,jA,reduceIte,reduceCtorEq,jB,jC,jD,jE,jF,jG];exact cC S1 hy
 rw[df hs1]at hy;rw[<-hl1];simp -dsimp only[aw,jV,jW,jX,jY,jZ,jA,reduceIte,reduceCtorEq,jB,jC,jD,jE,jF,jG];refine K1 H S1 (by omega) (fun t hn2 ha2 σ2 S2 hl2=>?_) (fun hn2=>?_)
 case refine_2=>
  rw[Al hn2]at hy;simp -dsimp only[aw,jV,jW,jX,jY,jZ,jA,reduceIte,reduceCtorEq,jB,jC,jD,jE,jF,jG];exact cC S1 hy
 rw[AO hn2]at hy;rw[<-hl2];simp -dsimp only[aw,jV,jW,jX,jY,jZ,jA,reduceIte,reduceCtorEq,jB,jC,jD,jE,jF,jG,eN];refine e8 H (m:=aa 58) S2 (by omega) (fun hs3 ha3 σ3 S3 hl3=>?_) (fun hs3 σ3 S3 hl3=>?_)
 case refine_2=>
  rw[dr hs3]at hy;rw[<-hl3];simp -dsimp only[aw,jV,jW,jX,jY,jZ,jA,reduceIte,reduceCtorEq,jB,jC,jD,jE,jF,jG];exact cC S3 hy
 rw[df hs3]at hy;rw[<-hl3];generalize t.text=nm at *;obtain⟨b,hbe⟩:∃b,b=a+1+1+1:=⟨_,rfl⟩
 have hb2:b≤ts.length:=by omega
 rw[show a+1+1+1=b from hbe.symm]at hy S3;simp -dsimp only[aw,jV,jW,jX,jY,jZ,jA,reduceIte,reduceCtorEq,jB,jC,jD,jE,jF,jG];refine jv H (m:=ja) S3 (by omega) (fun hs4 ha4 σ4 S4 hl4=>?_) (fun hs4=>?_)
 .rw[hs4,if_pos rfl]at hy;rw[<-hl4];simp -dsimp only[aw,jV,jW,jX,jY,jZ,jA,reduceIte,reduceCtorEq,jB,jC,jD,jE,jF,jG];refine eT S4 (hg _ L ha4).ne (hS (b+1) L ha4 (hn _) _ (ar S4.at_ _)) (fun s a5 L5 hs5 σ5 S5 hl5=>?_) (fun l' e b5 L5 hs5 σ5 S5 hl5=>?_)
  case refine_2=>
   rw[hs5]at hy;rw[<-hl5];simp -dsimp only[aw,jV,jW,jX,jY,jZ,jA,reduceIte,reduceCtorEq,jB,jC,jD,jE,jF,jG];exact dp S5 hy
  have g5:=(hg _ L ha4).ok s a5 L5 hs5;rw[hs5]at hy;have hy:y=cw ts (aa 59) a5 fun a6=>.ok ⟨nm,true,false,zT,s⟩ a6 L5:=hy;rw[<-hl5];simp -dsimp only[aw,jV,jW,jX,jY,jZ,jA,reduceIte,reduceCtorEq,jB,jC,jD,jE,jF,jG,am];refine e8 H (m:=aa 59) S5 (by omega) (fun hs6 ha6 σ6 S6 hl6=>?_) (fun hs6 σ6 S6 hl6=>?_)
  case refine_2=>
   rw[dr hs6]at hy;rw[<-hl6];simp -dsimp only[aw,jV,jW,jX,jY,jZ,jA,reduceIte,reduceCtorEq,jB,jC,jD,jE,jF,jG];exact cC S6 hy
  rw[df hs6]at hy;rw[<-hl6];simp -dsimp only[aw,jV,jW,jX,jY,jZ,jA,reduceIte,reduceCtorEq,jB,jC,jD,jE,jF,jG];refine et S6 hy (by rw[b9];rfl) ?_;rw[b9];simp[Jd,aU,bq,zT,Ts.op,Ts.lo,Ts.hi,Ts.ex,Ts.name,Ts.args,bS,bi,aN,aO,aw,jV,jW,jX,jY,jZ,jA,reduceIte,reduceCtorEq,jB,jC,jD,jE,jF,jG]
 rw[hs4,if_neg (by decide)]at hy;simp -dsimp only[aw,jV,jW,jX,jY,jZ,jA,reduceIte,reduceCtorEq,jB,jC,jD,jE,jF,jG];refine eT S3 (hg _ L hb2).ne (hS b L hb2 (hn _) _ (ar S3.at_ _)) (fun c a5 L5 hs5 σ5 S5 hl5=>?_) (fun l' e b5 L5 hs5 σ5 S5 hl5=>?_)
 case refine_2=>
  rw[hs5]at hy;rw[<-hl5];simp -dsimp only[aw,jV,jW,jX,jY,jZ,jA,reduceIte,reduceCtorEq,jB,jC,jD,jE,jF,jG];exact dp S5 hy
 have g5:=(hg _ L hb2).ok c a5 L5 hs5;rw[hs5]at hy
 have hy:y=cw ts (aa 124) a5 fun a6=>if aH (aF 45 62) ts a6=true then(ff ts (pfl ts) .S (a6+1) L5).bind fun t a7 L7=>cw ts (aa 59) a7 fun a8=>.ok ⟨nm,false,true,c,t⟩ a8 L7
  else cw ts (aF 61 62) a6 fun a7=>(ff ts (pfl ts) .S a7 L5).bind fun t a8 L8=>cw ts (aa 59) a8 fun a9=>.ok ⟨nm,false,false,c,t⟩ a9 L8:=hy
 rw[<-hl5];simp -dsimp only[aw,jV,jW,jX,jY,jZ,jA,reduceIte,reduceCtorEq,jB,jC,jD,jE,jF,jG,am];refine e8 H (m:=aa 124) S5 (by omega) (fun hs6 ha6 σ6 S6 hl6=>?_) (fun hs6 σ6 S6 hl6=>?_)
 case refine_2=>
  rw[dr hs6]at hy;rw[<-hl6];simp -dsimp only[aw,jV,jW,jX,jY,jZ,jA,reduceIte,reduceCtorEq,jB,jC,jD,jE,jF,jG];exact cC S6 hy
 rw[df hs6]at hy;rw[<-hl6];simp -dsimp only[aw,jV,jW,jX,jY,jZ,jA,reduceIte,reduceCtorEq,jB,jC,jD,jE,jF,jG];refine jv H (m:=aF 45 62) S6 (by omega) (fun hs7 ha7 σ7 S7 hl7=>?_) (fun hs7=>?_)
 .rw[hs7,if_pos rfl]at hy;rw[<-hl7];simp -dsimp only[aw,jV,jW,jX,jY,jZ,jA,reduceIte,reduceCtorEq,jB,jC,jD,jE,jF,jG];refine eT S7 (hg _ L5 ha7).ne (hS (a5+1+1) L5 ha7 (hn _) _ (ar S7.at_ _)) (fun s a8 L8 hs8 σ8 S8 hl8=>?_) (fun l' e b8 L8 hs8 σ8 S8 hl8=>?_)
  case refine_2=>
   rw[hs8]at hy;rw[<-hl8];simp -dsimp only[aw,jV,jW,jX,jY,jZ,jA,reduceIte,reduceCtorEq,jB,jC,jD,jE,jF,jG];exact dp S8 hy
  have g8:=(hg _ L5 ha7).ok s a8 L8 hs8;rw[hs8]at hy;have hy:y=cw ts (aa 59) a8 fun a9=>.ok ⟨nm,false,true,c,s⟩ a9 L8:=hy;rw[<-hl8];simp -dsimp only[aw,jV,jW,jX,jY,jZ,jA,reduceIte,reduceCtorEq,jB,jC,jD,jE,jF,jG,am];refine e8 H (m:=aa 59) S8 (by omega) (fun hs9 ha9 σ9 S9 hl9=>?_) (fun hs9 σ9 S9 hl9=>?_)
  case refine_2=>
   rw[dr hs9]at hy;rw[<-hl9];simp -dsimp only[aw,jV,jW,jX,jY,jZ,jA,reduceIte,reduceCtorEq,jB,jC,jD,jE,jF,jG];exact cC S9 hy
  rw[df hs9]at hy;rw[<-hl9];simp -dsimp only[aw,jV,jW,jX,jY,jZ,jA,reduceIte,reduceCtorEq,jB,jC,jD,jE,jF,jG];refine et S9 hy (by rw[b9];rfl) ?_;rw[b9];simp[Jd,aU,bq,aw,jV,jW,jX,jY,jZ,jA,reduceIte,reduceCtorEq,jB,jC,jD,jE,jF,jG]
 rw[hs7,if_neg (by decide)]at hy;simp -dsimp only[aw,jV,jW,jX,jY,jZ,jA,reduceIte,reduceCtorEq,jB,jC,jD,jE,jF,jG];refine e8 H (m:=aF 61 62) S6 (by omega) (fun hs7 ha7 σ7 S7 hl7=>?_) (fun hs7 σ7 S7 hl7=>?_)
 case refine_2=>
  rw[dr hs7]at hy;rw[<-hl7];simp -dsimp only[aw,jV,jW,jX,jY,jZ,jA,reduceIte,reduceCtorEq,jB,jC,jD,jE,jF,jG];exact cC S7 hy
 rw[df hs7]at hy;rw[<-hl7];simp -dsimp only[aw,jV,jW,jX,jY,jZ,jA,reduceIte,reduceCtorEq,jB,jC,jD,jE,jF,jG];refine eT S7 (hg _ L5 ha7).ne (hS (a5+1+1) L5 ha7 (hn _) _ (ar S7.at_ _)) (fun s a8 L8 hs8 σ8 S8 hl8=>?_) (fun l' e b8 L8 hs8 σ8 S8 hl8=>?_)
 case refine_2=>
  rw[hs8]at hy;rw[<-hl8];simp -dsimp only[aw,jV,jW,jX,jY,jZ,jA,reduceIte,reduceCtorEq,jB,jC,jD,jE,jF,jG];exact dp S8 hy
 have g8:=(hg _ L5 ha7).ok s a8 L8 hs8;rw[hs8]at hy;have hy:y=cw ts (aa 59) a8 fun a9=>.ok ⟨nm,false,false,c,s⟩ a9 L8:=hy;rw[<-hl8];simp -dsimp only[aw,jV,jW,jX,jY,jZ,jA,reduceIte,reduceCtorEq,jB,jC,jD,jE,jF,jG,am];refine e8 H (m:=aa 59) S8 (by omega) (fun hs9 ha9 σ9 S9 hl9=>?_) (fun hs9 σ9 S9 hl9=>?_)
 case refine_2=>
  rw[dr hs9]at hy;rw[<-hl9];simp -dsimp only[aw,jV,jW,jX,jY,jZ,jA,reduceIte,reduceCtorEq,jB,jC,jD,jE,jF,jG];exact cC S9 hy
 rw[df hs9]at hy;rw[<-hl9];simp -dsimp only[aw,jV,jW,jX,jY,jZ,jA,reduceIte,reduceCtorEq,jB,jC,jD,jE,jF,jG];refine et S9 hy (by rw[b9];rfl) ?_;rw[b9];simp[Jd,aU,bq,aw,jV,jW,jX,jY,jZ,jA,reduceIte,reduceCtorEq,jB,jC,jD,jE,jF,jG]
theorem DF(σ:LLV)(i j:Nat):gJ G 44 [.ptr i 0,.ptr j 0] σ none (fun σ'=>σ'=σ):=by
 refine iw Tryz.func44 k44 rfl (fun v h=>by cases h) fun hb=>?_;unfold c44;simp -dsimp only[aw,jV,jW,jX,jY,jZ,jA,reduceIte,reduceCtorEq,jB,jC,jD,jE,jF,jG,AE,Ac,Option.getD_none];exact⟨σ.length,RF _,by rw[Rs];exact hb,Rs⟩
theorem LU(τ:LLV)(a b:List V)(l r:LLV):(τ++(a::b::(l++r))).take (τ.length+(l.length+2))=τ++a::b::l:=by
 rw[List.take_append,Rx (by omega),Nat.add_sub_cancel_left];simp
theorem sx(τ:LLV)(l e:Int)(x:List V):gJ G 44 [.ptr τ.length 0,.ptr (τ.length+1) 0] (τ++[[.d (ab 0)],[.d (ab 0)],x]) (some (ij l e))
 (fun σ'=>σ'=τ++[[.d (ab l)],[.d (ab e)],x]):=by
 refine iw Tryz.func44 k44 rfl (fun v h=>by cases h;rfl) fun hb=>?_;unfold c44 ij;simp -dsimp only[aw,jV,jW,jX,jY,jZ,jA,reduceIte,reduceCtorEq,jB,jC,jD,jE,jF,jG,AE,Ac,Option.getD_some];have hT:∀y:List V,(τ++[[.d (ab l)],[.d (ab e)],x,y]).take (τ.length+3)=τ++[[V.d (ab l)],[V.d (ab e)],x]:=fun y=>LU τ _ _ [x] [y];refine⟨τ.length+3,by simp,?_,?_⟩
 .rw[hT];simp only[List.length_append,List.length_cons,List.length_nil,Nat.reduceAdd]at hb;unfold aj at hb ⊢;rw[List.all_append,Bool.and_eq_true]at hb ⊢;refine⟨hb.1,?_⟩;have:=hb.2;simp only[List.all_cons,List.all_nil,Bool.and_true,Bool.and_eq_true]at this ⊢;exact⟨rfl,rfl,this.2.2⟩
 .rw[hT]
section
variable {α : Type}
def kH(F:List Tok->QF α)(l:Bs):Int×Int×Option α:=
 if 16384<l.length then(0,2,none)else match cS l with
  | .err n e=>(n,e,none)
  | .ok ts=>match F ts with
   | .out=>(0,1,none)
   | .bad l e=>(l,e,none)
   | .ok v a L=>if a<ts.length then((b7 ts a).1,5,some v)else(0,L,some v)
theorem tg(z:α)(valid:α->Int){f:List Tok->QR α}{F:List Tok->QF α}(l:Bs)(hfit:∀ts,Fit ts 0 (F ts) (f ts))(hg:∀ts,GF ts 0 (F ts)):
 ((kH F l).2.1≠0->rB z (uQ z valid f l) z (kH F l).1 (kH F l).2.1)/\
 ((kH F l).2.1=0->∃v ts,(kH F l).2.2=some v/\(kH F l).1=0/\l.length≤16384/\cS l=.ok ts/\f ts=.ok v []/\uQ z valid f l=some (if valid v=0 then(v,0,0)else(z,0,valid v))):=by
 unfold kH uQ;by_cases hl:16384<l.length
 .rw[if_pos hl,if_pos hl];exact⟨fun _=>rfl,fun h=>by simp at h⟩
 rw[if_neg hl,if_neg hl];cases ht:cS l with
 | err n e=>exact⟨fun _=>rfl,fun h=>absurd h (oL ht)⟩
 | ok ts=>
  simp only;have h1:=hfit ts;have h2:=hg ts;cases hy:F ts with
  | out=>exact absurd hy h2.ne
  | bad l' e=>
   rw[hy]at h1;have he:=h2.bad l' e hy;simp only;refine⟨fun _=>?_,fun h=>absurd h he⟩;rcases h1 with h1|h1|h1
   .exact absurd rfl h1
   .rw[h1];exact⟨rfl,he⟩
   .rw[h1];rfl
  | ok v a L=>
   rw[hy]at h1;have h1:Rt 0 (f ts) L v (ts.drop a):=h1;simp only;by_cases ha:a<ts.length
   .rw[if_pos ha];refine⟨fun _=>?_,fun h=>by simp at h⟩;by_cases hL:L=0
    .rw[(h1.z hL).2,List.drop_eq_getElem_cons ha];show(z,ts[a].line,(5:Int))=(z,(b7 ts a).1,5)
     unfold b7;rw[RB ha]
    .rw[(h1.nz hL).resolve_left (fun h=>h rfl)];exact⟨rfl,by simp only;decide⟩
   .rw[if_neg ha];refine⟨fun hL=>?_,fun hL=>?_⟩
    .rw[(h1.nz hL).resolve_left (fun h=>h rfl)];exact⟨rfl,hL⟩
    .have h3:=(h1.z hL).2;rw[List.drop_eq_nil_of_le (by omega)]at h3;exact⟨v,ts,rfl,rfl,by omega,rfl,h3,by rw[h3];rfl⟩
end
theorem Kf{l:Bs}{ts:List Tok}(h:cS l=.ok ts)(hl:l.length≤16384):TsV ts:=⟨Jr h hl,fun t ht=>((eo h).1 t ht).1⟩
def Mj{α:Type}(cells:α->List V)(r:Int×Int×Option α)(σ:LLV)(o:Nat):Out->LLV->Prop:=fun out σ'=>
 out=.ret (.tup [.d (ab r.1),.d (ab r.2.1)])/\∃X,σ'=σ.set o X/\(∀v,r.2.2=some v->X=cells v)/\∀n,V.unders n X=true
def J6{α:Type}(cells:α->List V)(ts:List Tok)(i o:Nat)(τ:LLV)(y:QF α):Out->LLV->Prop:=fun out σ'=>match y with
 | .out=>False
 | .bad l e=>out=.panic (ij l e)/\∃b L2 X,σ'=(τ.set i (pq ts b L2)).set o X/\∀n,V.unders n X=true
 | .ok v a2 L2=>out=.ret (.tup [])/\σ'=(τ.set i (pq ts a2 L2)).set o (cells v)
theorem rI{α:Type}(cells:α->List V)(F:List Tok->QF α)(g:FuncId)(l:Bs)(o:Nat)(X0:List V)(σ:LLV)(ho:σ[o]? = some X0)(hX0:∀n,V.unders n X0=true)(hcl:∀v n,V.unders n (cells v)=true)(hF:∀ts,GF ts 0 (F ts))
 (hc:∀ts,TsV ts->ts.length≤16384->∀(i:Nat) (τ:LLV),o<i->τ[i]? = some (pq ts 0 0)->τ[o]? = some X0->Fun G g [.ptr i 0,.ptr o 0] τ (J6 cells ts i o τ (F ts))):
 Fun G 22 [.d (ae (bs l)),.fn g [.ptr o 0]] σ (Mj cells (kH F l) σ o):=by
 refine rL Tryz.func22 k22 rfl fun hb hw=>?_;have hol:=(List.getElem?_eq_some_iff.1 ho).1
 have hs0:σ.set o X0=σ:=by
  have:=(List.getElem?_eq_some_iff.1 ho).2;rw[<-this];exact RA hol
 unfold c22
 have early:∀(n e:Int) (x:LLV) ρ,kH F l=(n,e,none)->aU (σ++x) ρ xq=some (.tup [.d (ab n),.d (ab e)])->fin σ.length xq (Mj cells (kH F l) σ o) .ret ρ (σ++x):=fun n e x ρ hp h=>by
  rw[hp];exact al hb h rfl Rs ⟨rfl,X0,hs0.symm,(fun v h=>by cases h),hX0⟩
 by_cases hbig:16384<l.length
 .have hP:kH F l=(0,2,none):=by unfold kH;rw[if_pos hbig]
  simp -dsimp only[aw,jV,jW,jX,jY,jZ,jA,reduceIte,reduceCtorEq,jB,jC,jD,jE,jF,jG,rg];refine ac (xB l hbig _) ?_;simp -dsimp only[aw,jV,jW,jX,jY,jZ,jA,reduceIte,reduceCtorEq,jB,jC,jD,jE,jF,jG,rg,Int.reduceEq,decide_false];refine early 0 2 _ _ hP ?_;simp[xq,aU,cY,bq,aw,jV,jW,jX,jY,jZ,jA,reduceIte,reduceCtorEq,jB,jC,jD,jE,jF,jG]
 have ht:=xO l (by omega);have hR:jL l=qJ (cS l):=by unfold jL;rw[if_neg hbig]
 rw[hR]at ht;cases hx:cS l with
 | err n e=>
  have hP:kH F l=(n,e,none):=by unfold kH;rw[if_neg hbig,hx]
  have de:=decide_eq_false (oL hx);rw[hx]at ht;unfold qJ at ht;simp -dsimp only[aw,jV,jW,jX,jY,jZ,jA,reduceIte,reduceCtorEq,jB,jC,jD,jE,jF,jG,rg];refine ac (ht _) ?_;simp -dsimp only[aw,jV,jW,jX,jY,jZ,jA,reduceIte,reduceCtorEq,jB,jC,jD,jE,jF,jG,rg,de];refine early n e _ _ hP ?_;simp[xq,aU,cY,bq,aw,jV,jW,jX,jY,jZ,jA,reduceIte,reduceCtorEq,jB,jC,jD,jE,jF,jG]
 | ok ts=>
  have H:=Kf hx (by omega);have hL:=H.ok.len;have hl16:=(eo hx).2
  have hP:kH F l=match F ts with
   | .out=>(0,1,none)
   | .bad l e=>(l,e,none)
   | .ok v a L=>if a<ts.length then((b7 ts a).1,5,some v)else(0,L,some v):=by unfold kH;rw[if_neg hbig,hx]
  rw[hx]at ht;unfold qJ at ht;have hC:=hc ts H (by omega) (σ.length+2);have hg:=hF ts;rw[hP];simp -dsimp only[aw,jV,jW,jX,jY,jZ,jA,reduceIte,reduceCtorEq,jB,jC,jD,jE,jF,jG,rg];refine ac (ht _) ?_;simp -dsimp only[aw,jV,jW,jX,jY,jZ,jA,reduceIte,reduceCtorEq,jB,jC,jD,jE,jF,jG,decide_true,rg,JJ];refine aR (hC _ (by omega) (by rw[mq];rfl) (ar ho _)) fun out σ' hq=>?_;cases hy:F ts with
  | out=>exact absurd hy hg.ne
  | bad l' e=>
   rw[hy]at hq;obtain⟨rfl,b,L2,X,rfl,hX⟩:=hq;rw[lp,aI ho];obtain⟨τ,hτ⟩:∃τ,τ=σ.set o X:=⟨_,rfl⟩
   have hτl:τ.length=σ.length:=by rw[hτ,Ry]
   have hτb:aj τ.length τ=true:=by rw[hτl,hτ];exact ca hb (hX _)
   rw[<-hτ,<-hτl];simp -dsimp only[aw,jV,jW,jX,jY,jZ,jA,reduceIte,reduceCtorEq,jB,jC,jD,jE,jF,jG,bz];refine(sx τ l' e (pq ts b L2)).mono fun σ' h=>?_;subst h;exact⟨.tup [.d (ab l'),.d (ab e)],by simp[xq,aU,cY,bq,aw,jV,jW,jX,jY,jZ,jA,reduceIte,reduceCtorEq,jB,jC,jD,jE,jF,jG],τ.length,RF _,by rw[Rs];exact hτb,rfl,by rw[Rs];exact⟨rfl,X,hτ,(fun v h=>by cases h),hX⟩⟩
  | ok v a2 L2=>
   rw[hy]at hq;obtain⟨rfl,rfl⟩:=hq;have hga:=(hg.ok v a2 L2 hy).2;rw[lp,aI ho];obtain⟨τ,hτ⟩:∃τ,τ=σ.set o (cells v):=⟨_,rfl⟩
   have hτl:τ.length=σ.length:=by rw[hτ,Ry]
   have hτb:aj τ.length τ=true:=by rw[hτl,hτ];exact ca hb (hcl _ _)
   rw[<-hτ,<-hτl];by_cases hlt:a2<ts.length
   .have d1:decide (((a2:Nat):Int)<((ts.length:Nat):Int))=true:=by rw[decide_eq_true_eq];omega
    have hF:=ov ts a2 (τ.length+2) L2 H (by omega) (τ++[[.d (ab 0)],[.d (ab 0)],pq ts a2 L2]) (by rw[mq];rfl);have hfv:i6 ts a2=ij (b7 ts a2).1 5:=by unfold i6 b7;rw[RB hlt]
    simp only;rw[if_pos hlt];rw[hfv]at hF;simp -dsimp only[aw,jV,jW,jX,jY,jZ,jA,reduceIte,reduceCtorEq,jB,jC,jD,jE,jF,jG,bc,pq,d1];refine aR hF fun o' σ' ⟨e1,e2⟩=>?_;subst e1;subst e2;simp -dsimp only[aw,jV,jW,jX,jY,jZ,jA,reduceIte,reduceCtorEq,jB,jC,jD,jE,jF,jG,bz];refine(sx τ (b7 ts a2).1 5 (pq ts a2 L2)).mono fun σ' h=>?_;subst h;exact⟨.tup [.d (ab (b7 ts a2).1),.d (ab 5)],by simp[xq,aU,cY,bq,aw,jV,jW,jX,jY,jZ,jA,reduceIte,reduceCtorEq,jB,jC,jD,jE,jF,jG],τ.length,RF _,by rw[Rs];exact hτb,rfl,by rw[Rs];exact⟨rfl,cells v,hτ,(fun w h=>by cases h;rfl),fun n=>hcl v n⟩⟩
   .have d1:decide (((a2:Nat):Int)<((ts.length:Nat):Int))=false:=by rw[decide_eq_false_iff_not];omega
    simp only;rw[if_neg hlt];simp -dsimp only[aw,jV,jW,jX,jY,jZ,jA,reduceIte,reduceCtorEq,jB,jC,jD,jE,jF,jG,bc,pq,d1];refine(DF _ _ _).mono fun σ' h=>?_;subst h;exact⟨.tup [.d (ab 0),.d (ab L2)],by simp[xq,aU,cY,bq,aw,jV,jW,jX,jY,jZ,jA,reduceIte,reduceCtorEq,jB,jC,jD,jE,jF,jG],τ.length,RF _,by rw[Rs];exact hτb,rfl,by rw[Rs];exact⟨rfl,cells v,hτ,(fun w h=>by cases h;rfl),fun n=>hcl v n⟩⟩
end Go.Proofs.YthekkgfmagliiaaGreatDoor
namespace Go.Proofs.YthekkgfmagliiaaGreatDoor
open Go.RowKit
open Nat renaming reduceLeDiff -> jA, reduceBEq -> jB, reduceLT -> jC, reduceEqDiff -> jD, reduceAdd -> jE, reduceSub -> jF, reduceMul -> jG
open V renaming copy -> jV, lend -> jW, lend1 -> jX, cells -> jY, boxable -> jZ
section
variable {α : Type} {mk : α -> V} {σ0 σ : LLV} {i : Nat} {ts : List Tok} {a : Nat} {L : Int} {K P : V -> LLV -> Prop} {s : Tag K} {t : Tag P} {f : FuncId} {args : List V} {y : QF α}
theorem Ab(S:Pst σ0 i ts a L σ)(hne:y≠.out)(h:Fun G f args σ (QC mk ts i σ y))(ht:∀v a2 L2,y=.ok v a2 L2->∀σ',Pst σ0 i ts a2 L2 σ'->σ'.length=σ.length->K (mk v) σ')(hf:∀l' e b L2,y=.bad l' e->∀σ',Pst σ0 i ts b L2 σ'->σ'.length=σ.length->P (ij l' e) σ'):
 js G f args σ K P s t:=by
 have:=eT (l:=[]) (K:=K) (P:=P) (s:=s) (t:=t) (args:=args) (f:=f) S hne (by rw[Rz];exact h) (fun v a2 L2 h1 σ' h2 h3=>by rw[Rz];exact ht v a2 L2 h1 σ' h2 h3) (fun l' e b L2 h1 σ' h2 h3=>by rw[Rz];exact hf l' e b L2 h1 σ' h2 h3);rwa[Rz]at this
end
def vV(s:Ts):List V:=(dts s).map V.d
def prC(p:Pr):List V:=(dpr p).map V.d
theorem lx(s:Ts):vV s=[.d (ab s.op),.d (ab s.lo),.d (ab s.hi),.d (ab s.ex.op),.d (ab s.ex.num),.d (ae s.ex.name),.d (.sl (s.ex.args.map dex)),.d (ae s.name),.d (.sl (s.args.map dts))]:=by unfold vV;rw[bY];rfl
theorem GW(p:Pr):prC p=.d (ae p.name)::.d (.lit (.bool p.plain))::.d (.lit (.bool p.over))::(vV p.cond++vV p.then_):=by unfold prC dpr vV;rw[Ru,Ru,Ru,RC]
theorem p5(l:List D)(n:Nat):V.unders n (l.map V.d)=true:=by
 induction l with
 | nil=>rfl
 | cons a l ih=>simp only[Ru,V.unders,V.under,ih,Bool.and_self]
theorem yy(ts:List Tok)(H:TsV ts)(i o:Nat)(τ:LLV)(hoi:o<i)(hi:τ[i]? = some (pq ts 0 0))(ho:τ[o]? = some Z9):
 Fun G 31 [.ptr i 0,.ptr o 0] τ (J6 vV ts i o τ (ff ts (pfl ts) .S 0 0)):=by
 refine ai Tryz.func31 k31 rfl fun hb hw=>?_;have S:=Pst.init hi hb;have hn:aD ts .S 0≤pfl ts:=by simp only[aD,QK.cost,pfl];omega
 have hS:=(Bc ts i H (pfl ts)).1 0 0 (RG _) hn τ hi;have hg:=fp (pfl ts) .S 0 0 (RG _) hn;generalize ff ts (pfl ts) .S 0 0=y at *;unfold c31;simp -dsimp only[aw,jV,jW,jX,jY,jZ,jA,reduceIte,reduceCtorEq,jB,jC,jD,jE,jF,jG];refine Ab S hg.ne hS (fun s a2 L2 hs σ1 S1 hl1=>?_) (fun l' e b L2 hs σ1 S1 hl1=>?_)
 .have ho1:σ1[o]? = some Z9:=by rw[S1.eq,Rv (by omega)];exact ho
  have hol:=(List.getElem?_eq_some_iff.1 ho1).1;subst hs;rw[<-hl1];simp -dsimp only[aw,jV,jW,jX,jY,jZ,jA,reduceIte,reduceCtorEq,jB,jC,jD,jE,jF,jG,am,ho1];refine rG (τ:=σ1.set o (vV s)) (ca S1.bb (p5 _ _)) rfl rfl ?_ ⟨rfl,by rw[S1.eq]⟩;rw[Rx (by rw[Ry];exact RF _),lx]
 .have ho1:σ1[o]? = some Z9:=by rw[S1.eq,Rv (by omega)];exact ho
  have hol:=(List.getElem?_eq_some_iff.1 ho1).1;subst hs;rw[<-hl1];simp -dsimp only[aw,jV,jW,jX,jY,jZ,jA,reduceIte,reduceCtorEq,jB,jC,jD,jE,jF,jG];refine⟨σ1.length,RF _,by rw[Rw];exact S1.bb,rfl,rfl,b,L2,Z9,?_,fun n=>rfl⟩;rw[Rw,<-S1.eq,<-(List.getElem?_eq_some_iff.1 ho1).2,RA]
theorem xi(ts:List Tok)(H:TsV ts)(i o:Nat)(τ:LLV)(hoi:o<i)(hi:τ[i]? = some (pq ts 0 0))(ho:τ[o]? = some Z21):
 Fun G 23 [.ptr i 0,.ptr o 0] τ (J6 prC ts i o τ (kw ts (pfl ts) 0 0)):=by
 refine ai Tryz.func23 k23 rfl fun hb hw=>?_;have S:=Pst.init hi hb;have hS:=BA ts i H 0 0 (RG _) τ hi;have hg:=AB (ts:=ts) (n:=pfl ts) (a:=0) (L:=0) (RG _) (RF _);generalize kw ts (pfl ts) 0 0=y at *;unfold c23;simp -dsimp only[aw,jV,jW,jX,jY,jZ,jA,reduceIte,reduceCtorEq,jB,jC,jD,jE,jF,jG];refine Ab S hg.ne hS (fun p a2 L2 hs σ1 S1 hl1=>?_) (fun l' e b L2 hs σ1 S1 hl1=>?_)
 .have ho1:σ1[o]? = some Z21:=by rw[S1.eq,Rv (by omega)];exact ho
  have hol:=(List.getElem?_eq_some_iff.1 ho1).1;subst hs;rw[<-hl1];simp -dsimp only[aw,jV,jW,jX,jY,jZ,jA,reduceIte,reduceCtorEq,jB,jC,jD,jE,jF,jG,b9,ho1];refine rG (τ:=σ1.set o (prC p)) (ca S1.bb (p5 _ _)) rfl rfl ?_ ⟨rfl,by rw[S1.eq]⟩;rw[Rx (by rw[Ry];exact RF _),GW,lx,lx];rfl
 .have ho1:σ1[o]? = some Z21:=by rw[S1.eq,Rv (by omega)];exact ho
  have hol:=(List.getElem?_eq_some_iff.1 ho1).1;subst hs;rw[<-hl1];simp -dsimp only[aw,jV,jW,jX,jY,jZ,jA,reduceIte,reduceCtorEq,jB,jC,jD,jE,jF,jG];refine⟨σ1.length,RF _,by rw[Rw];exact S1.bb,rfl,rfl,b,L2,Z21,?_,fun n=>rfl⟩;rw[Rw,<-S1.eq,<-(List.getElem?_eq_some_iff.1 ho1).2,RA]
def Ox{α:Type}(mk:α->V)(z:α)(x:Option (α×Int×Int))(σ:LLV):Out->LLV->Prop:=fun out σ'=>σ'=σ/\∃v n e,out=.ret (.tup [mk v,.d (ab n),.d (ab e)])/\rB z x v n e
theorem wv{N:Int}{r r1:List Tok}{p:Pr}(h:kB N r=.ok p r1):cl p.cond≤2*r.length+2/\cl p.then_≤2*r.length+2:=by
 unfold kB at h
 have oT:∀{m:ByteArray} {q:List Tok} {f:List Tok->QR Pr},cu N m q f=.ok p r1->∃q1,q1.length<q.length/\f q1=.ok p r1:=fun{m q f} h=>by
  unfold cu at h;cases ha:acc m q with
  | none=>rw[ha]at h;cases q<;>cases h
  | some q1=>rw[ha]at h;exact⟨q1,(aB ha).2,h⟩
 have bind:∀{x:QR Ts} {f:Ts->List Tok->QR Pr},x.bind f=.ok p r1->∃s q,x=.ok s q/\f s q=.ok p r1:=fun{x f} h=>by
  cases x with
  | ok s q=>exact⟨s,q,rfl,h⟩
  | _=>cases h
 obtain⟨q1,l1,h⟩:=oT h;unfold fO at h;cases hn:bw q1 with
 | none=>rw[hn]at h;cases q1<;>cases h
 | some pn=>
  obtain⟨nm,q2⟩:=pn;rw[hn]at h;have l2:=(fK hn).2;obtain⟨q3,l3,h⟩:=oT h;have z2:cl zT=2:=rfl;cases hp:acc ja q3 with
  | some q4=>
   rw[hp]at h;have l4:=(aB hp).2;obtain⟨s,q5,h5,h⟩:=bind h;obtain⟨q6,l6,h⟩:=oT h;have:=oC h5;cases h;simp only;omega
  | none=>
   rw[hp]at h;obtain⟨c,q5,h5,h⟩:=bind h;obtain⟨q6,l6,h⟩:=oT h;have b5:=oC h5;have e5:=G2 h5;simp only[QK.eats]at e5;cases ho:acc (aF 45 62) q6 with
   | some q7=>
    rw[ho]at h;have l7:=(aB ho).2;obtain⟨s,q8,h8,h⟩:=bind h;obtain⟨q9,l9,h⟩:=oT h;have:=oC h8;cases h;simp only;omega
   | none=>
    rw[ho]at h;obtain⟨q7,l7,h⟩:=oT h;obtain⟨s,q8,h8,h⟩:=bind h;obtain⟨q9,l9,h⟩:=oT h;have:=oC h8;cases h;simp only;omega
def Av(ts:List Tok):QF Ts:=ff ts (pfl ts) .S 0 0
theorem CF(ts:List Tok):Fit ts 0 (Av ts) (Lc ts):=nZ _ _ _ _
theorem wR(ts:List Tok):GF ts 0 (Av ts):=(fp (pfl ts) .S 0 0 (RG _) (by simp only[aD,QK.cost,pfl];omega)).weak (RG _)
theorem u7:vts zT=.agg [.d (ab 0),.d (ab 0),.d (ab 0),.d (ab 0),.d (ab 0),.d (ae ⟨#[]⟩),.d (.sl []),.d (ae ⟨#[]⟩),.d (.sl [])]:=by rw[am];rfl
theorem ka(l:Bs)(σ:LLV):Fun G 12 [.d (ae (bs l))] σ (Ox vts zT (kE l) σ):=by
 refine ai Tryz.func12 k12 rfl fun hb hw=>?_;have hP:=rI vV Av 31 l (σ.length+1) Z9 (σ++[Z9,Z9]) (by rw[mq];rfl) (fun n=>rfl) (fun v n=>p5 _ n) wR (fun ts H hl i τ hoi hi ho=>yy ts H i _ τ hoi hi ho);obtain⟨f1,f2⟩:=tg zT dM l CF wR;generalize hr:kH Av l=r at *;obtain⟨n,e,w⟩:=r;simp only at f1 f2;unfold c12;simp -dsimp only[aw,jV,jW,jX,jY,jZ,jA,reduceIte,reduceCtorEq,jB,jC,jD,jE,jF,jG];refine aR hP fun out σ' ⟨e1,X,e2,hX,hXu⟩=>?_;subst e1;subst e2;rw[lp];by_cases h0:e=0
 .obtain⟨v,ts,e3,e4,hl16,ht,hf,hsrc⟩:=f2 h0;have hXv:=hX v e3;subst hXv;have hts:=(eo ht).2;have hbig:=oC (N:=d6 ts) hf;have hV:=fun σ=>kr v (by omega) σ;simp only[am]at hV;rw[lx];by_cases hv:dM v=0
  .rw[if_pos hv]at hsrc;simp -dsimp only[aw,jV,jW,jX,jY,jZ,jA,reduceIte,reduceCtorEq,jB,jC,jD,jE,jF,jG,bc,decide_eq_true h0];refine ac (hV _) ?_;simp -dsimp only[aw,jV,jW,jX,jY,jZ,jA,reduceIte,reduceCtorEq,jB,jC,jD,jE,jF,jG,decide_eq_true hv];refine al hb (v:=.tup [vts v,.d (ab 0),.d (ab 0)]) ?_ ?_ Rs ⟨rfl,v,0,0,rfl,by unfold kE;rw[hsrc];rfl⟩
   .rw[am];simp[Iw,aU,cY,bq,aw,jV,jW,jX,jY,jZ,jA,reduceIte,reduceCtorEq,jB,jC,jD,jE,jF,jG]
   .rw[am];rfl
  .rw[if_neg hv]at hsrc;simp -dsimp only[aw,jV,jW,jX,jY,jZ,jA,reduceIte,reduceCtorEq,jB,jC,jD,jE,jF,jG,bc,decide_eq_true h0];refine ac (hV _) ?_;simp -dsimp only[aw,jV,jW,jX,jY,jZ,jA,reduceIte,reduceCtorEq,jB,jC,jD,jE,jF,jG,decide_eq_false hv];refine al hb (v:=.tup [vts zT,.d (ab n),.d (ab (dM v))]) ?_ ?_ Rs ⟨rfl,zT,n,dM v,rfl,by unfold kE;rw[hsrc,e4];rfl⟩
   .rw[u7];simp[Iw,aU,cY,bq,aw,jV,jW,jX,jY,jZ,jA,reduceIte,reduceCtorEq,jB,jC,jD,jE,jF,jG]
   .rw[u7];rfl
 .have hfit:=f1 h0;simp -dsimp only[aw,jV,jW,jX,jY,jZ,jA,reduceIte,reduceCtorEq,jB,jC,jD,jE,jF,jG,bc,decide_eq_false h0];refine al hb (v:=.tup [vts zT,.d (ab n),.d (ab e)]) ?_ ?_ Rs ⟨rfl,zT,n,e,rfl,hfit⟩
  .rw[u7];simp[Iw,aU,cY,bq,aw,jV,jW,jX,jY,jZ,jA,reduceIte,reduceCtorEq,jB,jC,jD,jE,jF,jG]
  .rw[u7];rfl
def pN(ts:List Tok):QF Pr:=kw ts (pfl ts) 0 0
theorem wE(ts:List Tok):Fit ts 0 (pN ts) (Jy ts):=Eg _ _ _ _
theorem rr(ts:List Tok):GF ts 0 (pN ts):=(AB (RG _) (RF _)).weak (RG _)
theorem Be:vpr zPr=.agg [.d (ae ⟨#[]⟩),.d (.lit (.bool false)),.d (.lit (.bool false)),.d (ab 0),.d (ab 0),.d (ab 0),.d (ab 0),.d (ab 0),.d (ae ⟨#[]⟩),.d (.sl []),.d (ae ⟨#[]⟩),.d (.sl []),.d (ab 0),.d (ab 0),.d (ab 0),.d (ab 0),.d (ab 0),.d (ae ⟨#[]⟩),.d (.sl []),.d (ae ⟨#[]⟩),.d (.sl [])]:=by rw[b9];rfl
theorem rp(l:Bs)(σ:LLV):Fun G 7 [.d (ae (bs l))] σ (Ox vpr zPr (jp l) σ):=by
 refine ai Tryz.func7 k7 rfl fun hb hw=>?_;have hP:=rI prC pN 23 l (σ.length+1) Z21 (σ++[Z21,Z21]) (by rw[mq];rfl) (fun n=>rfl) (fun v n=>p5 _ n) rr (fun ts H hl i τ hoi hi ho=>xi ts H i _ τ hoi hi ho);obtain⟨f1,f2⟩:=tg zPr eY l wE rr;generalize hr:kH pN l=r at *;obtain⟨n,e,w⟩:=r;simp only at f1 f2;unfold c7;simp -dsimp only[aw,jV,jW,jX,jY,jZ,jA,reduceIte,reduceCtorEq,jB,jC,jD,jE,jF,jG];refine aR hP fun out σ' ⟨e1,X,e2,hX,hXu⟩=>?_;subst e1;subst e2;rw[lp];by_cases h0:e=0
 .obtain⟨v,ts,e3,e4,hl16,ht,hf,hsrc⟩:=f2 h0;have hXv:=hX v e3;subst hXv;have hts:=(eo ht).2;obtain⟨b1,b2⟩:=wv hf;have hV:=fun σ=>ma v (by omega) (by omega) σ;simp only[b9]at hV;rw[GW,lx,lx];by_cases hv:eY v=0
  .rw[if_pos hv]at hsrc;simp -dsimp only[aw,jV,jW,jX,jY,jZ,jA,reduceIte,reduceCtorEq,jB,jC,jD,jE,jF,jG,bc,decide_eq_true h0];refine ac (hV _) ?_;simp -dsimp only[aw,jV,jW,jX,jY,jZ,jA,reduceIte,reduceCtorEq,jB,jC,jD,jE,jF,jG,decide_eq_true hv];refine al hb (v:=.tup [vpr v,.d (ab 0),.d (ab 0)]) ?_ ?_ Rs ⟨rfl,v,0,0,rfl,by unfold jp;rw[hsrc];rfl⟩
   .rw[b9];simp[rs7,aU,cY,bq,aw,jV,jW,jX,jY,jZ,jA,reduceIte,reduceCtorEq,jB,jC,jD,jE,jF,jG]
   .rw[b9];rfl
  .rw[if_neg hv]at hsrc;simp -dsimp only[aw,jV,jW,jX,jY,jZ,jA,reduceIte,reduceCtorEq,jB,jC,jD,jE,jF,jG,bc,decide_eq_true h0];refine ac (hV _) ?_;simp -dsimp only[aw,jV,jW,jX,jY,jZ,jA,reduceIte,reduceCtorEq,jB,jC,jD,jE,jF,jG,decide_eq_false hv];refine al hb (v:=.tup [vpr zPr,.d (ab n),.d (ab (eY v))]) ?_ ?_ Rs ⟨rfl,zPr,n,eY v,rfl,by unfold jp;rw[hsrc,e4];rfl⟩
   .rw[Be];simp[rs7,aU,cY,bq,aw,jV,jW,jX,jY,jZ,jA,reduceIte,reduceCtorEq,jB,jC,jD,jE,jF,jG]
   .rw[Be];rfl
 .have hfit:=f1 h0;simp -dsimp only[aw,jV,jW,jX,jY,jZ,jA,reduceIte,reduceCtorEq,jB,jC,jD,jE,jF,jG,bc,decide_eq_false h0];refine al hb (v:=.tup [vpr zPr,.d (ab n),.d (ab e)]) ?_ ?_ Rs ⟨rfl,zPr,n,e,rfl,hfit⟩
  .rw[Be];simp[rs7,aU,cY,bq,aw,jV,jW,jX,jY,jZ,jA,reduceIte,reduceCtorEq,jB,jC,jD,jE,jF,jG]
  .rw[Be];rfl
end Go.Proofs.YthekkgfmagliiaaGreatDoor
