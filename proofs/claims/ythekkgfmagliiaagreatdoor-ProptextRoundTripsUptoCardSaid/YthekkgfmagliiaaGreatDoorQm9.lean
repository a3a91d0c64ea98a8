import Derived.Test.YthekkgfmagliiaaGreatDoorQm5
set_option linter.unusedVariables false
set_option linter.unusedSimpArgs false
set_option linter.unusedSectionVars false
set_option maxHeartbeats 4000000
open List renaming take_left->RS,getElem?_eq_getElem->RU,length_set->RW,length_map->RX,map_cons->RY,map_nil->RZ
open Nat renaming le_refl->R0
namespace Go.Proofs.YthekkgfmagliiaaGreatDoor
open Go.RowKit
open Nat renaming reduceLeDiff -> jA, reduceBEq -> jB, reduceLT -> jC, reduceEqDiff -> jD, reduceAdd -> jE, reduceSub -> jF, reduceMul -> jG
open V renaming copy -> jV, lend -> jW, lend1 -> jX, cells -> jY, boxable -> jZ
abbrev Z9:List V:=[.d (ab 0),.d (ab 0),.d (ab 0),.d (ab 0),.d (ab 0),.d (ae ⟨#[]⟩),.nil,.d (ae ⟨#[]⟩),.nil]
theorem DM(ts:List Tok)(i n:Nat)(H:TsV ts)(hS:jw ts i n .S 32)(a:Nat)(L:Int)(ha:a≤ts.length)(hn:aC ts .U a≤n+1)(σ:LLV)(hi:σ[i]? = some (pq ts a L)):
 Fun G 198 [.ptr i 0] σ (QC vts ts i σ (ff ts (n+1) .U a L)):=by
 refine ai Tryz.func198 Qu rfl fun hb hw=>?_;have S:=Pst.init hi hb;have hL:=H.ok.len;obtain⟨y,hy⟩:∃y,y=ff ts (n+1) .U a L:=⟨_,rfl⟩
 rw[<-hy];have hy:y=fD ts (ff ts n) .U a L:=hy;simp only[fD]at hy;unfold Nk;simp -dsimp only[aw,jV,jW,jX,jY,jZ,jA,reduceIte,reduceCtorEq,jB,jC,jD,jE,jF,jG];refine jL H (m:=aa 123) S (by omega) (fun hs1 ha1 σ1 S1 hl1=>?_) (fun hs1=>?_)
 .rw[hs1,if_pos rfl,mI]at hy;rw[<-hl1];simp -dsimp only[aw,jV,jW,jX,jY,jZ,jA,reduceIte,reduceCtorEq,jB,jC,jD,jE,jF,jG];refine fi S1 sn (pf ts (a+1) i L H ha1 _ (au S1.at_ _)) (fun e a3 L3 hs3 σ3 S3 hl3=>?_) (fun l' e b L3 hs3 σ3 S3 hl3=>?_)
  case refine_2=>
   rw[hs3]at hy;rw[<-hl3];simp -dsimp only[aw,jV,jW,jX,jY,jZ,jA,reduceIte,reduceCtorEq,jB,jC,jD,jE,jF,jG];exact dB S3 hy
  rw[hs3]at hy;have hb3:=sL ha1 hs3;have hy:y=cr ts (aa 125) a3 fun a4=>.ok (.mk 1 0 0 e ⟨#[]⟩ []) a4 L3:=hy;rw[<-hl3];simp -dsimp only[aw,jV,jW,jX,jY,jZ,jA,reduceIte,reduceCtorEq,jB,jC,jD,jE,jF,jG,al];refine fk H (m:=aa 125) S3 (by omega) (fun hs4 ha4 σ4 S4 hl4=>?_) (fun hs4 σ4 S4 hl4=>?_)
  case refine_2=>
   rw[da hs4]at hy;rw[<-hl4];simp -dsimp only[aw,jV,jW,jX,jY,jZ,jA,reduceIte,reduceCtorEq,jB,jC,jD,jE,jF,jG];exact cx S4 hy
  rw[cP hs4]at hy;rw[<-hl4];simp -dsimp only[aw,jV,jW,jX,jY,jZ,jA,reduceIte,reduceCtorEq,jB,jC,jD,jE,jF,jG];refine ew S4 hy (by rw[ak];rfl) ?_;rw[ak];simp[BT,aU,bu,Ts.op,Ts.lo,Ts.hi,Ts.ex,Ts.name,Ts.args,aw,jV,jW,jX,jY,jZ,jA,reduceIte,reduceCtorEq,jB,jC,jD,jE,jF,jG]
 rw[hs1,if_neg (by decide)]at hy;simp -dsimp only[aw,jV,jW,jX,jY,jZ,jA,reduceIte,reduceCtorEq,jB,jC,jD,jE,jF,jG];refine fk H (m:=aa 40) S (by omega) (fun hs2 ha2 σ2 S2 hl2=>?_) (fun hs2 σ2 S2 hl2=>?_)
 case refine_2=>
  rw[da hs2]at hy;rw[<-hl2];simp -dsimp only[aw,jV,jW,jX,jY,jZ,jA,reduceIte,reduceCtorEq,jB,jC,jD,jE,jF,jG];exact cx S2 hy
 rw[cP hs2]at hy;rw[<-hl2];simp -dsimp only[aw,jV,jW,jX,jY,jZ,jA,reduceIte,reduceCtorEq,jB,jC,jD,jE,jF,jG];have hns:aC ts .S (a+1)≤n:=by simp only[aC,QK.cost]at *;omega
 have gS:=fw n .S (a+1) L ha2 hns;refine fi S2 gS.ne (hS (a+1) L ha2 hns _ (au S2.at_ _)) (fun s a3 L3 hs3 σ3 S3 hl3=>?_) (fun l' e b L3 hs3 σ3 S3 hl3=>?_)
 case refine_2=>
  rw[hs3]at hy;rw[<-hl3];simp -dsimp only[aw,jV,jW,jX,jY,jZ,jA,reduceIte,reduceCtorEq,jB,jC,jD,jE,jF,jG];exact dB S3 hy
 rw[hs3]at hy;have g3:=gS.ok s a3 L3 hs3
 have hy:y=if aG (aa 44) ts a3=true then lh ts (a3+1) fun n a4=>cr ts (aa 61) a4 fun a5=>ik ts a5 L3 fun e a6 L6=>cr ts (aa 41) a6 fun a7=>.ok (.mk 6 0 0 e n [s]) a7 L6
  else cr ts (aa 41) a3 fun a4=>.ok s a4 L3:=hy
 rw[<-hl3];simp -dsimp only[aw,jV,jW,jX,jY,jZ,jA,reduceIte,reduceCtorEq,jB,jC,jD,jE,jF,jG,ak];refine jL H (m:=aa 44) S3 (by omega) (fun hs4 ha4 σ4 S4 hl4=>?_) (fun hs4=>?_)
 case refine_2=>
  rw[hs4,if_neg (by decide)]at hy;simp -dsimp only[aw,jV,jW,jX,jY,jZ,jA,reduceIte,reduceCtorEq,jB,jC,jD,jE,jF,jG];refine fk H (m:=aa 41) S3 (by omega) (fun hs5 ha5 σ5 S5 hl5=>?_) (fun hs5 σ5 S5 hl5=>?_)
  case refine_2=>
   rw[da hs5]at hy;rw[<-hl5];simp -dsimp only[aw,jV,jW,jX,jY,jZ,jA,reduceIte,reduceCtorEq,jB,jC,jD,jE,jF,jG];exact cx S5 hy
  rw[cP hs5]at hy;rw[<-hl5];simp -dsimp only[aw,jV,jW,jX,jY,jZ,jA,reduceIte,reduceCtorEq,jB,jC,jD,jE,jF,jG];refine ew S5 hy (by rw[ak];rfl) ?_;rw[ak];simp[BT,aU,bu,aw,jV,jW,jX,jY,jZ,jA,reduceIte,reduceCtorEq,jB,jC,jD,jE,jF,jG]
 rw[hs4,if_pos rfl]at hy;rw[<-hl4];simp -dsimp only[aw,jV,jW,jX,jY,jZ,jA,reduceIte,reduceCtorEq,jB,jC,jD,jE,jF,jG];refine Lt H S4 (by omega) (fun t hn5 ha5 σ5 S5 hl5=>⟨?_,?_⟩) (fun hn5=>?_) (fun hn5=>?_)
 .simp -dsimp only[aw,jV,jW,jX,jY,jZ,jA,reduceIte,reduceCtorEq,jB,jC,jD,jE,jF,jG]
 .rw[BS hn5]at hy;rw[<-hl5];simp -dsimp only[aw,jV,jW,jX,jY,jZ,jA,reduceIte,reduceCtorEq,jB,jC,jD,jE,jF,jG,fy];refine bH ?_ ?_
  .simp -dsimp only[aw,jV,jW,jX,jY,jZ,jA,reduceIte,reduceCtorEq,jB,jC,jD,jE,jF,jG,hl5]
  simp -dsimp only[aw,jV,jW,jX,jY,jZ,jA,reduceIte,reduceCtorEq,jB,jC,jD,jE,jF,jG];refine fk H (m:=aa 61) S5 (by omega) (fun hs6 ha6 σ6 S6 hl6=>?_) (fun hs6 σ6 S6 hl6=>?_)
  case refine_2=>
   rw[da hs6]at hy;rw[<-hl6];simp -dsimp only[aw,jV,jW,jX,jY,jZ,jA,reduceIte,reduceCtorEq,jB,jC,jD,jE,jF,jG];exact cx S6 hy
  rw[cP hs6,mI]at hy;rw[<-hl6];simp -dsimp only[aw,jV,jW,jX,jY,jZ,jA,reduceIte,reduceCtorEq,jB,jC,jD,jE,jF,jG];refine fi S6 sn (pf ts (a3+1+1+1) i L3 H ha6 _ (au S6.at_ _)) (fun e a7 L7 hs7 σ7 S7 hl7=>?_) (fun l' e b L7 hs7 σ7 S7 hl7=>?_)
  case refine_2=>
   rw[hs7]at hy;rw[<-hl7];simp -dsimp only[aw,jV,jW,jX,jY,jZ,jA,reduceIte,reduceCtorEq,jB,jC,jD,jE,jF,jG];exact dB S7 hy
  rw[hs7]at hy;have hb7:=sL ha6 hs7;have hy:y=cr ts (aa 41) a7 fun a8=>.ok (.mk 6 0 0 e t.text [s]) a8 L7:=hy;rw[<-hl7];simp -dsimp only[aw,jV,jW,jX,jY,jZ,jA,reduceIte,reduceCtorEq,jB,jC,jD,jE,jF,jG,al];refine fk H (m:=aa 41) S7 (by omega) (fun hs8 ha8 σ8 S8 hl8=>?_) (fun hs8 σ8 S8 hl8=>?_)
  case refine_2=>
   rw[da hs8]at hy;rw[<-hl8];simp -dsimp only[aw,jV,jW,jX,jY,jZ,jA,reduceIte,reduceCtorEq,jB,jC,jD,jE,jF,jG];exact cx S8 hy
  rw[cP hs8]at hy;rw[<-hl8];simp -dsimp only[aw,jV,jW,jX,jY,jZ,jA,reduceIte,reduceCtorEq,jB,jC,jD,jE,jF,jG];refine ew S8 hy (by rw[ak];rfl) ?_;rw[ak];simp[BT,aU,bu,bw,Ts.op,Ts.lo,Ts.hi,Ts.ex,Ts.name,Ts.args,aw,jV,jW,jX,jY,jZ,jA,reduceIte,reduceCtorEq,jB,jC,jD,jE,jF,jG]
 .rw[BP hn5]at hy;intro ρ2;simp -dsimp only[aw,jV,jW,jX,jY,jZ,jA,reduceIte,reduceCtorEq,jB,jC,jD,jE,jF,jG];exact cx S4 hy
 .simp -dsimp only[aw,jV,jW,jX,jY,jZ,jA,reduceIte,reduceCtorEq,jB,jC,jD,jE,jF,jG,ap,OP.w1]
theorem yM(ts:List Tok)(i n:Nat)(H:TsV ts)(hH:∀m,m≤n->jw ts i m .H 138)(a:Nat)(L:Int)(ha:a≤ts.length)(hn:aC ts .D a≤n+1)(σ:LLV)(hi:σ[i]? = some (pq ts a L)):
 Fun G 100 [.ptr i 0] σ (QC vts ts i σ (ff ts (n+1) .D a L)):=by
 refine ai Tryz.func100 P7 rfl fun hb hw=>?_;have S:=Pst.init hi hb;have hL:=H.ok.len;obtain⟨y,hy⟩:∃y,y=ff ts (n+1) .D a L:=⟨_,rfl⟩
 rw[<-hy];have hy:y=(ff ts n .H a L).bind fun s a1 L1=>ff ts n (.Dp s) a1 L1:=hy;have hnu:aC ts .H a≤n:=by simp only[aC,QK.cost]at *;omega
 have gU:=fw n .H a L ha hnu;unfold Hy;simp -dsimp only[aw,jV,jW,jX,jY,jZ,jA,reduceIte,reduceCtorEq,jB,jC,jD,jE,jF,jG];refine fi S gU.ne (hH n (R0 _) a L ha hnu _ (au S.at_ _)) (fun s a1 L1 hs σ1 S1 hl1=>?_) (fun l' e b L2 hs σ1 S1 hl1=>?_)
 case refine_2=>
  rw[hs]at hy;rw[<-hl1];simp -dsimp only[aw,jV,jW,jX,jY,jZ,jA,reduceIte,reduceCtorEq,jB,jC,jD,jE,jF,jG];exact dB S1 hy
 rw[hs]at hy;have g1:=gU.ok s a1 L1 hs;simp only[QK.eats]at g1;rw[<-hl1];simp -dsimp only[aw,jV,jW,jX,jY,jZ,jA,reduceIte,reduceCtorEq,jB,jC,jD,jE,jF,jG,ak]
 refine aY [0,2,3] (R:=fun(j:Nat) ρ σ'=>∃(m a1:Nat) (L1:Int) (s:Ts) (q:V) (σ2:LLV),ρ=[(0,.ptr i 0),(2,.ptr σ1.length 0),(3,.ptr (σ1.length+1) 0)]/\σ'=σ2++[Z9,tsC q s]/\TsQ q s/\Pst σ i ts a1 L1 σ2/\σ2.length=σ1.length/\a+1+j≤a1/\a1≤ts.length/\aC ts (.Dp s) a1≤m/\m≤n/\y=ff ts m (.Dp s) a1 L1) (ts.length-a)
  ⟨n,a1,L1,s,_,σ1,rfl,rfl,.inl rfl,S1,rfl,by omega,g1.2,by simp only[aC,QK.cost]at *;omega,R0 _,hy⟩ ?_ _
 rintro j ρ' σ' hj ⟨m,a1,L1,s,q,σ2,rfl,rfl,hq,S2,hl2,h1,h2,h3,h4,hy⟩;obtain⟨m,rfl⟩:∃m',m=m'+1:=⟨m-1,by simp only[aC,QK.cost]at h3;omega⟩
 have hy:y=fD ts (ff ts m) (.Dp s) a1 L1:=hy;simp only[fD]at hy;have h1lt:=S2.lt;rw[<-hl2];unfold tsC;simp -dsimp only[aw,jV,jW,jX,jY,jZ,jA,reduceIte,reduceCtorEq,jB,jC,jD,jE,jF,jG];refine jL H (m:=aE 35 35) S2 (by omega) (fun hs3 ha3 σ3 S3 hl3=>?_) (fun hs3=>?_)
 case refine_2=>
  rw[hs3,if_neg (by decide)]at hy;rcases hq with rfl|⟨rfl,hq⟩
  .simp -dsimp only[aw,jV,jW,jX,jY,jZ,jA,reduceIte,reduceCtorEq,jB,jC,jD,jE,jF,jG];refine ew S2 hy (by rw[ak];rfl) ?_;rw[ak];simp[Gi,aU,bu,aw,jV,jW,jX,jY,jZ,jA,reduceIte,reduceCtorEq,jB,jC,jD,jE,jF,jG]
  .simp -dsimp only[aw,jV,jW,jX,jY,jZ,jA,reduceIte,reduceCtorEq,jB,jC,jD,jE,jF,jG];refine ew S2 hy (by rw[ak];rfl) ?_;rw[ak,hq];simp[Gi,aU,bu,aw,jV,jW,jX,jY,jZ,jA,reduceIte,reduceCtorEq,jB,jC,jD,jE,jF,jG]
 rw[hs3,if_pos rfl]at hy;rw[<-hl3];simp -dsimp only[aw,jV,jW,jX,jY,jZ,jA,reduceIte,reduceCtorEq,jB,jC,jD,jE,jF,jG];refine jL H (m:=aa 91) S3 (by omega) (fun hs4 ha4 σ4 S4 hl4=>?_) (fun hs4=>?_)
 .rw[hs4,if_pos rfl]at hy;rw[<-hl4];simp -dsimp only[aw,jV,jW,jX,jY,jZ,jA,reduceIte,reduceCtorEq,jB,jC,jD,jE,jF,jG];refine Bh H S4 (by omega) (fun t hn5 ha5 σ5 S5 hl5=>?_) (fun hn5=>?_)
  case refine_2=>
   rw[rO hn5]at hy;simp -dsimp only[aw,jV,jW,jX,jY,jZ,jA,reduceIte,reduceCtorEq,jB,jC,jD,jE,jF,jG];exact cx S4 hy
  rw[rE hn5]at hy;rw[<-hl5];simp -dsimp only[aw,jV,jW,jX,jY,jZ,jA,reduceIte,reduceCtorEq,jB,jC,jD,jE,jF,jG,fy];refine fk H (m:=aa 58) S5 (by omega) (fun hs6 ha6 σ6 S6 hl6=>?_) (fun hs6 σ6 S6 hl6=>?_)
  case refine_2=>
   rw[da hs6]at hy;rw[<-hl6];simp -dsimp only[aw,jV,jW,jX,jY,jZ,jA,reduceIte,reduceCtorEq,jB,jC,jD,jE,jF,jG];exact cx S6 hy
  rw[cP hs6]at hy;rw[<-hl6];simp -dsimp only[aw,jV,jW,jX,jY,jZ,jA,reduceIte,reduceCtorEq,jB,jC,jD,jE,jF,jG];refine Bh H S6 (by omega) (fun t2 hn7 ha7 σ7 S7 hl7=>?_) (fun hn7=>?_)
  case refine_2=>
   rw[rO hn7]at hy;simp -dsimp only[aw,jV,jW,jX,jY,jZ,jA,reduceIte,reduceCtorEq,jB,jC,jD,jE,jF,jG];exact cx S6 hy
  rw[rE hn7]at hy;rw[<-hl7];simp -dsimp only[aw,jV,jW,jX,jY,jZ,jA,reduceIte,reduceCtorEq,jB,jC,jD,jE,jF,jG,fy];refine fk H (m:=aa 93) S7 (by omega) (fun hs8 ha8 σ8 S8 hl8=>?_) (fun hs8 σ8 S8 hl8=>?_)
  case refine_2=>
   rw[da hs8]at hy;rw[<-hl8];simp -dsimp only[aw,jV,jW,jX,jY,jZ,jA,reduceIte,reduceCtorEq,jB,jC,jD,jE,jF,jG];exact cx S8 hy
  rw[cP hs8]at hy;obtain⟨b,hbe⟩:∃b,b=a1+1+1+1+1+1+1:=⟨_,rfl⟩
  have hb1:a1+2≤b:=by omega
  have hb2:b≤ts.length:=by omega
  have hlx:σ8.length=σ3.length:=by rw[hl8,hl7,hl6,hl5,hl4]
  rw[show a1+1+1+1+1+1+1=b from hbe.symm]at hy S8;rw[<-hl8];generalize t.num=lo at *;generalize t2.num=hi2 at *;have S9:=S8;generalize σ8=σ9 at *;have hnh:aC ts .H b≤m:=by simp only[aC,QK.cost]at *;omega
  have gH:=fw m .H b L1 hb2 hnh;rcases hq with rfl|⟨rfl,hq⟩
  all_goals
   simp -dsimp only[aw,jV,jW,jX,jY,jZ,jA,reduceIte,reduceCtorEq,jB,jC,jD,jE,jF,jG];refine zc S9 gH.ne (hH m (by omega) b L1 hb2 hnh _ (au S9.at_ _)) (fun t3 a10 L10 hs10 σ10 S10 hl10=>⟨?_,?_⟩) (fun l' e b' L10 hs10 σ10 S10 hl10=>?_) ?_
   .rw[<-hl10];simp -dsimp only[aw,jV,jW,jX,jY,jZ,jA,reduceIte,reduceCtorEq,jB,jC,jD,jE,jF,jG]
   .have hy:=hy.trans (congrArg (fun x=>QF.bind x _) hs10);have g10:=gH.ok t3 a10 L10 hs10;simp only[QK.eats]at g10;have hN:aC ts (.Dp (nT 2 lo hi2 [s,t3])) a10≤m:=by simp only[aC,QK.cost]at *;omega
    rw[<-hl10];simp -dsimp only[aw,jV,jW,jX,jY,jZ,jA,reduceIte,reduceCtorEq,jB,jC,jD,jE,jF,jG,ak];refine⟨by omega,Nxt.to (σ10++[Z9,tsC .nil (nT 2 lo hi2 [s,t3])]) [tsC .nil (nT 2 lo hi2 [s,t3])] (by first|(simp[ov,bw];done)|simp[ov,bw, *]) (by simp) (av S10.bb rfl) ?_ ⟨m,a10,L10,_,_,σ10,?_,rfl,Bt _ _ _ _,S10,by omega,by omega,g10.2,hN,by omega,hy⟩⟩
    .have:=S10.lt;simp[am,V.under,S10.len];omega
    .rw[hl10,hlx,hl3,hl2]
   .have hy:=hy.trans (congrArg (fun x=>QF.bind x _) hs10);intro ρ2;rw[<-hl10];simp -dsimp only[aw,jV,jW,jX,jY,jZ,jA,reduceIte,reduceCtorEq,jB,jC,jD,jE,jF,jG];exact dB S10 hy
   .simp -dsimp only[aw,jV,jW,jX,jY,jZ,jA,reduceIte,reduceCtorEq,jB,jC,jD,jE,jF,jG]
 .rw[hs4,if_neg (by decide)]at hy;simp -dsimp only[aw,jV,jW,jX,jY,jZ,jA,reduceIte,reduceCtorEq,jB,jC,jD,jE,jF,jG];refine Bh H S3 (by omega) (fun t hn5 ha5 σ5 S5 hl5=>?_) (fun hn5=>?_)
  case refine_2=>
   rw[rO hn5]at hy;simp -dsimp only[aw,jV,jW,jX,jY,jZ,jA,reduceIte,reduceCtorEq,jB,jC,jD,jE,jF,jG];exact cx S3 hy
  rw[rE hn5]at hy;obtain⟨b,hbe⟩:∃b,b=a1+1+1:=⟨_,rfl⟩
  have hb1:a1+2≤b:=by omega
  have hb2:b≤ts.length:=by omega
  have hlx:σ5.length=σ3.length:=hl5;rw[show a1+1+1=b from hbe.symm]at hy S5;rw[<-hl5];simp -dsimp only[aw,jV,jW,jX,jY,jZ,jA,reduceIte,reduceCtorEq,jB,jC,jD,jE,jF,jG,fy];generalize t.num=lo at *;have S9:=S5;generalize σ5=σ9 at *;have hnh:aC ts .H b≤m:=by simp only[aC,QK.cost]at *;omega
  have gH:=fw m .H b L1 hb2 hnh;rcases hq with rfl|⟨rfl,hq⟩
  all_goals
   refine zc S9 gH.ne (hH m (by omega) b L1 hb2 hnh _ (au S9.at_ _)) (fun t3 a10 L10 hs10 σ10 S10 hl10=>⟨?_,?_⟩) (fun l' e b' L10 hs10 σ10 S10 hl10=>?_) ?_
   .rw[<-hl10];simp -dsimp only[aw,jV,jW,jX,jY,jZ,jA,reduceIte,reduceCtorEq,jB,jC,jD,jE,jF,jG]
   .have hy:=hy.trans (congrArg (fun x=>QF.bind x _) hs10);have g10:=gH.ok t3 a10 L10 hs10;simp only[QK.eats]at g10;have hN:aC ts (.Dp (nT 2 lo lo [s,t3])) a10≤m:=by simp only[aC,QK.cost]at *;omega
    rw[<-hl10];simp -dsimp only[aw,jV,jW,jX,jY,jZ,jA,reduceIte,reduceCtorEq,jB,jC,jD,jE,jF,jG,ak];refine⟨by omega,Nxt.to (σ10++[Z9,tsC .nil (nT 2 lo lo [s,t3])]) [tsC .nil (nT 2 lo lo [s,t3])] (by first|(simp[ov,bw];done)|simp[ov,bw, *]) (by simp) (av S10.bb rfl) ?_ ⟨m,a10,L10,_,_,σ10,?_,rfl,Bt _ _ _ _,S10,by omega,by omega,g10.2,hN,by omega,hy⟩⟩
    .have:=S10.lt;simp[am,V.under,S10.len];omega
    .rw[hl10,hlx,hl3,hl2]
   .have hy:=hy.trans (congrArg (fun x=>QF.bind x _) hs10);intro ρ2;rw[<-hl10];simp -dsimp only[aw,jV,jW,jX,jY,jZ,jA,reduceIte,reduceCtorEq,jB,jC,jD,jE,jF,jG];exact dB S10 hy
   .simp -dsimp only[aw,jV,jW,jX,jY,jZ,jA,reduceIte,reduceCtorEq,jB,jC,jD,jE,jF,jG]
theorem tQ(ts:List Tok)(i n:Nat)(H:TsV ts)(k k':QK)(mk:List Ts->QK)(w:ByteArray)(op:Int)(g:FuncId)
 (hk:∀n a L,ff ts (n+1) k a L=(ff ts n k' a L).bind fun s a1 L1=>ff ts n (mk [s]) a1 L1)
 (hmk:∀n l a L,ff ts (n+1) (mk l) a L=if aG w ts a=true then(ff ts n k' (a+1) L).bind fun s a2 L2=>ff ts n (mk (l++[s])) a2 L2 else .ok (mr op l) a L)
 (hc:∀a,aC ts k' a+1≤aC ts k a)(hcm:∀l a,aC ts (mk l) a=40*(ts.length-a)+1)(hk40:∀a,aC ts k' a≤40*(ts.length-a)+16)(he:k'.eats=1)
 (hg:∀m,m≤n->jw ts i m k' g)(a:Nat)(L:Int)(ha:a≤ts.length)(hn:aC ts k a≤n+1)(hn2:40*(ts.length-a)+1≤n)(σ:LLV)(hi:σ[i]? = some (pq ts a L)):
 Fun G 64 [.ptr i 0,.d (ab op),.d (ae w),.bnd g [.ptr i 0]] σ (QC vts ts i σ (ff ts (n+1) k a L)):=by
 refine ai Tryz.func64 k64 rfl fun hb hw=>?_;have S:=Pst.init hi hb;have hL:=H.ok.len;obtain⟨y,hy⟩:∃y,y=ff ts (n+1) k a L:=⟨_,rfl⟩
 rw[<-hy];rw[hk]at hy;have hnu:aC ts k' a≤n:=by have:=hc a;omega
 have gU:=fw n k' a L ha hnu;unfold c64;simp -dsimp only[aw,jV,jW,jX,jY,jZ,jA,reduceIte,reduceCtorEq,jB,jC,jD,jE,jF,jG];refine fi S gU.ne (hg n (R0 _) a L ha hnu _ (au S.at_ _)) (fun s a1 L1 hs σ1 S1 hl1=>?_) (fun l' e b L2 hs σ1 S1 hl1=>?_)
 case refine_2=>
  rw[hs]at hy;rw[<-hl1];simp -dsimp only[aw,jV,jW,jX,jY,jZ,jA,reduceIte,reduceCtorEq,jB,jC,jD,jE,jF,jG];exact dB S1 hy
 rw[hs]at hy;have g1:=gU.ok s a1 L1 hs;rw[he]at g1;rw[<-hl1];simp -dsimp only[aw,jV,jW,jX,jY,jZ,jA,reduceIte,reduceCtorEq,jB,jC,jD,jE,jF,jG,ak]
 refine aY [0,1,2,3,8,9] (R:=fun(j:Nat) ρ σ'=>∃(m a1:Nat) (L1:Int) (l:List Ts) (σ2:LLV),ρ=[(0,.ptr i 0),(1,.d (ab op)),(2,.d (ae w)),(3,.bnd g [.ptr i 0]),(8,.ptr σ1.length 0),(9,.own 27 9 (l.map dts))]/\σ'=σ2++[Z9]/\Pst σ i ts a1 L1 σ2/\σ2.length=σ1.length/\a+1+j≤a1/\a1≤ts.length/\1≤l.length/\l.length≤a1/\40*(ts.length-a1)+1≤m/\m≤n/\y=ff ts m (mk l) a1 L1) (ts.length-a)
  ⟨n,a1,L1,[s],σ1,by rw[RY,RZ,bw];rfl,rfl,S1,rfl,by omega,g1.2,by simp,by simp;omega,by omega,R0 _,hy⟩ ?_ _
 rintro j ρ' σ' hj ⟨m,a1,L1,l,σ2,rfl,rfl,S2,hl2,h1,h2,h5,h6,h3,h4,hy⟩;obtain⟨m,rfl⟩:∃m',m=m'+1:=⟨m-1,by omega⟩
 rw[hmk]at hy;have h1lt:=S2.lt;rw[<-hl2];simp -dsimp only[aw,jV,jW,jX,jY,jZ,jA,reduceIte,reduceCtorEq,jB,jC,jD,jE,jF,jG];refine jL H S2 (by omega) (fun hs3 ha3 σ3 S3 hl3=>?_) (fun hs3=>?_)
 case refine_2=>
  rw[hs3,if_neg (by decide)]at hy;by_cases hl1:l.length=1
  .obtain⟨s1,rfl⟩:=List.length_eq_one_iff.1 hl1;have d1:decide (((1:Nat):Int)=1)=true:=rfl;have e0:iaV 9 (V.d (D.sl [[ab s1.op,ab s1.lo,ab s1.hi,ab s1.ex.op,ab s1.ex.num,ae s1.ex.name,D.sl (s1.ex.args.map dex),ae s1.name,D.sl (s1.args.map dts)]])) (V.d (D.lit (Value.int IntKind.i64 0)))=some (.row [ab s1.op,ab s1.lo,ab s1.hi,ab s1.ex.op,ab s1.ex.num,ae s1.ex.name,D.sl (s1.ex.args.map dex),ae s1.name,D.sl (s1.args.map dts)] 0):=rfl;simp -dsimp only[aw,jV,jW,jX,jY,jZ,jA,reduceIte,reduceCtorEq,jB,jC,jD,jE,jF,jG,d1,bw s1,e0];refine ew (mk:=vts) S2 hy (by simp only[mr,ak];rfl) ?_;simp only[mr,ak];simp[KJ,aU,bu,aw,jV,jW,jX,jY,jZ,jA,reduceIte,reduceCtorEq,jB,jC,jD,jE,jF,jG]
  .have d1:decide (((l.length:Nat):Int)=1)=false:=by rw[decide_eq_false_iff_not];omega
   rw[sJ (by omega)]at hy;simp -dsimp only[aw,jV,jW,jX,jY,jZ,jA,reduceIte,reduceCtorEq,jB,jC,jD,jE,jF,jG,d1,RX];refine ew S2 hy (by rw[ak];rfl) ?_;simp only[nT,zEx,ak];simp[KJ,aU,bu,Ts.op,Ts.lo,Ts.hi,Ts.ex,Ts.name,Ts.args,bL,be,aJ,aK,aw,jV,jW,jX,jY,jZ,jA,reduceIte,reduceCtorEq,jB,jC,jD,jE,jF,jG]
 rw[hs3,if_pos rfl]at hy;have hnx:aC ts k' (a1+1)≤m:=by have:=hk40 (a1+1);omega
 have gX:=fw m k' (a1+1) L1 ha3 hnx;rw[<-hl3];simp -dsimp only[aw,jV,jW,jX,jY,jZ,jA,reduceIte,reduceCtorEq,jB,jC,jD,jE,jF,jG];refine fi S3 gX.ne (hg m (by omega) (a1+1) L1 ha3 hnx _ (au S3.at_ _)) (fun s4 a4 L4 hs4 σ4 S4 hl4=>?_) (fun l' e b L2 hs4 σ4 S4 hl4=>?_)
 case refine_2=>
  rw[hs4]at hy;rw[<-hl4];simp -dsimp only[aw,jV,jW,jX,jY,jZ,jA,reduceIte,reduceCtorEq,jB,jC,jD,jE,jF,jG];exact dB S4 hy
 rw[hs4]at hy;have g4:=gX.ok s4 a4 L4 hs4;rw[he]at g4;rw[<-hl4];simp -dsimp only[aw,jV,jW,jX,jY,jZ,jA,reduceIte,reduceCtorEq,jB,jC,jD,jE,jF,jG,ak];refine bH (by first|omega|(simp only[RX,maxLen];omega)) ?_;simp -dsimp only[aw,jV,jW,jX,jY,jZ,jA,reduceIte,reduceCtorEq,jB,jC,jD,jE,jF,jG];refine⟨by omega,Nxt.to (σ4++[Z9]) [] (by simp) (by simp) (av S4.bb rfl) ?_ ⟨m,a4,L4,l++[s4],σ4,?_,rfl,S4,by omega,by omega,g4.2,by simp,by simp;omega,by omega,by omega,hy⟩⟩
 .have:=S4.lt;simp[am,V.under,V.unders,S4.len];omega
 .rw[hl4,hl3,hl2,List.map_append,RY,RZ,bw s4]
theorem J4(ts:List Tok)(i n:Nat)(H:TsV ts)(hA:∀m,m≤n->jw ts i m .A 65)(a:Nat)(L:Int)(ha:a≤ts.length)(hn:aC ts .S a≤n+1)(σ:LLV)(hi:σ[i]? = some (pq ts a L)):
 Fun G 32 [.ptr i 0] σ (QC vts ts i σ (ff ts (n+1) .S a L)):=by
 have hn2:40*(ts.length-a)+1≤n:=by simp only[aC,QK.cost]at *;omega
 refine ai Tryz.func32 k32 rfl fun hb hw=>?_;have S:=Pst.init hi hb;have hlist:=fun l=>tQ ts i n H .S .A QK.Sp orW 4 65 (fun _ _ _=>rfl) (fun _ _ _ _=>rfl) (fun a=>by simp only[aC,QK.cost];omega) (fun _ _=>rfl) (fun a=>by simp only[aC,QK.cost];omega) rfl hA a L ha hn hn2 (σ++l) (au S.at_ l);have gS:=fw (n+1) .S a L ha hn;generalize ff ts (n+1) .S a L=y at *;unfold c32;simp -dsimp only[aw,jV,jW,jX,jY,jZ,jA,reduceIte,reduceCtorEq,jB,jC,jD,jE,jF,jG];refine fi S gS.ne (hlist _) (fun s a1 L1 hs σ1 S1 hl1=>?_) (fun l' e b L2 hs σ1 S1 hl1=>?_)
 .rw[<-hl1];simp -dsimp only[aw,jV,jW,jX,jY,jZ,jA,reduceIte,reduceCtorEq,jB,jC,jD,jE,jF,jG,ak];refine ew S1 hs (by rw[ak];rfl) ?_;rw[ak];simp[Oc,aU,bu,aw,jV,jW,jX,jY,jZ,jA,reduceIte,reduceCtorEq,jB,jC,jD,jE,jF,jG]
 .rw[<-hl1];simp -dsimp only[aw,jV,jW,jX,jY,jZ,jA,reduceIte,reduceCtorEq,jB,jC,jD,jE,jF,jG];exact dB S1 hs
theorem IU(ts:List Tok)(i n:Nat)(H:TsV ts)(hD:∀m,m≤n->jw ts i m .D 100)(a:Nat)(L:Int)(ha:a≤ts.length)(hn:aC ts .A a≤n+1)(σ:LLV)(hi:σ[i]? = some (pq ts a L)):
 Fun G 65 [.ptr i 0] σ (QC vts ts i σ (ff ts (n+1) .A a L)):=by
 have hn2:40*(ts.length-a)+1≤n:=by simp only[aC,QK.cost]at *;omega
 refine ai Tryz.func65 k65 rfl fun hb hw=>?_;have S:=Pst.init hi hb;have hlist:=fun l=>tQ ts i n H .A .D QK.Ap kr 5 100 (fun _ _ _=>rfl) (fun _ _ _ _=>rfl) (fun a=>by simp only[aC,QK.cost];omega) (fun _ _=>rfl) (fun a=>by simp only[aC,QK.cost];omega) rfl hD a L ha hn hn2 (σ++l) (au S.at_ l);have gS:=fw (n+1) .A a L ha hn;generalize ff ts (n+1) .A a L=y at *;unfold c65;simp -dsimp only[aw,jV,jW,jX,jY,jZ,jA,reduceIte,reduceCtorEq,jB,jC,jD,jE,jF,jG];refine fi S gS.ne (hlist _) (fun s a1 L1 hs σ1 S1 hl1=>?_) (fun l' e b L2 hs σ1 S1 hl1=>?_)
 .rw[<-hl1];simp -dsimp only[aw,jV,jW,jX,jY,jZ,jA,reduceIte,reduceCtorEq,jB,jC,jD,jE,jF,jG,ak];refine ew S1 hs (by rw[ak];rfl) ?_;rw[ak];simp[OH,aU,bu,aw,jV,jW,jX,jY,jZ,jA,reduceIte,reduceCtorEq,jB,jC,jD,jE,jF,jG]
 .rw[<-hl1];simp -dsimp only[aw,jV,jW,jX,jY,jZ,jA,reduceIte,reduceCtorEq,jB,jC,jD,jE,jF,jG];exact dB S1 hs
theorem A6(ts:List Tok)(i:Nat)(H:TsV ts):∀n,jw ts i n .S 32/\jw ts i n .A 65/\jw ts i n .D 100/\jw ts i n .H 138/\jw ts i n .R 169/\jw ts i n .U 198:=by
 intro n
 induction n using Nat.strongRecOn with
 | _ n ih=>
 cases n with
 | zero=>exact⟨fun b L hb hn=>by simp only[aC,QK.cost]at hn;omega,fun b L hb hn=>by simp only[aC,QK.cost]at hn;omega,fun b L hb hn=>by simp only[aC,QK.cost]at hn;omega,fun b L hb hn=>by simp only[aC,QK.cost]at hn;omega,fun b L hb hn=>by simp only[aC,QK.cost]at hn;omega,fun b L hb hn=>by simp only[aC,QK.cost]at hn;omega⟩
 | succ n=>
  have hm:=fun m (h:m≤n)=>ih m (by omega)
  exact⟨fun b L hb hn σ hi=>J4 ts i n H (fun m h=>(hm m h).2.1) b L hb hn σ hi,
   fun b L hb hn σ hi=>IU ts i n H (fun m h=>(hm m h).2.2.1) b L hb hn σ hi,
   fun b L hb hn σ hi=>yM ts i n H (fun m h=>(hm m h).2.2.2.1) b L hb hn σ hi,
   fun b L hb hn σ hi=>D6 ts i n H (hm n (R0 _)).2.2.2.1 (hm n (R0 _)).2.2.2.2.1 b L hb hn σ hi,
   fun b L hb hn σ hi=>GH ts i n H (hm n (R0 _)).2.2.2.2.2 b L hb hn σ hi,
   fun b L hb hn σ hi=>DM ts i n H (hm n (R0 _)).1 b L hb hn σ hi⟩
def pfl(ts:List Tok):Nat:=40*ts.length+12
abbrev Z21:List V:=.d (ae ⟨#[]⟩)::.d (.lit (.bool false))::.d (.lit (.bool false))::(Z9++Z9)
theorem uh(ts:List Tok)(i:Nat)(H:TsV ts)(a:Nat)(L:Int)(ha:a≤ts.length)(σ:LLV)(hi:σ[i]? = some (pq ts a L)):
 Fun G 24 [.ptr i 0] σ (QC vpr ts i σ (ip ts (pfl ts) a L)):=by
 refine ai Tryz.func24 k24 rfl fun hb hw=>?_;have S:=Pst.init hi hb;have hL:=H.ok.len;have hS:=(A6 ts i H (pfl ts)).1;have hg:∀b L,b≤ts.length->GF ts (b+1) (ff ts (pfl ts) .S b L):=fun b L hb=>fw (pfl ts) .S b L hb (by simp only[aC,QK.cost,pfl];omega);have hn:∀b,aC ts .S b≤pfl ts:=fun b=>by simp only[aC,QK.cost,pfl];omega
 obtain⟨y,hy⟩:∃y,y=ip ts (pfl ts) a L:=⟨_,rfl⟩
 rw[<-hy];unfold ip at hy;unfold c24;simp -dsimp only[aw,jV,jW,jX,jY,jZ,jA,reduceIte,reduceCtorEq,jB,jC,jD,jE,jF,jG];refine fk H (m:=rW) S (by omega) (fun hs1 ha1 σ1 S1 hl1=>?_) (fun hs1 σ1 S1 hl1=>?_)
 case refine_2=>
  rw[da hs1]at hy;rw[<-hl1];simp -dsimp only[aw,jV,jW,jX,jY,jZ,jA,reduceIte,reduceCtorEq,jB,jC,jD,jE,jF,jG];exact cx S1 hy
 rw[cP hs1]at hy;rw[<-hl1];simp -dsimp only[aw,jV,jW,jX,jY,jZ,jA,reduceIte,reduceCtorEq,jB,jC,jD,jE,jF,jG];refine L9 H S1 (by omega) (fun t hn2 ha2 σ2 S2 hl2=>?_) (fun hn2=>?_)
 case refine_2=>
  rw[BP hn2]at hy;simp -dsimp only[aw,jV,jW,jX,jY,jZ,jA,reduceIte,reduceCtorEq,jB,jC,jD,jE,jF,jG];exact cx S1 hy
 rw[BS hn2]at hy;rw[<-hl2];simp -dsimp only[aw,jV,jW,jX,jY,jZ,jA,reduceIte,reduceCtorEq,jB,jC,jD,jE,jF,jG,fy];refine fk H (m:=aa 58) S2 (by omega) (fun hs3 ha3 σ3 S3 hl3=>?_) (fun hs3 σ3 S3 hl3=>?_)
 case refine_2=>
  rw[da hs3]at hy;rw[<-hl3];simp -dsimp only[aw,jV,jW,jX,jY,jZ,jA,reduceIte,reduceCtorEq,jB,jC,jD,jE,jF,jG];exact cx S3 hy
 rw[cP hs3]at hy;rw[<-hl3];generalize t.text=nm at *;obtain⟨b,hbe⟩:∃b,b=a+1+1+1:=⟨_,rfl⟩
 have hb2:b≤ts.length:=by omega
 rw[show a+1+1+1=b from hbe.symm]at hy S3;simp -dsimp only[aw,jV,jW,jX,jY,jZ,jA,reduceIte,reduceCtorEq,jB,jC,jD,jE,jF,jG];refine jL H (m:=jh) S3 (by omega) (fun hs4 ha4 σ4 S4 hl4=>?_) (fun hs4=>?_)
 .rw[hs4,if_pos rfl]at hy;rw[<-hl4];simp -dsimp only[aw,jV,jW,jX,jY,jZ,jA,reduceIte,reduceCtorEq,jB,jC,jD,jE,jF,jG];refine fi S4 (hg _ L ha4).ne (hS (b+1) L ha4 (hn _) _ (au S4.at_ _)) (fun s a5 L5 hs5 σ5 S5 hl5=>?_) (fun l' e b5 L5 hs5 σ5 S5 hl5=>?_)
  case refine_2=>
   rw[hs5]at hy;rw[<-hl5];simp -dsimp only[aw,jV,jW,jX,jY,jZ,jA,reduceIte,reduceCtorEq,jB,jC,jD,jE,jF,jG];exact dB S5 hy
  have g5:=(hg _ L ha4).ok s a5 L5 hs5;rw[hs5]at hy;have hy:y=cr ts (aa 59) a5 fun a6=>.ok ⟨nm,true,false,zT,s⟩ a6 L5:=hy;rw[<-hl5];simp -dsimp only[aw,jV,jW,jX,jY,jZ,jA,reduceIte,reduceCtorEq,jB,jC,jD,jE,jF,jG,ak];refine fk H (m:=aa 59) S5 (by omega) (fun hs6 ha6 σ6 S6 hl6=>?_) (fun hs6 σ6 S6 hl6=>?_)
  case refine_2=>
   rw[da hs6]at hy;rw[<-hl6];simp -dsimp only[aw,jV,jW,jX,jY,jZ,jA,reduceIte,reduceCtorEq,jB,jC,jD,jE,jF,jG];exact cx S6 hy
  rw[cP hs6]at hy;rw[<-hl6];simp -dsimp only[aw,jV,jW,jX,jY,jZ,jA,reduceIte,reduceCtorEq,jB,jC,jD,jE,jF,jG];refine ew S6 hy (by rw[bW];rfl) ?_;rw[bW];simp[IB,aU,bu,zT,Ts.op,Ts.lo,Ts.hi,Ts.ex,Ts.name,Ts.args,bL,be,aJ,aK,aw,jV,jW,jX,jY,jZ,jA,reduceIte,reduceCtorEq,jB,jC,jD,jE,jF,jG]
 rw[hs4,if_neg (by decide)]at hy;simp -dsimp only[aw,jV,jW,jX,jY,jZ,jA,reduceIte,reduceCtorEq,jB,jC,jD,jE,jF,jG];refine fi S3 (hg _ L hb2).ne (hS b L hb2 (hn _) _ (au S3.at_ _)) (fun c a5 L5 hs5 σ5 S5 hl5=>?_) (fun l' e b5 L5 hs5 σ5 S5 hl5=>?_)
 case refine_2=>
  rw[hs5]at hy;rw[<-hl5];simp -dsimp only[aw,jV,jW,jX,jY,jZ,jA,reduceIte,reduceCtorEq,jB,jC,jD,jE,jF,jG];exact dB S5 hy
 have g5:=(hg _ L hb2).ok c a5 L5 hs5;rw[hs5]at hy
 have hy:y=cr ts (aa 124) a5 fun a6=>if aG (aE 45 62) ts a6=true then(ff ts (pfl ts) .S (a6+1) L5).bind fun t a7 L7=>cr ts (aa 59) a7 fun a8=>.ok ⟨nm,false,true,c,t⟩ a8 L7
  else cr ts (aE 61 62) a6 fun a7=>(ff ts (pfl ts) .S a7 L5).bind fun t a8 L8=>cr ts (aa 59) a8 fun a9=>.ok ⟨nm,false,false,c,t⟩ a9 L8:=hy
 rw[<-hl5];simp -dsimp only[aw,jV,jW,jX,jY,jZ,jA,reduceIte,reduceCtorEq,jB,jC,jD,jE,jF,jG,ak];refine fk H (m:=aa 124) S5 (by omega) (fun hs6 ha6 σ6 S6 hl6=>?_) (fun hs6 σ6 S6 hl6=>?_)
 case refine_2=>
  rw[da hs6]at hy;rw[<-hl6];simp -dsimp only[aw,jV,jW,jX,jY,jZ,jA,reduceIte,reduceCtorEq,jB,jC,jD,jE,jF,jG];exact cx S6 hy
 rw[cP hs6]at hy;rw[<-hl6];simp -dsimp only[aw,jV,jW,jX,jY,jZ,jA,reduceIte,reduceCtorEq,jB,jC,jD,jE,jF,jG];refine jL H (m:=aE 45 62) S6 (by omega) (fun hs7 ha7 σ7 S7 hl7=>?_) (fun hs7=>?_)
 .rw[hs7,if_pos rfl]at hy;rw[<-hl7];simp -dsimp only[aw,jV,jW,jX,jY,jZ,jA,reduceIte,reduceCtorEq,jB,jC,jD,jE,jF,jG];refine fi S7 (hg _ L5 ha7).ne (hS (a5+1+1) L5 ha7 (hn _) _ (au S7.at_ _)) (fun s a8 L8 hs8 σ8 S8 hl8=>?_) (fun l' e b8 L8 hs8 σ8 S8 hl8=>?_)
  case refine_2=>
   rw[hs8]at hy;rw[<-hl8];simp -dsimp only[aw,jV,jW,jX,jY,jZ,jA,reduceIte,reduceCtorEq,jB,jC,jD,jE,jF,jG];exact dB S8 hy
  have g8:=(hg _ L5 ha7).ok s a8 L8 hs8;rw[hs8]at hy;have hy:y=cr ts (aa 59) a8 fun a9=>.ok ⟨nm,false,true,c,s⟩ a9 L8:=hy;rw[<-hl8];simp -dsimp only[aw,jV,jW,jX,jY,jZ,jA,reduceIte,reduceCtorEq,jB,jC,jD,jE,jF,jG,ak];refine fk H (m:=aa 59) S8 (by omega) (fun hs9 ha9 σ9 S9 hl9=>?_) (fun hs9 σ9 S9 hl9=>?_)
  case refine_2=>
   rw[da hs9]at hy;rw[<-hl9];simp -dsimp only[aw,jV,jW,jX,jY,jZ,jA,reduceIte,reduceCtorEq,jB,jC,jD,jE,jF,jG];exact cx S9 hy
  rw[cP hs9]at hy;rw[<-hl9];simp -dsimp only[aw,jV,jW,jX,jY,jZ,jA,reduceIte,reduceCtorEq,jB,jC,jD,jE,jF,jG];refine ew S9 hy (by rw[bW];rfl) ?_;rw[bW];simp[IB,aU,bu,aw,jV,jW,jX,jY,jZ,jA,reduceIte,reduceCtorEq,jB,jC,jD,jE,jF,jG]
 rw[hs7,if_neg (by decide)]at hy;simp -dsimp only[aw,jV,jW,jX,jY,jZ,jA,reduceIte,reduceCtorEq,jB,jC,jD,jE,jF,jG];refine fk H (m:=aE 61 62) S6 (by omega) (fun hs7 ha7 σ7 S7 hl7=>?_) (fun hs7 σ7 S7 hl7=>?_)
 case refine_2=>
  rw[da hs7]at hy;rw[<-hl7];simp -dsimp only[aw,jV,jW,jX,jY,jZ,jA,reduceIte,reduceCtorEq,jB,jC,jD,jE,jF,jG];exact cx S7 hy
 rw[cP hs7]at hy;rw[<-hl7];simp -dsimp only[aw,jV,jW,jX,jY,jZ,jA,reduceIte,reduceCtorEq,jB,jC,jD,jE,jF,jG];refine fi S7 (hg _ L5 ha7).ne (hS (a5+1+1) L5 ha7 (hn _) _ (au S7.at_ _)) (fun s a8 L8 hs8 σ8 S8 hl8=>?_) (fun l' e b8 L8 hs8 σ8 S8 hl8=>?_)
 case refine_2=>
  rw[hs8]at hy;rw[<-hl8];simp -dsimp only[aw,jV,jW,jX,jY,jZ,jA,reduceIte,reduceCtorEq,jB,jC,jD,jE,jF,jG];exact dB S8 hy
 have g8:=(hg _ L5 ha7).ok s a8 L8 hs8;rw[hs8]at hy;have hy:y=cr ts (aa 59) a8 fun a9=>.ok ⟨nm,false,false,c,s⟩ a9 L8:=hy;rw[<-hl8];simp -dsimp only[aw,jV,jW,jX,jY,jZ,jA,reduceIte,reduceCtorEq,jB,jC,jD,jE,jF,jG,ak];refine fk H (m:=aa 59) S8 (by omega) (fun hs9 ha9 σ9 S9 hl9=>?_) (fun hs9 σ9 S9 hl9=>?_)
 case refine_2=>
  rw[da hs9]at hy;rw[<-hl9];simp -dsimp only[aw,jV,jW,jX,jY,jZ,jA,reduceIte,reduceCtorEq,jB,jC,jD,jE,jF,jG];exact cx S9 hy
 rw[cP hs9]at hy;rw[<-hl9];simp -dsimp only[aw,jV,jW,jX,jY,jZ,jA,reduceIte,reduceCtorEq,jB,jC,jD,jE,jF,jG];refine ew S9 hy (by rw[bW];rfl) ?_;rw[bW];simp[IB,aU,bu,aw,jV,jW,jX,jY,jZ,jA,reduceIte,reduceCtorEq,jB,jC,jD,jE,jF,jG]
theorem Ca(σ:LLV)(i j:Nat):gN G 44 [.ptr i 0,.ptr j 0] σ none (fun σ'=>σ'=σ):=by
 refine iD Tryz.func44 k44 rfl (fun v h=>by cases h) fun hb=>?_;unfold c44;simp -dsimp only[aw,jV,jW,jX,jY,jZ,jA,reduceIte,reduceCtorEq,jB,jC,jD,jE,jF,jG,Bu,A9,Option.getD_none];exact⟨σ.length,R0 _,by rw[RS];exact hb,RS⟩
theorem NN(τ:LLV)(a b:List V)(l r:LLV):(τ++(a::b::(l++r))).take (τ.length+(l.length+2))=τ++a::b::l:=by
 rw[List.take_append,List.take_of_length_le (by omega),Nat.add_sub_cancel_left];simp
theorem uk(τ:LLV)(l e:Int)(x:List V):gN G 44 [.ptr τ.length 0,.ptr (τ.length+1) 0] (τ++[[.d (ab 0)],[.d (ab 0)],x]) (some (gL l e))
 (fun σ'=>σ'=τ++[[.d (ab l)],[.d (ab e)],x]):=by
 refine iD Tryz.func44 k44 rfl (fun v h=>by cases h;rfl) fun hb=>?_;unfold c44 gL;simp -dsimp only[aw,jV,jW,jX,jY,jZ,jA,reduceIte,reduceCtorEq,jB,jC,jD,jE,jF,jG,Bu,A9,Option.getD_some];have hT:∀y:List V,(τ++[[.d (ab l)],[.d (ab e)],x,y]).take (τ.length+3)=τ++[[V.d (ab l)],[V.d (ab e)],x]:=fun y=>NN τ _ _ [x] [y];refine⟨τ.length+3,by simp,?_,?_⟩
 .rw[hT];simp only[List.length_append,List.length_cons,List.length_nil,Nat.reduceAdd]at hb;unfold aj at hb ⊢;rw[List.all_append,Bool.and_eq_true]at hb ⊢;refine⟨hb.1,?_⟩;have:=hb.2;simp only[List.all_cons,List.all_nil,Bool.and_true,Bool.and_eq_true]at this ⊢;exact⟨rfl,rfl,this.2.2⟩
 .rw[hT]
section
variable {α : Type}
def kG(F:List Tok->QF α)(l:Bs):Int×Int×Option α:=
 if 16384<l.length then(0,2,none)else match dP l with
  | .err n e=>(n,e,none)
  | .ok ts=>match F ts with
   | .out=>(0,1,none)
   | .bad l e=>(l,e,none)
   | .ok v a L=>if a<ts.length then((bV ts a).1,5,some v)else(0,L,some v)
theorem pj(z:α)(valid:α->Int){f:List Tok->QR α}{F:List Tok->QF α}(l:Bs)(hfit:∀ts,Fit ts 0 (F ts) (f ts))(hg:∀ts,GF ts 0 (F ts)):
 ((kG F l).2.1≠0->Gx z (wX z valid f l) z (kG F l).1 (kG F l).2.1)/\
 ((kG F l).2.1=0->∃v ts,(kG F l).2.2=some v/\(kG F l).1=0/\l.length≤16384/\dP l=.ok ts/\f ts=.ok v []/\wX z valid f l=some (if valid v=0 then(v,0,0)else(z,0,valid v))):=by
 unfold kG wX;by_cases hl:16384<l.length
 .rw[if_pos hl,if_pos hl];exact⟨fun _=>rfl,fun h=>by simp at h⟩
 rw[if_neg hl,if_neg hl];cases ht:dP l with
 | err n e=>exact⟨fun _=>rfl,fun h=>absurd h (uu ht)⟩
 | ok ts=>
  simp only;have h1:=hfit ts;have h2:=hg ts;cases hy:F ts with
  | out=>exact absurd hy h2.ne
  | bad l' e=>
   rw[hy]at h1;have he:=h2.bad l' e hy;simp only;refine⟨fun _=>?_,fun h=>absurd h he⟩;rcases h1 with h1|h1|h1
   .exact absurd rfl h1
   .rw[h1];exact⟨rfl,he⟩
   .rw[h1];rfl
  | ok v a L=>
   rw[hy]at h1;have h1:Rt 0 (f ts) L v (ts.drop a):=h1;simp only;by_cases ha:a<ts.length
   .rw[if_pos ha];refine⟨fun _=>?_,fun h=>by simp at h⟩;by_cases hL:L=0
    .rw[(h1.z hL).2,List.drop_eq_getElem_cons ha];show(z,ts[a].line,(5:Int))=(z,(bV ts a).1,5)
     unfold bV;rw[RU ha]
    .rw[(h1.nz hL).resolve_left (fun h=>h rfl)];exact⟨rfl,by simp only;decide⟩
   .rw[if_neg ha];refine⟨fun hL=>?_,fun hL=>?_⟩
    .rw[(h1.nz hL).resolve_left (fun h=>h rfl)];exact⟨rfl,hL⟩
    .have h3:=(h1.z hL).2;rw[List.drop_eq_nil_of_le (by omega)]at h3;exact⟨v,ts,rfl,rfl,by omega,rfl,h3,by rw[h3];rfl⟩
end
theorem KW{l:Bs}{ts:List Tok}(h:dP l=.ok ts)(hl:l.length≤16384):TsV ts:=⟨IM h hl,fun t ht=>((gE h).1 t ht).1⟩
def Ow{α:Type}(cells:α->List V)(r:Int×Int×Option α)(σ:LLV)(o:Nat):Out->LLV->Prop:=fun out σ'=>
 out=.ret (.tup [.d (ab r.1),.d (ab r.2.1)])/\∃X,σ'=σ.set o X/\(∀v,r.2.2=some v->X=cells v)/\∀n,V.unders n X=true
def JX{α:Type}(cells:α->List V)(ts:List Tok)(i o:Nat)(τ:LLV)(y:QF α):Out->LLV->Prop:=fun out σ'=>match y with
 | .out=>False
 | .bad l e=>out=.panic (gL l e)/\∃b L2 X,σ'=(τ.set i (pq ts b L2)).set o X/\∀n,V.unders n X=true
 | .ok v a2 L2=>out=.ret (.tup [])/\σ'=(τ.set i (pq ts a2 L2)).set o (cells v)
theorem mT{α:Type}(cells:α->List V)(F:List Tok->QF α)(g:FuncId)(l:Bs)(o:Nat)(X0:List V)(σ:LLV)(ho:σ[o]? = some X0)(hX0:∀n,V.unders n X0=true)(hcl:∀v n,V.unders n (cells v)=true)(hF:∀ts,GF ts 0 (F ts))
 (hc:∀ts,TsV ts->ts.length≤16384->∀(i:Nat) (τ:LLV),o<i->τ[i]? = some (pq ts 0 0)->τ[o]? = some X0->Fun G g [.ptr i 0,.ptr o 0] τ (JX cells ts i o τ (F ts))):
 Fun G 22 [.d (ae (bs l)),.fn g [.ptr o 0]] σ (Ow cells (kG F l) σ o):=by
 refine rz Tryz.func22 k22 rfl fun hb hw=>?_;have hol:=(List.getElem?_eq_some_iff.1 ho).1
 have hs0:σ.set o X0=σ:=by
  have:=(List.getElem?_eq_some_iff.1 ho).2;rw[<-this];exact List.set_getElem_self hol
 unfold c22
 have early:∀(n e:Int) (x:LLV) ρ,kG F l=(n,e,none)->aU (σ++x) ρ xX=some (.tup [.d (ab n),.d (ab e)])->fin σ.length xX (Ow cells (kG F l) σ o) .ret ρ (σ++x):=fun n e x ρ hp h=>by
  rw[hp];exact ao hb h rfl RS ⟨rfl,X0,hs0.symm,(fun v h=>by cases h),hX0⟩
 by_cases hbig:16384<l.length
 .have hP:kG F l=(0,2,none):=by unfold kG;rw[if_pos hbig]
  simp -dsimp only[aw,jV,jW,jX,jY,jZ,jA,reduceIte,reduceCtorEq,jB,jC,jD,jE,jF,jG,sB];refine ac (xD l hbig _) ?_;simp -dsimp only[aw,jV,jW,jX,jY,jZ,jA,reduceIte,reduceCtorEq,jB,jC,jD,jE,jF,jG,sB,Int.reduceEq,decide_false];refine early 0 2 _ _ hP ?_;simp[xX,aU,di,bu,aw,jV,jW,jX,jY,jZ,jA,reduceIte,reduceCtorEq,jB,jC,jD,jE,jF,jG]
 have ht:=AF l (by omega);have hR:wM l=xQ (dP l):=by unfold wM;rw[if_neg hbig]
 rw[hR]at ht;cases hx:dP l with
 | err n e=>
  have hP:kG F l=(n,e,none):=by unfold kG;rw[if_neg hbig,hx]
  have de:=decide_eq_false (uu hx);rw[hx]at ht;unfold xQ at ht;simp -dsimp only[aw,jV,jW,jX,jY,jZ,jA,reduceIte,reduceCtorEq,jB,jC,jD,jE,jF,jG,sB];refine ac (ht _) ?_;simp -dsimp only[aw,jV,jW,jX,jY,jZ,jA,reduceIte,reduceCtorEq,jB,jC,jD,jE,jF,jG,sB,de];refine early n e _ _ hP ?_;simp[xX,aU,di,bu,aw,jV,jW,jX,jY,jZ,jA,reduceIte,reduceCtorEq,jB,jC,jD,jE,jF,jG]
 | ok ts=>
  have H:=KW hx (by omega);have hL:=H.ok.len;have hl16:=(gE hx).2
  have hP:kG F l=match F ts with
   | .out=>(0,1,none)
   | .bad l e=>(l,e,none)
   | .ok v a L=>if a<ts.length then((bV ts a).1,5,some v)else(0,L,some v):=by unfold kG;rw[if_neg hbig,hx]
  rw[hx]at ht;unfold xQ at ht;have hC:=hc ts H (by omega) (σ.length+2);have hg:=hF ts;rw[hP];simp -dsimp only[aw,jV,jW,jX,jY,jZ,jA,reduceIte,reduceCtorEq,jB,jC,jD,jE,jF,jG,sB];refine ac (ht _) ?_;simp -dsimp only[aw,jV,jW,jX,jY,jZ,jA,reduceIte,reduceCtorEq,jB,jC,jD,jE,jF,jG,decide_true,sB,KC];refine aW (hC _ (by omega) (by rw[mJ];rfl) (au ho _)) fun out σ' hq=>?_;cases hy:F ts with
  | out=>exact absurd hy hg.ne
  | bad l' e=>
   rw[hy]at hq;obtain⟨rfl,b,L2,X,rfl,hX⟩:=hq;rw[lw,aR ho];obtain⟨τ,hτ⟩:∃τ,τ=σ.set o X:=⟨_,rfl⟩
   have hτl:τ.length=σ.length:=by rw[hτ,RW]
   have hτb:aj τ.length τ=true:=by rw[hτl,hτ];exact bv hb (hX _)
   rw[<-hτ,<-hτl];simp -dsimp only[aw,jV,jW,jX,jY,jZ,jA,reduceIte,reduceCtorEq,jB,jC,jD,jE,jF,jG,bE];refine(uk τ l' e (pq ts b L2)).mono fun σ' h=>?_;subst h;exact⟨.tup [.d (ab l'),.d (ab e)],by simp[xX,aU,di,bu,aw,jV,jW,jX,jY,jZ,jA,reduceIte,reduceCtorEq,jB,jC,jD,jE,jF,jG],τ.length,R0 _,by rw[RS];exact hτb,rfl,by rw[RS];exact⟨rfl,X,hτ,(fun v h=>by cases h),hX⟩⟩
  | ok v a2 L2=>
   rw[hy]at hq;obtain⟨rfl,rfl⟩:=hq;have hga:=(hg.ok v a2 L2 hy).2;rw[lw,aR ho];obtain⟨τ,hτ⟩:∃τ,τ=σ.set o (cells v):=⟨_,rfl⟩
   have hτl:τ.length=σ.length:=by rw[hτ,RW]
   have hτb:aj τ.length τ=true:=by rw[hτl,hτ];exact bv hb (hcl _ _)
   rw[<-hτ,<-hτl];by_cases hlt:a2<ts.length
   .have d1:decide (((a2:Nat):Int)<((ts.length:Nat):Int))=true:=by rw[decide_eq_true_eq];omega
    have hF:=oj ts a2 (τ.length+2) L2 H (by omega) (τ++[[.d (ab 0)],[.d (ab 0)],pq ts a2 L2]) (by rw[mJ];rfl);have hfv:jm ts a2=gL (bV ts a2).1 5:=by unfold jm bV;rw[RU hlt]
    simp only;rw[if_pos hlt];rw[hfv]at hF;simp -dsimp only[aw,jV,jW,jX,jY,jZ,jA,reduceIte,reduceCtorEq,jB,jC,jD,jE,jF,jG,bg,pq,d1];refine aW hF fun o' σ' ⟨e1,e2⟩=>?_;subst e1;subst e2;simp -dsimp only[aw,jV,jW,jX,jY,jZ,jA,reduceIte,reduceCtorEq,jB,jC,jD,jE,jF,jG,bE];refine(uk τ (bV ts a2).1 5 (pq ts a2 L2)).mono fun σ' h=>?_;subst h;exact⟨.tup [.d (ab (bV ts a2).1),.d (ab 5)],by simp[xX,aU,di,bu,aw,jV,jW,jX,jY,jZ,jA,reduceIte,reduceCtorEq,jB,jC,jD,jE,jF,jG],τ.length,R0 _,by rw[RS];exact hτb,rfl,by rw[RS];exact⟨rfl,cells v,hτ,(fun w h=>by cases h;rfl),fun n=>hcl v n⟩⟩
   .have d1:decide (((a2:Nat):Int)<((ts.length:Nat):Int))=false:=by rw[decide_eq_false_iff_not];omega
    simp only;rw[if_neg hlt];simp -dsimp only[aw,jV,jW,jX,jY,jZ,jA,reduceIte,reduceCtorEq,jB,jC,jD,jE,jF,jG,bg,pq,d1];refine(Ca _ _ _).mono fun σ' h=>?_;subst h;exact⟨.tup [.d (ab 0),.d (ab L2)],by simp[xX,aU,di,bu,aw,jV,jW,jX,jY,jZ,jA,reduceIte,reduceCtorEq,jB,jC,jD,jE,jF,jG],τ.length,R0 _,by rw[RS];exact hτb,rfl,by rw[RS];exact⟨rfl,cells v,hτ,(fun w h=>by cases h;rfl),fun n=>hcl v n⟩⟩
end Go.Proofs.YthekkgfmagliiaaGreatDoor
