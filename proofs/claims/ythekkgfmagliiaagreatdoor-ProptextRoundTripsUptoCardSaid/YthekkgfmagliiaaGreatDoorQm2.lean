import Derived.Test.YthekkgfmagliiaaGreatDoorQm1
set_option linter.unusedVariables false
set_option linter.unusedSimpArgs false
set_option linter.unusedSectionVars false
set_option maxHeartbeats 4000000
open Bool renaming and_eq_true->RS,false_or->RU,true_or->RW
open List renaming getElem?_eq_getElem->RX,getElem?_eq_none->RY
open Nat renaming le_refl->RZ
namespace Go.Proofs.YthekkgfmagliiaaGreatDoor
open Go.RowKit
open Nat renaming reduceLeDiff -> jA, reduceBEq -> jB, reduceLT -> jC, reduceEqDiff -> jD, reduceAdd -> jE, reduceSub -> jF, reduceMul -> jG
open V renaming copy -> jV, lend -> jW, lend1 -> jX, cells -> jY, boxable -> jZ
theorem t8(ms:List ByteArray)(ts:List Tok)(a b i:Nat)(L:Int)(H:TsV ts)(hb9:b≤3000000)(hms:ms.length≤100)(σ:LLV)(hi:σ[i]? = some (pq ts a L)):
 Fun G 226 [.ptr i 0,.d (ab b),.d (.sl (ms.map fun m=>[ae m]))] σ (az (an (mkB ts b ms)) σ):=by
 refine ai Tryz.func226 Rr rfl fun hb hw=>?_;unfold Om;have hil:=(List.getElem?_eq_some_iff.1 hi).1;have hLn:=H.ok.len;unfold pq at hi;simp -dsimp only[aw,jV,jW,jX,jY,jZ,jA,reduceIte,reduceCtorEq,jB,jC,jD,jE,jF,jG];refine aY [0,1,9,10,11] (R:=fun(j:Nat) ρ σ'=>ρ=[(0,.ptr i 0),(1,.d (ab b)),(9,.d (.sl (ms.map fun m=>[ae m]))),(10,aI .i64 ms.length),(11,aI .i64 j)]/\σ'=σ/\∀t,ts[b]? = some t->t.kind=4->(ms.any fun m=>decide (t.text=m))=(ms.drop j).any fun m=>decide (t.text=m)) ms.length ⟨rfl,rfl,fun _ _ _=>by simp⟩ ?_ _;rintro j ρ' σ' hj ⟨rfl,rfl,hr⟩;by_cases hlt:j<ms.length
 .have hwn:=bl hlt (show ms.length≤9223372036854775807 by omega)
  have next:∀{R:ah->LLV->Prop},R [(0,.ptr i 0),(1,.d (ab b)),(9,.d (.sl (ms.map fun m=>[ae m]))),(10,aI .i64 ms.length),(11,aI .i64 (j+1:Nat))] σ'->Nxt σ'.length R [(0,.ptr i 0),(1,.d (ab b)),(9,.d (.sl (ms.map fun m=>[ae m]))),(10,aI .i64 ms.length),(11,aI .i64 (j+1:Nat))] σ' .mk:=fun h=>
   Nxt.same (RZ _) hb (by simp[am,V.under];exact hil) h
  by_cases hbl:b<ts.length
  .simp -dsimp only[aw,jV,jW,jX,jY,jZ,jA,reduceIte,reduceCtorEq,jB,jC,jD,jE,jF,jG,Int.ofNat_lt,hlt,hbl,decide_true,RX hlt,hi,RX hbl,aP,eA];by_cases hk:ts[b].kind=4
   .have hr':=hr _ (RX hbl) hk;rw[List.drop_eq_getElem_cons hlt,List.any_cons]at hr';cases hx:decide (ts[b].text=ms[j])with
    | true=>
     rw[hx,RW]at hr';simp -dsimp only[aw,jV,jW,jX,jY,jZ,jA,reduceIte,reduceCtorEq,jB,jC,jD,jE,jF,jG,decide_eq_true hk,hi,RX hbl,aP,eA,hx];rw[show mkB ts b ms=true by unfold mkB;rw[RX hbl];simp only;rw[decide_eq_true hk,hr'];rfl];first|exact aA hb rfl rfl|exact aB hb rfl rfl
    | false=>
     rw[hx,RU]at hr';simp -dsimp only[aw,jV,jW,jX,jY,jZ,jA,reduceIte,reduceCtorEq,jB,jC,jD,jE,jF,jG,decide_eq_true hk,hi,RX hbl,aP,eA,hx,hwn];exact⟨hlt,next ⟨rfl,rfl,fun t ht _=>by rw[RX hbl]at ht;cases ht;exact hr'⟩⟩
   .simp -dsimp only[aw,jV,jW,jX,jY,jZ,jA,reduceIte,reduceCtorEq,jB,jC,jD,jE,jF,jG,decide_eq_false hk,hwn];exact⟨hlt,next ⟨rfl,rfl,fun t ht hk2=>by rw[RX hbl]at ht;cases ht;exact absurd hk2 hk⟩⟩
  .simp -dsimp only[aw,jV,jW,jX,jY,jZ,jA,reduceIte,reduceCtorEq,jB,jC,jD,jE,jF,jG,Int.ofNat_lt,hlt,hbl,decide_true,decide_false,RX hlt,hi,hwn];exact next ⟨rfl,rfl,fun t ht _=>by rw[RY (by omega)]at ht;cases ht⟩
 .have hF:mkB ts b ms=false:=by
   unfold mkB;rw[List.drop_eq_nil_of_le (by omega)]at hr;cases hx:ts[b]? with
   | none=>rfl
   | some t=>
    simp only;by_cases hk:t.kind=4
    .rw[hr t hx hk];simp
    .rw[decide_eq_false hk];rfl
  rw[hF];simp -dsimp only[aw,jV,jW,jX,jY,jZ,jA,reduceIte,reduceCtorEq,jB,jC,jD,jE,jF,jG,Int.ofNat_lt,hlt,decide_false];first|exact aA hb rfl rfl|exact aB hb rfl rfl
theorem pL(ts:List Tok)(a b i:Nat)(L:Int)(H:TsV ts)(hb9:b≤3000000)(σ:LLV)(hi:σ[i]? = some (pq ts a L)):
 Fun G 225 [.ptr i 0,.d (ab b)] σ (az (.d (ab (fF ts b))) σ):=by
 refine ai Tryz.func225 QQ rfl fun hb hw=>?_;unfold OB;have hil:=(List.getElem?_eq_some_iff.1 hi).1;have hLn:=H.ok.len;unfold pq at hi;simp -dsimp only[aw,jV,jW,jX,jY,jZ,jA,reduceIte,reduceCtorEq,jB,jC,jD,jE,jF,jG];refine aY [0,1,5] (R:=fun(j:Nat) ρ σ'=>∃(c:Nat) (n:Int),ρ=[(0,.ptr i 0),(1,.d (ab c)),(5,.d (ab n))]/\σ'=σ/\c=b+j/\c≤max b ts.length/\fF ts b=clF ts (ts.length-c) c n) (max b ts.length-b) ⟨b,0,rfl,rfl,rfl,by omega,rfl⟩ ?_ _;rintro j ρ' σ' hj ⟨c,n,rfl,rfl,hc,hc2,hcl⟩;by_cases hlt:c<ts.length
 .have d1:decide (((c:Nat):Int)<((ts.length:Nat):Int))=true:=by rw[decide_eq_true_eq];omega
  have hw1:IntKind.i64.wrap (((c:Nat):Int)+1)=((c+1:Nat):Int):=by rw[aX (by omega) (by omega)];omega
  have next:∀(m:Int) {Q:ah->LLV->Prop},Q [(0,.ptr i 0),(1,.d (ab ((c+1:Nat):Int))),(5,.d (ab m))] σ'->Nxt σ'.length Q [(0,.ptr i 0),(1,.d (ab ((c+1:Nat):Int))),(5,.d (ab m))] σ' .mk:=fun m {Q} h=>
   Nxt.same (RZ _) hb (by simp[am,V.under];exact hil) h
  rw[show ts.length-c=(ts.length-(c+1))+1 by omega]at hcl;unfold clF at hcl;rw[RX hlt]at hcl;simp only at hcl;by_cases hk:ts[c].kind=4
  .rw[if_pos hk]at hcl;obtain⟨m,hm⟩:∃m,m=xw ts[c].text n:=⟨_,rfl⟩
   rw[<-hm]at hcl;unfold xw aa at hm;by_cases h1:ts[c].text=⟨#[40]⟩
   .have hd:IntKind.i64.wrap (n+1)=m:=by rw[hm,if_pos (by simp[h1])]
    simp -dsimp only[aw,jV,jW,jX,jY,jZ,jA,reduceIte,reduceCtorEq,jB,jC,jD,jE,jF,jG,hi,d1,RX hlt,aP,eA,decide_eq_true hk,decide_eq_true h1,hd];by_cases hm0:m=0
    .rw[if_pos hm0]at hcl;rw[hcl];simp -dsimp only[aw,jV,jW,jX,jY,jZ,jA,reduceIte,reduceCtorEq,jB,jC,jD,jE,jF,jG,decide_eq_true hm0,hw1];first|exact aA hb rfl rfl|exact aB hb rfl rfl
    .rw[if_neg hm0]at hcl;simp -dsimp only[aw,jV,jW,jX,jY,jZ,jA,reduceIte,reduceCtorEq,jB,jC,jD,jE,jF,jG,decide_eq_false hm0,hw1];exact⟨by omega,next _ ⟨c+1,m,rfl,rfl,by omega,by omega,hcl⟩⟩
   by_cases h2:ts[c].text=⟨#[91]⟩
   .have hd:IntKind.i64.wrap (n+1)=m:=by rw[hm,if_pos (by simp[h2])]
    simp -dsimp only[aw,jV,jW,jX,jY,jZ,jA,reduceIte,reduceCtorEq,jB,jC,jD,jE,jF,jG,hi,d1,RX hlt,aP,eA,decide_eq_true hk,decide_eq_false h1,decide_eq_true h2,hd];by_cases hm0:m=0
    .rw[if_pos hm0]at hcl;rw[hcl];simp -dsimp only[aw,jV,jW,jX,jY,jZ,jA,reduceIte,reduceCtorEq,jB,jC,jD,jE,jF,jG,decide_eq_true hm0,hw1];first|exact aA hb rfl rfl|exact aB hb rfl rfl
    .rw[if_neg hm0]at hcl;simp -dsimp only[aw,jV,jW,jX,jY,jZ,jA,reduceIte,reduceCtorEq,jB,jC,jD,jE,jF,jG,decide_eq_false hm0,hw1];exact⟨by omega,next _ ⟨c+1,m,rfl,rfl,by omega,by omega,hcl⟩⟩
   by_cases h3:ts[c].text=⟨#[123]⟩
   .have hd:IntKind.i64.wrap (n+1)=m:=by rw[hm,if_pos (by simp[h3])]
    simp -dsimp only[aw,jV,jW,jX,jY,jZ,jA,reduceIte,reduceCtorEq,jB,jC,jD,jE,jF,jG,hi,d1,RX hlt,aP,eA,decide_eq_true hk,decide_eq_false h1,decide_eq_false h2,decide_eq_true h3,hd];by_cases hm0:m=0
    .rw[if_pos hm0]at hcl;rw[hcl];simp -dsimp only[aw,jV,jW,jX,jY,jZ,jA,reduceIte,reduceCtorEq,jB,jC,jD,jE,jF,jG,decide_eq_true hm0,hw1];first|exact aA hb rfl rfl|exact aB hb rfl rfl
    .rw[if_neg hm0]at hcl;simp -dsimp only[aw,jV,jW,jX,jY,jZ,jA,reduceIte,reduceCtorEq,jB,jC,jD,jE,jF,jG,decide_eq_false hm0,hw1];exact⟨by omega,next _ ⟨c+1,m,rfl,rfl,by omega,by omega,hcl⟩⟩
   rw[if_neg (by simp[h1,h2,h3])]at hm;by_cases h4:ts[c].text=⟨#[41]⟩
   .have hd:IntKind.i64.wrap (n-1)=m:=by rw[hm,if_pos (by simp[h4])]
    simp -dsimp only[aw,jV,jW,jX,jY,jZ,jA,reduceIte,reduceCtorEq,jB,jC,jD,jE,jF,jG,hi,d1,RX hlt,aP,eA,decide_eq_true hk,decide_eq_false h1,decide_eq_false h2,decide_eq_false h3,decide_eq_true h4,hd];by_cases hm0:m=0
    .rw[if_pos hm0]at hcl;rw[hcl];simp -dsimp only[aw,jV,jW,jX,jY,jZ,jA,reduceIte,reduceCtorEq,jB,jC,jD,jE,jF,jG,decide_eq_true hm0,hw1];first|exact aA hb rfl rfl|exact aB hb rfl rfl
    .rw[if_neg hm0]at hcl;simp -dsimp only[aw,jV,jW,jX,jY,jZ,jA,reduceIte,reduceCtorEq,jB,jC,jD,jE,jF,jG,decide_eq_false hm0,hw1];exact⟨by omega,next _ ⟨c+1,m,rfl,rfl,by omega,by omega,hcl⟩⟩
   by_cases h5:ts[c].text=⟨#[93]⟩
   .have hd:IntKind.i64.wrap (n-1)=m:=by rw[hm,if_pos (by simp[h5])]
    simp -dsimp only[aw,jV,jW,jX,jY,jZ,jA,reduceIte,reduceCtorEq,jB,jC,jD,jE,jF,jG,hi,d1,RX hlt,aP,eA,decide_eq_true hk,decide_eq_false h1,decide_eq_false h2,decide_eq_false h3,decide_eq_false h4,decide_eq_true h5,hd];by_cases hm0:m=0
    .rw[if_pos hm0]at hcl;rw[hcl];simp -dsimp only[aw,jV,jW,jX,jY,jZ,jA,reduceIte,reduceCtorEq,jB,jC,jD,jE,jF,jG,decide_eq_true hm0,hw1];first|exact aA hb rfl rfl|exact aB hb rfl rfl
    .rw[if_neg hm0]at hcl;simp -dsimp only[aw,jV,jW,jX,jY,jZ,jA,reduceIte,reduceCtorEq,jB,jC,jD,jE,jF,jG,decide_eq_false hm0,hw1];exact⟨by omega,next _ ⟨c+1,m,rfl,rfl,by omega,by omega,hcl⟩⟩
   by_cases h6:ts[c].text=⟨#[125]⟩
   .have hd:IntKind.i64.wrap (n-1)=m:=by rw[hm,if_pos (by simp[h6])]
    simp -dsimp only[aw,jV,jW,jX,jY,jZ,jA,reduceIte,reduceCtorEq,jB,jC,jD,jE,jF,jG,hi,d1,RX hlt,aP,eA,decide_eq_true hk,decide_eq_false h1,decide_eq_false h2,decide_eq_false h3,decide_eq_false h4,decide_eq_false h5,decide_eq_true h6,hd];by_cases hm0:m=0
    .rw[if_pos hm0]at hcl;rw[hcl];simp -dsimp only[aw,jV,jW,jX,jY,jZ,jA,reduceIte,reduceCtorEq,jB,jC,jD,jE,jF,jG,decide_eq_true hm0,hw1];first|exact aA hb rfl rfl|exact aB hb rfl rfl
    .rw[if_neg hm0]at hcl;simp -dsimp only[aw,jV,jW,jX,jY,jZ,jA,reduceIte,reduceCtorEq,jB,jC,jD,jE,jF,jG,decide_eq_false hm0,hw1];exact⟨by omega,next _ ⟨c+1,m,rfl,rfl,by omega,by omega,hcl⟩⟩
   .rw[if_neg (by simp[h4,h5,h6])]at hm;subst hm;simp -dsimp only[aw,jV,jW,jX,jY,jZ,jA,reduceIte,reduceCtorEq,jB,jC,jD,jE,jF,jG,hi,d1,RX hlt,aP,eA,decide_eq_true hk,decide_eq_false h1,decide_eq_false h2,decide_eq_false h3,decide_eq_false h4,decide_eq_false h5,decide_eq_false h6];by_cases hm0:m=0
    .rw[if_pos hm0]at hcl;rw[hcl];simp -dsimp only[aw,jV,jW,jX,jY,jZ,jA,reduceIte,reduceCtorEq,jB,jC,jD,jE,jF,jG,decide_eq_true hm0,hw1];first|exact aA hb rfl rfl|exact aB hb rfl rfl
    .rw[if_neg hm0]at hcl;simp -dsimp only[aw,jV,jW,jX,jY,jZ,jA,reduceIte,reduceCtorEq,jB,jC,jD,jE,jF,jG,decide_eq_false hm0,hw1];exact⟨by omega,next _ ⟨c+1,m,rfl,rfl,by omega,by omega,hcl⟩⟩
  .rw[if_neg hk]at hcl;simp -dsimp only[aw,jV,jW,jX,jY,jZ,jA,reduceIte,reduceCtorEq,jB,jC,jD,jE,jF,jG,hi,d1,RX hlt,aP,eA,decide_eq_false hk,hw1];exact⟨by omega,next _ ⟨c+1,n,rfl,rfl,by omega,by omega,hcl⟩⟩
 .have d1:decide (((c:Nat):Int)<((ts.length:Nat):Int))=false:=by rw[decide_eq_false_iff_not];omega
  rw[show ts.length-c=0 by omega]at hcl;rw[hcl];simp -dsimp only[aw,jV,jW,jX,jY,jZ,jA,reduceIte,reduceCtorEq,jB,jC,jD,jE,jF,jG,hi,d1];first|exact aA hb rfl rfl|exact aB hb rfl rfl
theorem FH{ts:List Tok}{c:Nat}(h:¬c<ts.length)(ms:List ByteArray):mkB ts c ms=false:=by unfold mkB;rw[RY (by omega)]
theorem uL(ts:List Tok)(a b i:Nat)(L:Int)(H:TsV ts)(hb9:b≤2000000)(σ:LLV)(hi:σ[i]? = some (pq ts a L)):
 Fun G 224 [.ptr i 0,.d (ab b)] σ (az (.d (ab (bU ts b))) σ):=by
 refine ai Tryz.func224 Rh rfl fun hb hw=>?_;unfold MG;have hil:=(List.getElem?_eq_some_iff.1 hi).1;have hLn:=H.ok.len;have hM:∀(ms:List ByteArray) (c:Nat),ms.length≤100->c≤3000000->Fun G 226 [.ptr i 0,.d (ab c),.d (.sl (ms.map fun m=>[ae m]))] σ (az (an (mkB ts c ms)) σ):=fun ms c h1 h2=>t8 ms ts a c i L H h2 h1 σ hi;have hC:∀c:Nat,c≤3000000->Fun G 225 [.ptr i 0,.d (ab c)] σ (az (.d (ab (fF ts c))) σ):=fun c h=>pL ts a c i L H h σ hi;have hio:=hi;unfold pq at hio;unfold bU;simp -dsimp only[aw,jV,jW,jX,jY,jZ,jA,reduceIte,reduceCtorEq,jB,jC,jD,jE,jF,jG];refine aY [0,1] (R:=fun(j:Nat) ρ σ'=>∃(c:Nat),ρ=[(0,.ptr i 0),(1,.d (ab c))]/\σ'=σ/\c=b+j/\c≤max b ts.length/\ke ts (ts.length-b) b=ke ts (ts.length-c) c) (max b ts.length-b) ⟨b,rfl,rfl,rfl,by omega,rfl⟩ ?_ _;rintro j ρ' σ' hj ⟨c,rfl,rfl,hc,hc2,hop⟩
 have hw1:IntKind.i64.wrap (((c:Nat):Int)+1)=((c+1:Nat):Int):=by rw[aX (by omega) (by omega)];omega
 have hw2:IntKind.i64.wrap (((c+1:Nat):Int)-1)=((c:Nat):Int):=by rw[aX (by omega) (by omega)];omega
 have hw3:IntKind.i64.wrap (((c+1:Nat):Int)+2)=((c+1+2:Nat):Int):=by rw[aX (by omega) (by omega)];omega
 have h0:=hM [aa 33,aa 126,aa 45] c (by decide) (by omega);simp -dsimp only[aw,jV,jW,jX,jY,jZ,jA,reduceIte,reduceCtorEq,jB,jC,jD,jE,jF,jG];refine ac h0 ?_;cases hx:mkB ts c [aa 33,aa 126,aa 45]with
 | true=>
  have hlt:=eH ts hx;rw[show ts.length-c=(ts.length-(c+1))+1 by omega]at hop
  have h5:ke ts (ts.length-(c+1)+1) c=ke ts (ts.length-(c+1)) (c+1):=by
   show(if mkB ts c [aa 33,aa 126,aa 45]=true then _ else _)=_;rw[hx,if_pos rfl]
  simp -dsimp only[aw,jV,jW,jX,jY,jZ,jA,reduceIte,reduceCtorEq,jB,jC,jD,jE,jF,jG,hw1];exact⟨by omega,Nxt.same (RZ _) hb (by simp[am,V.under];exact hil) ⟨c+1,rfl,rfl,by omega,by omega,hop.trans h5⟩⟩
 | false=>
  have hop2:ke ts (ts.length-b) b=c:=by
   rw[hop];cases ts.length-c with
   | zero=>rfl
   | succ m=>unfold ke;rw[hx,if_neg (by decide)]
  rw[hop2];have h1:=hM [aa 40] c (by decide) (by omega);simp -dsimp only[aw,jV,jW,jX,jY,jZ,jA,reduceIte,reduceCtorEq,jB,jC,jD,jE,jF,jG];refine ac h1 ?_;by_cases hlt:c<ts.length
  case neg=>
   have d1:decide (((ts.length:Nat):Int)<((c+1:Nat):Int))=true:=by rw[decide_eq_true_eq];omega
   have hO:sA ts c=c+1:=by unfold sA;rw[RY (by omega)]
   rw[FH hlt,hO];simp -dsimp only[aw,jV,jW,jX,jY,jZ,jA,reduceIte,reduceCtorEq,jB,jC,jD,jE,jF,jG,hw1,hio,d1];first|exact aA hb rfl rfl|exact aB hb rfl rfl
  have d1:decide (((ts.length:Nat):Int)<((c+1:Nat):Int))=false:=by rw[decide_eq_false_iff_not];omega
  unfold sA;rw[RX hlt];simp only;cases h40:mkB ts c [aa 40]with
  | true=>
   rw[if_pos rfl];simp -dsimp only[aw,jV,jW,jX,jY,jZ,jA,reduceIte,reduceCtorEq,jB,jC,jD,jE,jF,jG];refine ac (hC c (by omega)) ?_;simp -dsimp only[aw,jV,jW,jX,jY,jZ,jA,reduceIte,reduceCtorEq,jB,jC,jD,jE,jF,jG];first|exact aA hb rfl rfl|exact aB hb rfl rfl
  | false=>
   rw[if_neg (by decide)];by_cases hk:ts[c].kind=1
   case neg=>
    rw[if_neg hk];simp -dsimp only[aw,jV,jW,jX,jY,jZ,jA,reduceIte,reduceCtorEq,jB,jC,jD,jE,jF,jG,hw1,hio,d1,hw2,RX hlt,aP,eA,decide_eq_false hk];first|exact aA hb rfl rfl|exact aB hb rfl rfl
   rw[if_pos hk];have h91:=hM [aa 91] (c+1) (by decide) (by omega);have h4':=hM [aa 40] (c+1) (by decide) (by omega);have h64:=hM [aa 64] (c+1) (by decide) (by omega);have hC1:=hC (c+1) (by omega);simp -dsimp only[aw,jV,jW,jX,jY,jZ,jA,reduceIte,reduceCtorEq,jB,jC,jD,jE,jF,jG,hw1,hio,d1,hw2,RX hlt,aP,eA,decide_eq_true hk];refine ac h91 ?_;cases x91:mkB ts (c+1) [aa 91]with
   | true=>
    rw[RW,if_pos rfl];simp -dsimp only[aw,jV,jW,jX,jY,jZ,jA,reduceIte,reduceCtorEq,jB,jC,jD,jE,jF,jG];refine ac hC1 ?_;simp -dsimp only[aw,jV,jW,jX,jY,jZ,jA,reduceIte,reduceCtorEq,jB,jC,jD,jE,jF,jG];first|exact aA hb rfl rfl|exact aB hb rfl rfl
   | false=>
    rw[RU];simp -dsimp only[aw,jV,jW,jX,jY,jZ,jA,reduceIte,reduceCtorEq,jB,jC,jD,jE,jF,jG];refine ac h4' ?_;cases x40:mkB ts (c+1) [aa 40]with
    | false=>
     rw[Bool.false_and,if_neg (by decide)];simp -dsimp only[aw,jV,jW,jX,jY,jZ,jA,reduceIte,reduceCtorEq,jB,jC,jD,jE,jF,jG];refine ac h64 ?_;cases x64:mkB ts (c+1) [aa 64]with
     | true=>
      rw[if_pos rfl];simp -dsimp only[aw,jV,jW,jX,jY,jZ,jA,reduceIte,reduceCtorEq,jB,jC,jD,jE,jF,jG,hw3];first|exact aA hb rfl rfl|exact aB hb rfl rfl
     | false=>
      rw[if_neg (by decide)];simp -dsimp only[aw,jV,jW,jX,jY,jZ,jA,reduceIte,reduceCtorEq,jB,jC,jD,jE,jF,jG];first|exact aA hb rfl rfl|exact aB hb rfl rfl
    | true=>
     rw[Bool.true_and];by_cases s1:ts[c].text=⟨#[115,117,109]⟩
     .rw[if_pos (by simp[s1,kg])];simp -dsimp only[aw,jV,jW,jX,jY,jZ,jA,reduceIte,reduceCtorEq,jB,jC,jD,jE,jF,jG,decide_eq_true s1];refine ac hC1 ?_;simp -dsimp only[aw,jV,jW,jX,jY,jZ,jA,reduceIte,reduceCtorEq,jB,jC,jD,jE,jF,jG];first|exact aA hb rfl rfl|exact aB hb rfl rfl
     by_cases s2:ts[c].text=⟨#[111,110,101,115]⟩
     .rw[if_pos (by simp[s2,fV])];simp -dsimp only[aw,jV,jW,jX,jY,jZ,jA,reduceIte,reduceCtorEq,jB,jC,jD,jE,jF,jG,decide_eq_false s1,decide_eq_true s2];refine ac hC1 ?_;simp -dsimp only[aw,jV,jW,jX,jY,jZ,jA,reduceIte,reduceCtorEq,jB,jC,jD,jE,jF,jG];first|exact aA hb rfl rfl|exact aB hb rfl rfl
     .rw[if_neg (by simp[s1,s2,kg,fV])];simp -dsimp only[aw,jV,jW,jX,jY,jZ,jA,reduceIte,reduceCtorEq,jB,jC,jD,jE,jF,jG,decide_eq_false s1,decide_eq_false s2];refine ac h64 ?_;cases x64:mkB ts (c+1) [aa 64]with
      | true=>
       rw[if_pos rfl];simp -dsimp only[aw,jV,jW,jX,jY,jZ,jA,reduceIte,reduceCtorEq,jB,jC,jD,jE,jF,jG,hw3];first|exact aA hb rfl rfl|exact aB hb rfl rfl
      | false=>
       rw[if_neg (by decide)];simp -dsimp only[aw,jV,jW,jX,jY,jZ,jA,reduceIte,reduceCtorEq,jB,jC,jD,jE,jF,jG];first|exact aA hb rfl rfl|exact aB hb rfl rfl
theorem wN(ts:List Tok)(a b i:Nat)(L:Int)(H:TsV ts)(hb9:b≤ts.length)(σ:LLV)(hi:σ[i]? = some (pq ts a L)):
 Fun G 201 [.ptr i 0,.d (ab b)] σ (az (.d (ab (kU ts b))) σ):=by
 refine ai Tryz.func201 RN rfl fun hb hw=>?_;unfold Mu;have hil:=(List.getElem?_eq_some_iff.1 hi).1;have hLn:=H.ok.len;have hM:∀(ms:List ByteArray) (c:Nat),ms.length≤100->c≤3000000->Fun G 226 [.ptr i 0,.d (ab c),.d (.sl (ms.map fun m=>[ae m]))] σ (az (an (mkB ts c ms)) σ):=fun ms c h1 h2=>t8 ms ts a c i L H h2 h1 σ hi;have hC:∀c:Nat,c≤3000000->Fun G 225 [.ptr i 0,.d (ab c)] σ (az (.d (ab (fF ts c))) σ):=fun c h=>pL ts a c i L H h σ hi;have hO:∀c:Nat,c≤2000000->Fun G 224 [.ptr i 0,.d (ab c)] σ (az (.d (ab (bU ts c))) σ):=fun c h=>uL ts a c i L H h σ hi;have hio:=hi;unfold pq at hio;simp -dsimp only[aw,jV,jW,jX,jY,jZ,jA,reduceIte,reduceCtorEq,jB,jC,jD,jE,jF,jG]
 refine aY [0,1,5] (R:=fun(j:Nat) ρ σ'=>∃(c f:Nat) (n:Int),ρ=[(0,.ptr i 0),(1,.d (ab c)),(5,.d (ab n))]/\σ'=σ/\b+j≤c/\c≤ts.length/\ts.length+1-c≤f/\kU ts b=mu ts f c n) (ts.length-b) ⟨b,_,0,rfl,rfl,by omega,hb9,RZ _,rfl⟩ ?_ _;rintro j ρ' σ' hj ⟨c,f,n,rfl,rfl,hc,hc2,hf,hen⟩;obtain⟨f,rfl⟩:∃g,f=g+1:=⟨f-1,by omega⟩
 have hob:=sC ts hc2;have hib:=EV ts hc2;unfold mu at hen;simp -dsimp only[aw,jV,jW,jX,jY,jZ,jA,reduceIte,reduceCtorEq,jB,jC,jD,jE,jF,jG];refine ac (hO c (by omega)) ?_;simp -dsimp only[aw,jV,jW,jX,jY,jZ,jA,reduceIte,reduceCtorEq,jB,jC,jD,jE,jF,jG];refine aY [0,1,5] (R:=fun(j:Nat) ρ σ''=>∃(d g:Nat),ρ=[(0,.ptr i 0),(1,.d (ab d)),(5,.d (ab n))]/\σ''=σ'/\bU ts c+j≤d/\d≤ts.length+1/\ts.length+1-d≤g/\mQ ts (ts.length+1-bU ts c) (bU ts c)=mQ ts g d) (ts.length+1-bU ts c) ⟨_,_,rfl,rfl,by omega,hob.2,RZ _,rfl⟩ ?_ _;rintro j2 ρ'' σ'' hj2 ⟨d,g,rfl,rfl,hd,hd2,hg,hins⟩;have hw1:IntKind.i64.wrap (((d:Nat):Int)+1)=((d+1:Nat):Int):=by rw[aX (by omega) (by omega)];omega
 have again:vq ts d=true->∃g',g=g'+1/\mQ ts (ts.length+1-bU ts c) (bU ts c)=mQ ts g' (fF ts (d+1)):=fun h=>by
  have:=A1 ts h;obtain⟨g',rfl⟩:∃g',g=g'+1:=⟨g-1,by omega⟩
  exact⟨g',rfl,by rw[hins];unfold mQ;rw[if_pos h];cases g'<;>rfl⟩
 have over:vq ts d=false->mQ ts (ts.length+1-bU ts c) (bU ts c)=d:=fun h=>by
  rw[hins];cases g with
  | zero=>rfl
  | succ g=>unfold mQ;rw[h,if_neg (by decide)]
 by_cases hlt:d<ts.length
 .have d1:decide (((d:Nat):Int)<((ts.length:Nat):Int))=true:=by rw[decide_eq_true_eq];omega
  by_cases hk:ts[d].kind=2
  .by_cases hx:ts[d].text=⟨#[105,110,115,105,100,101]⟩
   .obtain⟨g',rfl,hi2⟩:=again (by unfold vq;rw[RX hlt];simp[hk,hx,bX]);have hcb:=md ts (d+1);simp -dsimp only[aw,jV,jW,jX,jY,jZ,jA,reduceIte,reduceCtorEq,jB,jC,jD,jE,jF,jG,hio,d1,RX hlt,aP,eA,decide_eq_true hk,decide_eq_true hx,hw1];refine ac (hC (d+1) (by omega)) ?_;simp -dsimp only[aw,jV,jW,jX,jY,jZ,jA,reduceIte,reduceCtorEq,jB,jC,jD,jE,jF,jG];exact⟨by omega,Nxt.same (RZ _) hb (by simp[am,V.under];exact hil) ⟨fF ts (d+1),g',rfl,rfl,by omega,by omega,by omega,hi2⟩⟩
   .have hov:=over (by unfold vq;rw[RX hlt];simp[hx,bX]);rw[hov]at hen;simp -dsimp only[aw,jV,jW,jX,jY,jZ,jA,reduceIte,reduceCtorEq,jB,jC,jD,jE,jF,jG,hio,d1,RX hlt,aP,eA,decide_eq_true hk,decide_eq_false hx];simp only at hen;refine ac (hM [aa 63] d (by decide) (by omega)) ?_;cases m63:mkB ts d [aa 63]with
    | true=>
     have hl2:=eH ts m63;rw[m63,if_pos rfl]at hen;simp -dsimp only[aw,jV,jW,jX,jY,jZ,jA,reduceIte,reduceCtorEq,jB,jC,jD,jE,jF,jG,hw1];exact⟨by omega,Nxt.same (RZ _) hb (by simp[am,V.under];exact hil) ⟨d+1,f,_,rfl,rfl,by omega,by omega,by omega,hen⟩⟩
    | false=>
     rw[m63,if_neg (by decide)]at hen;simp -dsimp only[aw,jV,jW,jX,jY,jZ,jA,reduceIte,reduceCtorEq,jB,jC,jD,jE,jF,jG];refine ac (hM [aa 58] d (by decide) (by omega)) ?_
     have m58e:∀x:Bool,x=(mkB ts d [aa 58]&&decide (0<n))->(x=true->∃(m:Int),kU ts b=mu ts f (d+1) m/\mkB ts d [aa 58]=true/\(0<n)/\m=IntKind.i64.wrap (n-1))/\(x=false->kU ts b=if mkB ts d iC=true then mu ts f (d+1) n else d):=fun x hx=>by
      rw[<-hx]at hen;refine⟨fun h=>?_,fun h=>?_⟩
      .rw[h,if_pos rfl]at hen;rw[h]at hx;have:=hx.symm;rw[RS,decide_eq_true_eq]at this;exact⟨_,hen,this.1,this.2,rfl⟩
      .rw[h,if_neg (by decide)]at hen;exact hen
     obtain⟨xt,xf⟩:=m58e _ rfl;cases m58:mkB ts d [aa 58]with
     | true=>
      by_cases hn:0<n
      .obtain⟨m,hen,-,-,hm⟩:=xt (by rw[m58,decide_eq_true hn];rfl);have hl2:=eH ts m58;simp -dsimp only[aw,jV,jW,jX,jY,jZ,jA,reduceIte,reduceCtorEq,jB,jC,jD,jE,jF,jG,decide_eq_true hn,<-hm,hw1];exact⟨by omega,Nxt.same (RZ _) hb (by simp[am,V.under];exact hil) ⟨d+1,f,m,by rw[hm],rfl,by omega,by omega,by omega,hen⟩⟩
      .have hen:=xf (by rw[m58,decide_eq_false hn];rfl);simp -dsimp only[aw,jV,jW,jX,jY,jZ,jA,reduceIte,reduceCtorEq,jB,jC,jD,jE,jF,jG,decide_eq_false hn];refine ac (hM iC d (by decide) (by omega)) ?_;cases mb:mkB ts d iC with
       | true=>
        have hl2:=eH ts mb;rw[mb,if_pos rfl]at hen;simp -dsimp only[aw,jV,jW,jX,jY,jZ,jA,reduceIte,reduceCtorEq,jB,jC,jD,jE,jF,jG,hw1];exact⟨by omega,Nxt.same (RZ _) hb (by simp[am,V.under];exact hil) ⟨d+1,f,n,rfl,rfl,by omega,by omega,by omega,hen⟩⟩
       | false=>
        rw[mb,if_neg (by decide)]at hen;rw[hen];simp -dsimp only[aw,jV,jW,jX,jY,jZ,jA,reduceIte,reduceCtorEq,jB,jC,jD,jE,jF,jG];first|exact aA hb rfl rfl|exact aB hb rfl rfl
     | false=>
      have hen:=xf (by rw[m58];rfl);simp -dsimp only[aw,jV,jW,jX,jY,jZ,jA,reduceIte,reduceCtorEq,jB,jC,jD,jE,jF,jG];refine ac (hM iC d (by decide) (by omega)) ?_;cases mb:mkB ts d iC with
      | true=>
       have hl2:=eH ts mb;rw[mb,if_pos rfl]at hen;simp -dsimp only[aw,jV,jW,jX,jY,jZ,jA,reduceIte,reduceCtorEq,jB,jC,jD,jE,jF,jG,hw1];exact⟨by omega,Nxt.same (RZ _) hb (by simp[am,V.under];exact hil) ⟨d+1,f,n,rfl,rfl,by omega,by omega,by omega,hen⟩⟩
      | false=>
       rw[mb,if_neg (by decide)]at hen;rw[hen];simp -dsimp only[aw,jV,jW,jX,jY,jZ,jA,reduceIte,reduceCtorEq,jB,jC,jD,jE,jF,jG];first|exact aA hb rfl rfl|exact aB hb rfl rfl
  .have hov:=over (by unfold vq;rw[RX hlt];simp[hk]);rw[hov]at hen;simp -dsimp only[aw,jV,jW,jX,jY,jZ,jA,reduceIte,reduceCtorEq,jB,jC,jD,jE,jF,jG,hio,d1,RX hlt,aP,eA,decide_eq_false hk];simp only at hen;refine ac (hM [aa 63] d (by decide) (by omega)) ?_;cases m63:mkB ts d [aa 63]with
   | true=>
    have hl2:=eH ts m63;rw[m63,if_pos rfl]at hen;simp -dsimp only[aw,jV,jW,jX,jY,jZ,jA,reduceIte,reduceCtorEq,jB,jC,jD,jE,jF,jG,hw1];exact⟨by omega,Nxt.same (RZ _) hb (by simp[am,V.under];exact hil) ⟨d+1,f,_,rfl,rfl,by omega,by omega,by omega,hen⟩⟩
   | false=>
    rw[m63,if_neg (by decide)]at hen;simp -dsimp only[aw,jV,jW,jX,jY,jZ,jA,reduceIte,reduceCtorEq,jB,jC,jD,jE,jF,jG];refine ac (hM [aa 58] d (by decide) (by omega)) ?_
    have m58e:∀x:Bool,x=(mkB ts d [aa 58]&&decide (0<n))->(x=true->∃(m:Int),kU ts b=mu ts f (d+1) m/\mkB ts d [aa 58]=true/\(0<n)/\m=IntKind.i64.wrap (n-1))/\(x=false->kU ts b=if mkB ts d iC=true then mu ts f (d+1) n else d):=fun x hx=>by
     rw[<-hx]at hen;refine⟨fun h=>?_,fun h=>?_⟩
     .rw[h,if_pos rfl]at hen;rw[h]at hx;have:=hx.symm;rw[RS,decide_eq_true_eq]at this;exact⟨_,hen,this.1,this.2,rfl⟩
     .rw[h,if_neg (by decide)]at hen;exact hen
    obtain⟨xt,xf⟩:=m58e _ rfl;cases m58:mkB ts d [aa 58]with
    | true=>
     by_cases hn:0<n
     .obtain⟨m,hen,-,-,hm⟩:=xt (by rw[m58,decide_eq_true hn];rfl);have hl2:=eH ts m58;simp -dsimp only[aw,jV,jW,jX,jY,jZ,jA,reduceIte,reduceCtorEq,jB,jC,jD,jE,jF,jG,decide_eq_true hn,<-hm,hw1];exact⟨by omega,Nxt.same (RZ _) hb (by simp[am,V.under];exact hil) ⟨d+1,f,m,by rw[hm],rfl,by omega,by omega,by omega,hen⟩⟩
     .have hen:=xf (by rw[m58,decide_eq_false hn];rfl);simp -dsimp only[aw,jV,jW,jX,jY,jZ,jA,reduceIte,reduceCtorEq,jB,jC,jD,jE,jF,jG,decide_eq_false hn];refine ac (hM iC d (by decide) (by omega)) ?_;cases mb:mkB ts d iC with
      | true=>
       have hl2:=eH ts mb;rw[mb,if_pos rfl]at hen;simp -dsimp only[aw,jV,jW,jX,jY,jZ,jA,reduceIte,reduceCtorEq,jB,jC,jD,jE,jF,jG,hw1];exact⟨by omega,Nxt.same (RZ _) hb (by simp[am,V.under];exact hil) ⟨d+1,f,n,rfl,rfl,by omega,by omega,by omega,hen⟩⟩
      | false=>
       rw[mb,if_neg (by decide)]at hen;rw[hen];simp -dsimp only[aw,jV,jW,jX,jY,jZ,jA,reduceIte,reduceCtorEq,jB,jC,jD,jE,jF,jG];first|exact aA hb rfl rfl|exact aB hb rfl rfl
    | false=>
     have hen:=xf (by rw[m58];rfl);simp -dsimp only[aw,jV,jW,jX,jY,jZ,jA,reduceIte,reduceCtorEq,jB,jC,jD,jE,jF,jG];refine ac (hM iC d (by decide) (by omega)) ?_;cases mb:mkB ts d iC with
     | true=>
      have hl2:=eH ts mb;rw[mb,if_pos rfl]at hen;simp -dsimp only[aw,jV,jW,jX,jY,jZ,jA,reduceIte,reduceCtorEq,jB,jC,jD,jE,jF,jG,hw1];exact⟨by omega,Nxt.same (RZ _) hb (by simp[am,V.under];exact hil) ⟨d+1,f,n,rfl,rfl,by omega,by omega,by omega,hen⟩⟩
     | false=>
      rw[mb,if_neg (by decide)]at hen;rw[hen];simp -dsimp only[aw,jV,jW,jX,jY,jZ,jA,reduceIte,reduceCtorEq,jB,jC,jD,jE,jF,jG];first|exact aA hb rfl rfl|exact aB hb rfl rfl
 .have d1:decide (((d:Nat):Int)<((ts.length:Nat):Int))=false:=by rw[decide_eq_false_iff_not];omega
  have hov:=over (by unfold vq;rw[RY (by omega)]);rw[hov]at hen;simp -dsimp only[aw,jV,jW,jX,jY,jZ,jA,reduceIte,reduceCtorEq,jB,jC,jD,jE,jF,jG,hio,d1];simp only at hen;refine ac (hM [aa 63] d (by decide) (by omega)) ?_;cases m63:mkB ts d [aa 63]with
  | true=>
   have hl2:=eH ts m63;rw[m63,if_pos rfl]at hen;simp -dsimp only[aw,jV,jW,jX,jY,jZ,jA,reduceIte,reduceCtorEq,jB,jC,jD,jE,jF,jG,hw1];exact⟨by omega,Nxt.same (RZ _) hb (by simp[am,V.under];exact hil) ⟨d+1,f,_,rfl,rfl,by omega,by omega,by omega,hen⟩⟩
  | false=>
   rw[m63,if_neg (by decide)]at hen;simp -dsimp only[aw,jV,jW,jX,jY,jZ,jA,reduceIte,reduceCtorEq,jB,jC,jD,jE,jF,jG];refine ac (hM [aa 58] d (by decide) (by omega)) ?_
   have m58e:∀x:Bool,x=(mkB ts d [aa 58]&&decide (0<n))->(x=true->∃(m:Int),kU ts b=mu ts f (d+1) m/\mkB ts d [aa 58]=true/\(0<n)/\m=IntKind.i64.wrap (n-1))/\(x=false->kU ts b=if mkB ts d iC=true then mu ts f (d+1) n else d):=fun x hx=>by
    rw[<-hx]at hen;refine⟨fun h=>?_,fun h=>?_⟩
    .rw[h,if_pos rfl]at hen;rw[h]at hx;have:=hx.symm;rw[RS,decide_eq_true_eq]at this;exact⟨_,hen,this.1,this.2,rfl⟩
    .rw[h,if_neg (by decide)]at hen;exact hen
   obtain⟨xt,xf⟩:=m58e _ rfl;cases m58:mkB ts d [aa 58]with
   | true=>
    by_cases hn:0<n
    .obtain⟨m,hen,-,-,hm⟩:=xt (by rw[m58,decide_eq_true hn];rfl);have hl2:=eH ts m58;simp -dsimp only[aw,jV,jW,jX,jY,jZ,jA,reduceIte,reduceCtorEq,jB,jC,jD,jE,jF,jG,decide_eq_true hn,<-hm,hw1];exact⟨by omega,Nxt.same (RZ _) hb (by simp[am,V.under];exact hil) ⟨d+1,f,m,by rw[hm],rfl,by omega,by omega,by omega,hen⟩⟩
    .have hen:=xf (by rw[m58,decide_eq_false hn];rfl);simp -dsimp only[aw,jV,jW,jX,jY,jZ,jA,reduceIte,reduceCtorEq,jB,jC,jD,jE,jF,jG,decide_eq_false hn];refine ac (hM iC d (by decide) (by omega)) ?_;cases mb:mkB ts d iC with
     | true=>
      have hl2:=eH ts mb;rw[mb,if_pos rfl]at hen;simp -dsimp only[aw,jV,jW,jX,jY,jZ,jA,reduceIte,reduceCtorEq,jB,jC,jD,jE,jF,jG,hw1];exact⟨by omega,Nxt.same (RZ _) hb (by simp[am,V.under];exact hil) ⟨d+1,f,n,rfl,rfl,by omega,by omega,by omega,hen⟩⟩
     | false=>
      rw[mb,if_neg (by decide)]at hen;rw[hen];simp -dsimp only[aw,jV,jW,jX,jY,jZ,jA,reduceIte,reduceCtorEq,jB,jC,jD,jE,jF,jG];first|exact aA hb rfl rfl|exact aB hb rfl rfl
   | false=>
    have hen:=xf (by rw[m58];rfl);simp -dsimp only[aw,jV,jW,jX,jY,jZ,jA,reduceIte,reduceCtorEq,jB,jC,jD,jE,jF,jG];refine ac (hM iC d (by decide) (by omega)) ?_;cases mb:mkB ts d iC with
    | true=>
     have hl2:=eH ts mb;rw[mb,if_pos rfl]at hen;simp -dsimp only[aw,jV,jW,jX,jY,jZ,jA,reduceIte,reduceCtorEq,jB,jC,jD,jE,jF,jG,hw1];exact⟨by omega,Nxt.same (RZ _) hb (by simp[am,V.under];exact hil) ⟨d+1,f,n,rfl,rfl,by omega,by omega,by omega,hen⟩⟩
    | false=>
     rw[mb,if_neg (by decide)]at hen;rw[hen];simp -dsimp only[aw,jV,jW,jX,jY,jZ,jA,reduceIte,reduceCtorEq,jB,jC,jD,jE,jF,jG];first|exact aA hb rfl rfl|exact aB hb rfl rfl
end Go.Proofs.YthekkgfmagliiaaGreatDoor
