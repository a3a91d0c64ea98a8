import Derived.Test.YtcbahpllcfbkmaaGreatDoorCy2
import Derived.Test.YtcbahpllcfbkmaaGreatDoorIr2
set_option linter.unusedVariables false
set_option linter.unusedSimpArgs false
set_option linter.unusedSectionVars false
namespace Go.Proofs.YtcbahpllcfbkmaaGreatDoor
open Go.RowKit
theorem uX(l m:List It):bN (l++m)=bN l+bN m:=by
 induction l with
 | nil=>simp[bN]
 | cons a r ih=>simp only[List.cons_append,bN,ih];omega
theorem rh(l m:List It):bq (l++m)=bq l+bq m:=by
 induction l with
 | nil=>simp[bq]
 | cons a r ih=>simp only[List.cons_append,bq,ih];omega
theorem xk{l m:List It}{d:Nat}(h:rvl (l++m) d=0):rvl l d=0∧rvl m d=0:=by
 induction l with
 | nil=>exact⟨by rw[rvl],h⟩
 | cons a r ih=>
  rw[List.cons_append,rvl]at h;split at h
  ·rename_i h0;obtain⟨h1,h2⟩:=ih h;refine⟨?_,h2⟩;rw[rvl,if_pos h0];exact h1
  ·rename_i hn;exact absurd h hn
theorem lF{l m:List It}(n:Int)(hv:cA (l++m)=0)(h0:0≤n)(h1:n≤32):ce (l++m) n=aO n.toNat (lns (l++m))∧ce l n++ce m n=ce (l++m) n:=by
 have hs:¬64<bN (l++m):=fun h=>by unfold cA at hv;rw[if_pos h]at hv;cases hv
 have hr:=ea hv;obtain⟨r1,r2⟩:=xk hr;rw[uX]at hs;have v1:cA l=0:=by unfold cA;rw[if_neg (by omega)];exact r1
 have v2:cA m=0:=by unfold cA;rw[if_neg (by omega)];exact r2
 have e:ce (l++m) n=aO n.toNat (lns (l++m)):=by unfold ce;rw[if_pos ⟨hv,h0,h1⟩]
 refine⟨e,?_⟩;rw[e];unfold ce;rw[if_pos ⟨v1,h0,h1⟩,if_pos ⟨v2,h0,h1⟩,mq,bw]
theorem qa:∀(S:Bs) (b:Bool),(fi b S).length≤5*S.length
 | [],b=>by simp[fi]
 | c::r,b=>by
  have:=qa r (c==10);cases b<;>simp[fi]<;>omega
theorem rv(l:List It)(hl:bN l≤1200000)(σ:List (List V)):Fun G 19 [.d (dv l)] σ (a7 (av (decide ((bN l:Int)≤64))) σ):=by
 refine ax Tryz.func19 k19 rfl fun hb hw=>?_;unfold c19;simp -dsimp -implicitDefEqProofs only[aw,ah,V.copy,V.lend,V.lend1,V.cells,V.boxable,over,ak,ae,ac,ai,V.plain,Nat.reduceLeDiff,cond_true,cond_false,implies_true,eq_self,ne_eq,reduceIte,reduceCtorEq,Nat.reduceBEq,Nat.reduceLT,Nat.reduceEqDiff,Nat.reduceAdd,Nat.reduceSub,Nat.reduceMul];refine an (kL l hl _) ?_;simp -dsimp -implicitDefEqProofs only[aw,ah,V.copy,V.lend,V.lend1,V.cells,V.boxable,over,ak,ae,ac,ai,V.plain,Nat.reduceLeDiff,cond_true,cond_false,implies_true,eq_self,ne_eq,reduceIte,reduceCtorEq,Nat.reduceBEq,Nat.reduceLT,Nat.reduceEqDiff,Nat.reduceAdd,Nat.reduceSub,Nat.reduceMul];first|exact aj hb rfl rfl List.take_length ⟨rfl,rfl⟩|exact aj hb rfl rfl List.take_left ⟨rfl,rfl⟩|(trace_state;fail "fin")
theorem xF(l:Bs)(a:Nat)(h:a+1≤l.length):jE true 0 (V.d (am (bs l))) (some (V.d (ay (a:Int)))) (some (V.d (ay ((a+1:Nat):Int))))=some (V.d (am (bs ((l.drop a).take 1)))):=by
 have e:(bs l).extract a (a+1)=bs ((l.drop a).take 1):=by
  rw[Lib.extract_eq,bt];unfold bs;rw[Nat.add_sub_cancel_left]
 have h2:(0:Int)≤((a+1:Nat):Int):=by omega
 have h3:(0:Int)≤((a:Nat):Int):=by omega
 simp only[jE,ae,if_pos h2,if_pos h3,Int.toNat_natCast,cj,h,Nat.le_add_right,and_self,if_true,e]
set_option maxHeartbeats 8000000 in
theorem mw(l m:List It)(u:Int)(hbig:bq l+bq m≤1100000)(hu0:0≤u)(hu:u<256)(σ:List (List V)):Fun G 7 [.d (dv l),.d (dv m),.d (.lit (.int .u8 u))] σ (a7 (av true) σ):=by
 have hb2:bq (l++m)≤1100000:=by rw[rh];exact hbig
 have hsz:=mG (l++m);have l1:=d8 l;have l2:=d8 m;have f1:=fun σ=>rv (l++m) (by omega) σ;have f2:=fun σ=>nT (l++m) hb2 σ;have hmap:(l++m).map dit=l.map dit++m.map dit:=List.map_append
 have lenl:∀q:List It,(q.map dit).all (fun r=>r.length==12)=true:=fun q=>by
  rw[List.all_map,List.all_eq_true];intro c _;simp[Function.comp,jL c]
 refine ax Tryz.func7 k7 rfl fun hb hw=>?_;unfold c7;simp only[dv,hmap]at f1 f2;simp -dsimp -implicitDefEqProofs only[aw,ah,V.copy,V.lend,V.lend1,V.cells,V.boxable,over,ak,ae,ac,ai,V.plain,Nat.reduceLeDiff,cond_true,cond_false,implies_true,eq_self,ne_eq,reduceIte,reduceCtorEq,Nat.reduceBEq,Nat.reduceLT,Nat.reduceEqDiff,Nat.reduceAdd,Nat.reduceSub,Nat.reduceMul,dv];refine dB ⟨lenl l,by first|omega|(simp only[List.length_map,List.length_nil];omega)⟩ ?_;simp -dsimp -implicitDefEqProofs only[aw,ah,V.copy,V.lend,V.lend1,V.cells,V.boxable,over,ak,ae,ac,ai,V.plain,Nat.reduceLeDiff,cond_true,cond_false,implies_true,eq_self,ne_eq,reduceIte,reduceCtorEq,Nat.reduceBEq,Nat.reduceLT,Nat.reduceEqDiff,Nat.reduceAdd,Nat.reduceSub,Nat.reduceMul,List.nil_append]
 refine dB ⟨lenl m,by first|omega|(simp only[List.length_map,List.length_append];omega)⟩ ?_;simp -dsimp -implicitDefEqProofs only[aw,ah,V.copy,V.lend,V.lend1,V.cells,V.boxable,over,ak,ae,ac,ai,V.plain,Nat.reduceLeDiff,cond_true,cond_false,implies_true,eq_self,ne_eq,reduceIte,reduceCtorEq,Nat.reduceBEq,Nat.reduceLT,Nat.reduceEqDiff,Nat.reduceAdd,Nat.reduceSub,Nat.reduceMul];refine an (f1 _) ?_;by_cases hs:(bN (l++m):Int)≤64
 case neg=>
  simp -dsimp -implicitDefEqProofs only[aw,ah,V.copy,V.lend,V.lend1,V.cells,V.boxable,over,ak,ae,ac,ai,V.plain,Nat.reduceLeDiff,cond_true,cond_false,implies_true,eq_self,ne_eq,reduceIte,reduceCtorEq,Nat.reduceBEq,Nat.reduceLT,Nat.reduceEqDiff,Nat.reduceAdd,Nat.reduceSub,Nat.reduceMul,decide_eq_false hs];refine an (iZ _) ?_;simp -dsimp -implicitDefEqProofs only[aw,ah,V.copy,V.lend,V.lend1,V.cells,V.boxable,over,ak,ae,ac,ai,V.plain,Nat.reduceLeDiff,cond_true,cond_false,implies_true,eq_self,ne_eq,reduceIte,reduceCtorEq,Nat.reduceBEq,Nat.reduceLT,Nat.reduceEqDiff,Nat.reduceAdd,Nat.reduceSub,Nat.reduceMul];first|exact aj hb rfl rfl List.take_length ⟨rfl,rfl⟩|exact aj hb rfl rfl List.take_left ⟨rfl,rfl⟩|(trace_state;fail "fin")
 simp -dsimp -implicitDefEqProofs only[aw,ah,V.copy,V.lend,V.lend1,V.cells,V.boxable,over,ak,ae,ac,ai,V.plain,Nat.reduceLeDiff,cond_true,cond_false,implies_true,eq_self,ne_eq,reduceIte,reduceCtorEq,Nat.reduceBEq,Nat.reduceLT,Nat.reduceEqDiff,Nat.reduceAdd,Nat.reduceSub,Nat.reduceMul,decide_eq_true hs];refine an (f2 _) ?_;by_cases hv:cA (l++m)=0
 case neg=>
  simp -dsimp -implicitDefEqProofs only[aw,ah,V.copy,V.lend,V.lend1,V.cells,V.boxable,over,ak,ae,ac,ai,V.plain,Nat.reduceLeDiff,cond_true,cond_false,implies_true,eq_self,ne_eq,reduceIte,reduceCtorEq,Nat.reduceBEq,Nat.reduceLT,Nat.reduceEqDiff,Nat.reduceAdd,Nat.reduceSub,Nat.reduceMul,decide_eq_false hv];refine an (iZ _) ?_;simp -dsimp -implicitDefEqProofs only[aw,ah,V.copy,V.lend,V.lend1,V.cells,V.boxable,over,ak,ae,ac,ai,V.plain,Nat.reduceLeDiff,cond_true,cond_false,implies_true,eq_self,ne_eq,reduceIte,reduceCtorEq,Nat.reduceBEq,Nat.reduceLT,Nat.reduceEqDiff,Nat.reduceAdd,Nat.reduceSub,Nat.reduceMul];first|exact aj hb rfl rfl List.take_length ⟨rfl,rfl⟩|exact aj hb rfl rfl List.take_left ⟨rfl,rfl⟩|(trace_state;fail "fin")
 have tm0:=Int.tmod_nonneg (b:=(32:Int)) (a:=u) hu0;have tm1:=Int.tmod_lt_of_pos u (show(0:Int)<32 by decide);obtain⟨k,hk⟩:=Int.eq_ofNat_of_zero_le tm0;rw[hk]at tm1;have wu:IntKind.i64.wrap u=u:=bo (by omega) (by omega);have wk:IntKind.i64.wrap ((k:Int)+1)=((k+1:Nat):Int):=by rw[bo (by omega) (by omega)];omega
 have g1:=fun σ=>eX (l++m) k hb2 σ;have g2:=fun σ=>eX l k (by omega) σ;have g3:=fun σ=>eX m k (by omega) σ;have g4:=fun σ=>eX (l++m) ((k+1:Nat):Int) hb2 σ;obtain⟨e1,e2⟩:=lF (k:Int) hv (by omega) (by omega);obtain⟨e3,-⟩:=lF ((k+1:Nat):Int) hv (by omega) (by omega);have hS:=fw (l:=l++m) (k:Int) hb2;have i1:=fw (l:=l) (k:Int) (by omega);have i2:=fw (l:=m) (k:Int) (by omega);have hind:fi true (aO k (lns (l++m)))=aO (k+1) (lns (l++m)):=xz k _ fun y hy=>(zf _ 0 (ea hv) y hy).pr;rw[Int.toNat_natCast]at e1 e3;rw[←e1,←e3]at hind;simp only[dv,hmap]at g1 g2 g3 g4;generalize ce (l++m) (k:Int)=S at *;generalize ce (l++m) ((k+1:Nat):Int)=S' at *;generalize ce l (k:Int)=A at *;generalize ce m (k:Int)=B at *
 have sAB:aY .add (V.d (am (bs A))) (V.d (am (bs B)))=some (V.d (am (bs S))):=dC e2 (by omega);simp -dsimp -implicitDefEqProofs only[aw,ah,V.copy,V.lend,V.lend1,V.cells,V.boxable,over,ak,ae,ac,ai,V.plain,Nat.reduceLeDiff,cond_true,cond_false,implies_true,eq_self,ne_eq,reduceIte,reduceCtorEq,Nat.reduceBEq,Nat.reduceLT,Nat.reduceEqDiff,Nat.reduceAdd,Nat.reduceSub,Nat.reduceMul,decide_eq_true hv,wu,hk,Int.reduceEq];refine an (g1 _) ?_;simp -dsimp -implicitDefEqProofs only[aw,ah,V.copy,V.lend,V.lend1,V.cells,V.boxable,over,ak,ae,ac,ai,V.plain,Nat.reduceLeDiff,cond_true,cond_false,implies_true,eq_self,ne_eq,reduceIte,reduceCtorEq,Nat.reduceBEq,Nat.reduceLT,Nat.reduceEqDiff,Nat.reduceAdd,Nat.reduceSub,Nat.reduceMul];refine an (g2 _) ?_
 simp -dsimp -implicitDefEqProofs only[aw,ah,V.copy,V.lend,V.lend1,V.cells,V.boxable,over,ak,ae,ac,ai,V.plain,Nat.reduceLeDiff,cond_true,cond_false,implies_true,eq_self,ne_eq,reduceIte,reduceCtorEq,Nat.reduceBEq,Nat.reduceLT,Nat.reduceEqDiff,Nat.reduceAdd,Nat.reduceSub,Nat.reduceMul];refine an (g3 _) ?_;simp -dsimp -implicitDefEqProofs only[aw,ah,V.copy,V.lend,V.lend1,V.cells,V.boxable,over,ak,ae,ac,ai,V.plain,Nat.reduceLeDiff,cond_true,cond_false,implies_true,eq_self,ne_eq,reduceIte,reduceCtorEq,Nat.reduceBEq,Nat.reduceLT,Nat.reduceEqDiff,Nat.reduceAdd,Nat.reduceSub,Nat.reduceMul,sAB,decide_true]
 refine bv [7,8,9,10,11,12] (fun(j:Nat) ρ σ'=>∃T b,ρ=[(7,V.d (.sl (l.map dit++m.map dit))),(8,aF .i64 k),(9,V.d (am (bs S))),(10,.d (am (bs T))),(11,av b),(12,aF .i64 j)]∧σ'=σ∧fi true S=T++fi b (S.drop j)) S.length ⟨[],true,rfl,rfl,rfl⟩ ?_ _;rintro j ρ' σ' hj ⟨T,b,rfl,rfl,hT⟩;have hTl:=qa S true;by_cases hlt:j<S.length
 ·have wj:=aS hlt (show S.length≤9223372036854775807 by omega);have e1:(bs S).data.toList[j]? = some S[j]:=by rw[bt,List.getElem?_eq_getElem hlt]
  have hsub:=xF S j (by omega);have hd1:(S.drop j).take 1=[S[j]]:=by rw[List.drop_eq_getElem_cons hlt];rfl
  rw[hd1]at hsub;rw[List.drop_eq_getElem_cons hlt,fi]at hT;generalize S[j]=c at *
  have d10:decide (((c.toNat:Nat):Int)=10)=(c==10):=by
   by_cases h:c=10
   ·subst h;rfl
   ·have h1:(c==10)=false:=by
     cases e:c==10 with
     | true=>exact absurd (eq_of_beq e) h
     | false=>rfl
    rw[h1];exact decide_eq_false fun e=>h (UInt8.toNat_inj.1 (by show c.toNat=10;omega))
  rw[hT]at hTl;cases b with
  | true=>
   rw[if_pos rfl]at hT hTl;simp only[List.length_append,List.length_cons,List.length_nil]at hTl;have s1:aY .add (V.d (am (bs T))) (V.d (am ⟨#[32,32,32,32]⟩))=some (V.d (am (bs (T++[32,32,32,32])))):=dC (a:=T) (b:=[32,32,32,32]) rfl (by simp only[List.length_cons,List.length_nil];omega);have s2:aY .add (V.d (am (bs (T++[32,32,32,32])))) (V.d (am (bs [c])))=some (V.d (am (bs (T++[32,32,32,32,c])))):=dC (by simp) (by simp only[List.length_append,List.length_cons,List.length_nil];omega);simp -dsimp -implicitDefEqProofs only[aw,ah,V.copy,V.lend,V.lend1,V.cells,V.boxable,over,ak,ae,ac,ai,V.plain,Nat.reduceLeDiff,cond_true,cond_false,implies_true,eq_self,ne_eq,reduceIte,reduceCtorEq,Nat.reduceBEq,Nat.reduceLT,Nat.reduceEqDiff,Nat.reduceAdd,Nat.reduceSub,Nat.reduceMul,cj,Int.ofNat_lt,hlt,decide_true,e1,ixK,s1,s2,hsub,wj,Option.map_some,d10]
   have fin:=Nxt.same (n0:=σ'.length) (R:=fun ρ s=>∃T b,ρ=[(7,V.d (.sl (l.map dit++m.map dit))),(8,aF .i64 k),(9,V.d (am (bs S))),(10,.d (am (bs T))),(11,av b),(12,aF .i64 ((j+1:Nat):Int))]∧s=σ'∧fi true S=T++fi b (S.drop (j+1))) (ρ:=[(7,V.d (.sl (l.map dit++m.map dit))),(8,aF .i64 k),(9,V.d (am (bs S))),(10,.d (am (bs (T++[32,32,32,32,c])))),(11,av (c==10)),(12,aF .i64 ((j+1:Nat):Int))]) (Nat.le_refl _) hb (by simp[aA,V.under]) ⟨_,_,rfl,rfl,by rw[hT];simp⟩;first|exact fin|exact⟨hlt,fin⟩
  | false=>
   rw[if_neg (by simp)]at hT hTl;simp only[List.length_append,List.length_cons,List.length_nil,List.nil_append]at hTl;have s2:aY .add (V.d (am (bs T))) (V.d (am (bs [c])))=some (V.d (am (bs (T++[c])))):=dC rfl (by simp only[List.length_cons,List.length_nil];omega);simp -dsimp -implicitDefEqProofs only[aw,ah,V.copy,V.lend,V.lend1,V.cells,V.boxable,over,ak,ae,ac,ai,V.plain,Nat.reduceLeDiff,cond_true,cond_false,implies_true,eq_self,ne_eq,reduceIte,reduceCtorEq,Nat.reduceBEq,Nat.reduceLT,Nat.reduceEqDiff,Nat.reduceAdd,Nat.reduceSub,Nat.reduceMul,cj,Int.ofNat_lt,hlt,decide_true,e1,ixK,s2,hsub,wj,Option.map_some,d10]
   have fin:=Nxt.same (n0:=σ'.length) (R:=fun ρ s=>∃T b,ρ=[(7,V.d (.sl (l.map dit++m.map dit))),(8,aF .i64 k),(9,V.d (am (bs S))),(10,.d (am (bs T))),(11,av b),(12,aF .i64 ((j+1:Nat):Int))]∧s=σ'∧fi true S=T++fi b (S.drop (j+1))) (ρ:=[(7,V.d (.sl (l.map dit++m.map dit))),(8,aF .i64 k),(9,V.d (am (bs S))),(10,.d (am (bs (T++[c])))),(11,av (c==10)),(12,aF .i64 ((j+1:Nat):Int))]) (Nat.le_refl _) hb (by simp[aA,V.under]) ⟨_,_,rfl,rfl,by rw[hT];simp⟩;first|exact fin|exact⟨hlt,fin⟩
 ·rw[List.drop_eq_nil_of_le (by omega),fi,List.append_nil,hind]at hT;subst hT;simp -dsimp -implicitDefEqProofs only[aw,ah,V.copy,V.lend,V.lend1,V.cells,V.boxable,over,ak,ae,ac,ai,V.plain,Nat.reduceLeDiff,cond_true,cond_false,implies_true,eq_self,ne_eq,reduceIte,reduceCtorEq,Nat.reduceBEq,Nat.reduceLT,Nat.reduceEqDiff,Nat.reduceAdd,Nat.reduceSub,Nat.reduceMul,cj,Int.ofNat_lt,hlt,decide_false,wk];refine an (g4 _) ?_;simp -dsimp -implicitDefEqProofs only[aw,ah,V.copy,V.lend,V.lend1,V.cells,V.boxable,over,ak,ae,ac,ai,V.plain,Nat.reduceLeDiff,cond_true,cond_false,implies_true,eq_self,ne_eq,reduceIte,reduceCtorEq,Nat.reduceBEq,Nat.reduceLT,Nat.reduceEqDiff,Nat.reduceAdd,Nat.reduceSub,Nat.reduceMul,decide_true];refine an (iZ _) ?_
  simp -dsimp -implicitDefEqProofs only[aw,ah,V.copy,V.lend,V.lend1,V.cells,V.boxable,over,ak,ae,ac,ai,V.plain,Nat.reduceLeDiff,cond_true,cond_false,implies_true,eq_self,ne_eq,reduceIte,reduceCtorEq,Nat.reduceBEq,Nat.reduceLT,Nat.reduceEqDiff,Nat.reduceAdd,Nat.reduceSub,Nat.reduceMul];first|exact aj hb rfl rfl List.take_length ⟨rfl,rfl⟩|exact aj hb rfl rfl List.take_left ⟨rfl,rfl⟩|(trace_state;fail "fin")
end Go.Proofs.YtcbahpllcfbkmaaGreatDoor
