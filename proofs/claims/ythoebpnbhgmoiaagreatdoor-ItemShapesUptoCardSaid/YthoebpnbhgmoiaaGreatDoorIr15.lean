import Derived.Test.YthoebpnbhgmoiaaGreatDoorIr8
import Derived.Test.YthoebpnbhgmoiaaGreatDoorIr10
import Derived.Test.YthoebpnbhgmoiaaGreatDoorIs3
set_option linter.unusedVariables false
set_option linter.unusedSimpArgs false
set_option linter.unusedSectionVars false
open Int renaming ofNat_lt→JH
open List renaming take_left→JI,getElem_mem→JJ,getElem?_eq_getElem→JK,getElem?_cons_zero→JL,getElem?_cons_succ→JM,length_map→JO
open Nat renaming reduceEqDiff→JP,reduceAdd→JQ,reduceLeDiff→JR,reduceLT→JS,reduceBEq→JT
namespace Go.Proofs.YthoebpnbhgmoiaaGreatDoor
open Go.RowKit
set_option maxHeartbeats 8000000 in
theorem qC(c:Cl)(hc:c.fields.length≤1000000)(hf:∀s,bJ (au c) s≤8)(e:Ex):SOk (au c) e→NN e→aA e≤1000000→∀σ,Fun G 53 [vex e,vcl c] σ (aO (vex (scE (au c) e)) σ):=by
 induction e using Ex.ind3 with
 | h e ih=>
 intro hs hnn hsz σ;have he:=ip e;have hln:=hZ e.args;have hs':=hs;rw[lj]at hs';refine ao Tryz.func53 k53 (by simp only[am];rfl) fun hb hw=>?_;delta c53 oM oV kI kS kT kF;have hfi:(fsz (au c) e.name).getD 0=bJ (au c) e.name:=rfl;simp -dsimp -implicitDefEqProofs only[aw,aj,V.copy,V.lend,V.lend1,V.cells,V.boxable,JR,eq_self,reduceIte,reduceCtorEq,JT,JS,JP,JQ,am];refine ae (eR c e.name hc _) ?_;by_cases o24:e.op=24
 ·obtain⟨g1,g2,g3⟩:=hs'.1 (.inr o24);have hn:=db (au c) g1;have has:e.name.size≤1000:=by have:=dC g3;omega
  have hres:scE (au c) e=eH e.name (bZ (au c) e.name-1):=by rw[kN,if_pos o24]
  have hsm:=fun σ=>zL e.name has (bZ (au c) e.name-1) (by omega) σ;rw[show(((bZ (au c) e.name-1+1:Nat)):Int)=bJ (au c) e.name by omega]at hsm;rw[hres];generalize eH e.name (bZ (au c) e.name-1)=S at hsm ⊢;simp only[am]at hsm;simp -dsimp -implicitDefEqProofs only[aw,V.copy,V.lend,JR,eq_self,reduceIte,JT,JS,JP,JQ,hfi,o24,decide_true];refine ae (hsm _) ?_;simp -dsimp -implicitDefEqProofs only[aw,V.copy,V.cells,V.boxable,over,JR,eq_self,reduceIte,JT,JS,JP,JQ];rw[am];exact ac (v:=.agg [.d (ah S.op),.d (ah S.num),.d (al S.name),.d (.sl (S.args.map dex))]) hb (by simp[uT,cG,cS,aw,V.copy,V.lend,V.lend1,eq_self,reduceIte,JQ]) rfl JI ⟨rfl,rfl⟩
 simp -dsimp -implicitDefEqProofs only[aw,V.copy,V.cells,V.boxable,over,bc,JR,eq_self,reduceIte,JT,JS,JP,JQ,hfi,decide_eq_false o24]
 refine jL (R:=fun(j:Nat) ρ σ'=>ρ=[(2,.ptr σ.length 0),(3,.ptr (σ.length+1) 0),(4,.ptr (σ.length+2) 0),(5,.d (ah (bJ (au c) e.name))),(7,.ptr (σ.length+3) 0),(8,aL .i64 j)]∧σ'=σ++[[.d (ah e.op),.d (ah e.num),.d (al e.name),.d (.sl (e.args.map dex))],em c,[.d (ah 0),.d (ah 0),.d (al ⟨#[]⟩),.nil],
  [.d (ah e.op),.d (ah e.num),.d (al e.name),.own 38 4 ((e.args.take j).map fun a=>dex (scE (au c) a))]]) e.args.length (.step (i:=σ.length+3) (off:=3) (cs:=[.d (ah e.op),.d (ah e.num),.d (al e.name),.nil]) 38 4 (by simp only[kY,JM,JL]) rfl (.refl _)) ⟨rfl,by simp[]⟩ ?_ _
 rintro j ρ' σ' hj ⟨rfl,rfl⟩;by_cases hlt:j<e.args.length
 ·have htk:(e.args.take (j+1)).map (fun a=>dex (scE (au c) a))=(e.args.take j).map (fun a=>dex (scE (au c) a))++[dex (scE (au c) e.args[j])]:=by rw[List.take_add_one,JK hlt,List.map_append];rfl
  have hel:=gp (JJ hlt);have hcl:=fun σ=>ih e.args[j] (JJ hlt) ((ci (au c)).1 hs'.2.2.2.2.2 _ (JJ hlt)) (hnn.arg (JJ hlt)) (by omega) σ;simp only[am]at hcl;have hxx:e.args[j]? = some e.args[j]:=JK hlt;have wj:=aH hlt (show e.args.length≤9223372036854775807 by omega);have hlen:((e.args.take j).map fun a=>dex (scE (au c) a)).length≤1000000:=by rw[JO,List.length_take];omega
  generalize e.args[j]=a at hxx hcl htk hel;simp -dsimp -implicitDefEqProofs only[aw,V.copy,JR,eq_self,reduceIte,JT,JS,JP,JQ,JH,hlt,decide_true];refine Dy (cs:=[.d (ah e.op),.d (ah e.num),.d (al e.name),.own 38 4 ((e.args.take j).map fun a=>dex (scE (au c) a))]) ⟨σ.length+3,3,38,4,(e.args.take j).map fun a=>dex (scE (au c) a)⟩ (by simp only[kY,JM,JL]) rfl ?_;simp -dsimp -implicitDefEqProofs only[aw,V.copy,V.lend,V.lend1,JR,eq_self,reduceIte,JS,JP,JQ,aT a,hxx];refine vS (hcl) ?_;simp -dsimp -implicitDefEqProofs only[aw,V.copy,V.cells,aC,aF,V.plain,eq_self,reduceIte,JT,JS,JP,JQ]
  refine bt (by first|omega|(simp only[JO]at *;omega)) ?_;simp -dsimp -implicitDefEqProofs only[aw,V.copy,over,eq_self,reduceIte,JT,JS,JP,JQ,wj];refine⟨hlt,Nxt.same (by simp) (an hb rfl) (by simp[aq,V.under]) ⟨rfl,?_⟩⟩;rw[htk,aT (scE (au c) a)]
 ·have hall:e.args.take j=e.args:=List.take_of_length_le (by omega);rw[hall];by_cases o3:e.op=3
  ·obtain⟨a,ha⟩:=hs'.2.1 o3;have hSa:SOk (au c) a:=(ci (au c)).1 hs'.2.2.2.2.2 a (by simp[ha]);have hna:NN a:=hnn.arg (by simp[ha]);obtain⟨g1,g2,g3⟩:=hs'.1 (.inl o3);have hn:=db (au c) g1;have has:e.name.size≤1000:=by have:=dC g3;omega
   have hres:scE (au c) e=dX (au c) e.name (scE (au c) a):=by rw[kN,if_neg o24,if_pos o3,ha];simp only[scL]
   have hmap:(e.args.map fun a=>dex (scE (au c) a))=[dex (scE (au c) a)]:=by rw[ha];rfl
   have hnum:=fun h=>Ao hSa hna h;rw[hres,hmap];generalize scE (au c) a=A at hnum ⊢;by_cases o1:A.op=1
   ·have hnum:=hnum o1;by_cases hl:A.num<bJ (au c) e.name
    ·have hr2:dX (au c) e.name A=elE e.name A.num.toNat:=by unfold dX;rw[if_pos o1,if_pos hl]
     have hel:=fun σ=>jN e.name A.num.toNat (by omega) has σ;rw[show((A.num.toNat:Nat):Int)=A.num by omega]at hel;rw[hr2];generalize elE e.name A.num.toNat=E at hel ⊢;simp only[am]at hel;simp -dsimp -implicitDefEqProofs only[aw,V.copy,V.lend,V.cells,V.boxable,over,JR,cond_true,eq_self,reduceIte,JT,JS,JP,JQ,JH,hlt,decide_false,o3,decide_true,aT A,oi,decide_eq_true o1,decide_eq_true hl];refine ae (hel _) ?_;simp -dsimp -implicitDefEqProofs only[aw,V.copy,V.cells,V.boxable,over,JR,eq_self,reduceIte,JT,JS,JP,JQ];rw[am]
     exact ac (v:=.agg [.d (ah E.op),.d (ah E.num),.d (al E.name),.d (.sl (E.args.map dex))]) hb (by simp[uT,cG,cS,aw,V.copy,V.lend,V.lend1,eq_self,reduceIte,JS,JQ]) rfl JI ⟨rfl,rfl⟩
    ·have hr2:dX (au c) e.name A=aU 0:=by unfold dX;rw[if_pos o1,if_neg hl]
     have hcn:=fun σ=>ll 0 σ;rw[hr2];generalize aU 0=E at hcn ⊢;simp only[am]at hcn;simp -dsimp -implicitDefEqProofs only[aw,V.copy,V.lend,V.cells,V.boxable,over,JR,cond_true,eq_self,reduceIte,JT,JS,JP,JQ,JH,hlt,decide_false,o3,decide_true,aT A,oi,decide_eq_true o1,decide_eq_false hl];refine ae (hcn _) ?_;simp -dsimp -implicitDefEqProofs only[aw,V.copy,V.cells,V.boxable,over,JR,eq_self,reduceIte,JT,JS,JP,JQ];rw[am];exact ac (v:=.agg [.d (ah E.op),.d (ah E.num),.d (al E.name),.d (.sl (E.args.map dex))]) hb (by simp[uT,cG,cS,aw,V.copy,V.lend,V.lend1,eq_self,reduceIte,JS,JQ]) rfl JI ⟨rfl,rfl⟩
   ·have hr2:dX (au c) e.name A=chX e.name (bZ (au c) e.name) A (bZ (au c) e.name):=by unfold dX;rw[if_neg o1]
    have hch:=fun σ=>qG e.name has (bZ (au c) e.name) (by omega) A (bZ (au c) e.name) (Nat.le_refl _) σ;rw[Nat.sub_self,hn]at hch;rw[hr2];generalize chX e.name (bZ (au c) e.name) A (bZ (au c) e.name)=E at hch ⊢;simp only[am]at hch;simp -dsimp -implicitDefEqProofs only[aw,V.copy,V.lend,V.lend1,V.cells,V.boxable,over,JR,eq_self,reduceIte,JT,JS,JP,JQ,JH,hlt,decide_false,o3,decide_true,aT A,oi,decide_eq_false o1];refine ae (hch _) ?_;simp -dsimp -implicitDefEqProofs only[aw,V.copy,V.cells,V.boxable,over,JR,eq_self,reduceIte,JT,JS,JP,JQ];rw[am]
    exact ac (v:=.agg [.d (ah E.op),.d (ah E.num),.d (al E.name),.d (.sl (E.args.map dex))]) hb (by simp[uT,cG,cS,aw,V.copy,V.lend,V.lend1,eq_self,reduceIte,JS,JQ]) rfl JI ⟨rfl,rfl⟩
  ·have hres:scE (au c) e=.mk e.op e.num e.name (e.args.map (scE (au c))):=by rw[kN,if_neg o24,if_neg o3,qq]
   rw[hres];simp -dsimp -implicitDefEqProofs only[aw,V.copy,V.cells,V.boxable,over,JR,eq_self,reduceIte,JT,JS,JP,JQ,JH,hlt,decide_false,decide_eq_false o3];rw[am];exact ac (v:=.agg [.d (ah e.op),.d (ah e.num),.d (al e.name),.d (.sl ((e.args.map (scE (au c))).map dex))]) hb (by simp[uT,cG,cS,Function.comp_def,aw,V.copy,V.lend,V.lend1,eq_self,reduceIte,JS,JQ]) rfl JI ⟨rfl,rfl⟩
set_option maxHeartbeats 4000000 in
theorem qa(e:Ex)(c:Cl)(hsz:aA e≤900000)(hs:SmallF (au c))(hc:c.fields.length≤1000000)(σ:List (List V)):Fun G 19 [vex e,vcl c] σ (aO (.tup [vex (be aM (au c) e).1,.d (ah (be aM (au c) e).2)]) σ):=by
 have hf:∀s,bJ (au c) s≤8:=fun s=>(hs.le s).2;refine ao Tryz.func19 k19 (by simp only[am];rfl) fun hb hw=>?_;delta c19 oM oV kI kS kT kF
 have hout:∀(X:Ex) (r:Int) S L (v3:V),be aM (au c) e=(X,r)→S=σ++L→(v3=.d (.sl (X.args.map dex))∨v3=.nil∧X.args=[])→S[σ.length+2]? = some [.d (ah X.op),.d (ah X.num),.d (al X.name),v3]→fin σ.length BA (aO (.tup [vex (be aM (au c) e).1,.d (ah (be aM (au c) e).2)]) σ) .ret [(4,.ptr (σ.length+2) 0),(5,.d (ah r))] S:=fun X r S L v3 e1 e2 e4 e3=>by
  rw[e1,am];refine ac (v:=.tup [.agg [.d (ah X.op),.d (ah X.num),.d (al X.name),.d (.sl (X.args.map dex))],.d (ah r)]) hb ?_ rfl (by rw[e2];exact JI) ⟨rfl,rfl⟩;rcases e4 with rfl|⟨rfl,ha⟩
  ·simp[BA,cG,mX,cS,e3,aw,V.copy,V.lend,V.lend1,eq_self,reduceIte,JP,JQ]
  ·simp[BA,cG,mX,cS,e3,ha,aw,V.copy,V.lend,V.lend1,eq_self,reduceIte,JP,JQ]
 have hv:=fun σ=>hY e (by omega) (by have:=dO e;omega) σ;simp only[am]at hv;have hx:=fun he σ=>pt e c [] (by omega) (jY _ he) hc (by simp) σ;simp only[am,aQ,List.map_nil]at hx;have hp:=fun hS σ=>qJ c hc hf e hS (by omega) σ;simp only[am]at hp;have hsc:=fun hS hn σ=>qC c hc hf e hS hn (by omega) σ;have hbx:∀(a b d:List V) (L:List (List V)),(σ++a::b::d::L)[σ.length+2]? = some d:=fun a b d L=>by rw[List.getElem?_append_right (by omega),show σ.length+2-σ.length=2 by omega];rfl
 simp -dsimp -implicitDefEqProofs only[aw,aj,V.copy,V.lend,V.lend1,V.cells,V.boxable,JR,eq_self,reduceIte,reduceCtorEq,JT,JS,JP,JQ,am];refine ae (hv _) ?_;by_cases h0:aX e=0
 case neg=>
  have hres:be aM (au c) e=(cI,aX e):=by unfold be;rw[if_pos h0]
  simp -dsimp -implicitDefEqProofs only[aw,V.copy,V.cells,V.boxable,over,bc,JR,eq_self,reduceIte,JT,JS,JP,JQ,decide_eq_false h0];exact hout _ _ _ _ .nil hres rfl (.inr ⟨rfl,rfl⟩) (hbx _ _ _ _)
 have he:=cw h0;simp -dsimp -implicitDefEqProofs only[aw,V.copy,V.lend,V.lend1,JR,eq_self,reduceIte,JT,JS,JP,JQ,h0,decide_true];refine ae (hx he _) ?_;by_cases hc0:dB aM (au c) [] e=0
 case neg=>
  have hres:be aM (au c) e=(cI,dB aM (au c) [] e):=by unfold be;rw[if_neg (by simp[h0]),if_pos hc0]
  simp -dsimp -implicitDefEqProofs only[aw,V.copy,V.cells,V.boxable,over,bc,JR,eq_self,reduceIte,JT,JS,JP,JQ,decide_eq_false hc0];exact hout _ _ _ _ .nil hres rfl (.inr ⟨rfl,rfl⟩) (hbx _ _ _ _)
 have hS:=nx aM (au c) hf e he hc0;simp -dsimp -implicitDefEqProofs only[aw,V.copy,V.lend,V.lend1,JR,eq_self,reduceIte,JT,JS,JP,JQ,hc0,decide_true];refine ae (hp hS _) ?_;by_cases h5:50000≤rwE (au c) e
 ·have hres:=nD aM (au c) hf h0 hc0 (.inr h5);have h5':(50000:Int)≤(rwE (au c) e:Nat):=by omega
  simp -dsimp -implicitDefEqProofs only[aw,V.copy,V.cells,V.boxable,over,bc,JR,eq_self,reduceIte,JT,JS,JP,JQ,decide_eq_true h5'];exact hout _ _ _ _ .nil hres rfl (.inr ⟨rfl,rfl⟩) (hbx _ _ _ _)
 have h5':¬(50000:Int)≤(rwE (au c) e:Nat):=by omega
 have ht:tE (au c) e≤50000:=by have:=(EZ (au c) e hS).2;omega
 have hszx:=j9 (au c) e hS;have hsr:=hsc hS (CF he);have hr1:aX (scE (au c) e)≠0→be aM (au c) e=(cI,2):=fun h=>by unfold be;rw[if_neg (by simp[h0]),if_neg (by simp[hc0]),if_pos h]
 have hr2:aX (scE (au c) e)=0→be aM (au c) e=(scE (au c) e,0):=fun h=>by unfold be;rw[if_neg (by simp[h0]),if_neg (by simp[hc0]),if_neg (by simp[h])]
 have hvA:=fun σ=>hY (scE (au c) e) (by omega) (by have:=dO (scE (au c) e);omega) σ;generalize scE (au c) e=A at hr1 hr2 hvA hsr;simp only[am]at hvA hsr;simp -dsimp -implicitDefEqProofs only[aw,V.copy,V.lend,V.lend1,JR,eq_self,reduceIte,JT,JS,JP,JQ,decide_eq_false h5'];refine ae (hsr _) ?_;simp -dsimp -implicitDefEqProofs only[aw,V.copy,V.lend,V.lend1,V.cells,V.boxable,over,JR,eq_self,reduceIte,JT,JS,JP,JQ];refine ae (hvA _) ?_;by_cases hvz:aX A=0
 ·simp -dsimp -implicitDefEqProofs only[aw,V.copy,V.cells,V.boxable,over,JR,eq_self,reduceIte,JT,JS,JP,JQ,hvz,decide_true];exact hout _ _ _ _ _ (hr2 hvz) rfl (.inl rfl) (hbx _ _ _ _)
 ·simp -dsimp -implicitDefEqProofs only[aw,V.copy,V.cells,V.boxable,over,bc,JR,eq_self,reduceIte,JT,JS,JP,JQ,decide_eq_false hvz];exact hout _ _ _ _ .nil (hr1 hvz) rfl (.inr ⟨rfl,rfl⟩) (hbx _ _ _ _)
end Go.Proofs.YthoebpnbhgmoiaaGreatDoor
