import Derived.Test.YthoebpnbhgmoiaaGreatDoorIs2
set_option linter.unusedVariables false
set_option linter.unusedSimpArgs false
set_option linter.unusedSectionVars false
open List renaming take_left→JH,getElem_mem→JI,getElem?_eq_getElem→JJ,length_map→JK,map_nil→JL
open Nat renaming reduceEqDiff→JM,reduceAdd→JO,reduceLeDiff→JP,reduceLT→JQ,reduceBEq→JR
namespace Go.Proofs.YthoebpnbhgmoiaaGreatDoor
open Go.RowKit
theorem Nxt.keep2{n0:Nat}{R:ai→List (List V)→Prop}{ρ:ai}{σ:List (List V)}{a b c:List V}(hn:n0≤σ.length)(hb:ay (σ++[a,b]).length (σ++[a,b])=true)(hs:aq (σ++[a,b]).length ρ=true)(hR:R ρ (σ++[a,b])):Nxt n0 R ρ (σ++[a,b,c]) .mk:=by
 have e:σ++[a,b,c]=(σ++[a,b])++[c]:=by simp
 rw[e];exact Nxt.drop (by rw[List.length_append];omega) hb hs hR
set_option maxHeartbeats 4000000 in
theorem tH(i:Nat)(fs:List (ByteArray×Int))(hf:∀s,bJ fs s≤8)(e:Ex):SOk fs e→NN e→aA e≤1000000→tE fs e≤400→∀σ,FB σ i fs→Fun G 50 [.mp i,vex e] σ (aO (vex (scE fs e)) σ):=by
 induction e using Ex.ind3 with
 | h e ih=>
 intro hs hnn hsz ht σ h;have he:=ip e;have hln:=hZ e.args;have hil:=h.lt;have hs':=hs;rw[lj]at hs';refine ao Tryz.func50 k50 (by simp only[am];rfl) fun hb hw=>?_;delta c50 oM oV kI kS kT kF;by_cases o24:e.op=24
 ·obtain⟨g1,g2,g3⟩:=hs'.1 (.inr o24);have hn:=db fs g1;have has:e.name.size≤1000:=by have:=dC g3;omega
  have hres:scE fs e=eH e.name (bZ fs e.name-1):=by rw[kN,if_pos o24]
  have hel:=fun k hk σ=>lJ e.name k hk has σ;have vel:∀k,vex (elE e.name k)=.agg [.d (ah 2),.d (ah 0),.d (al (aB e.name k)),.d (.sl [])]:=fun k=>by rw[am];rfl
  simp only[vel]at hel;rw[hres];generalize bZ fs e.name=n at hn ⊢;simp -dsimp -implicitDefEqProofs only[aw,aj,V.copy,V.lend,V.cells,V.boxable,JP,eq_self,reduceIte,reduceCtorEq,JR,JQ,JM,JO,am,o24,decide_true];refine ae (hel 0 (by omega) _) ?_;simp -dsimp -implicitDefEqProofs only[aw,V.copy,V.cells,V.boxable,over,JP,eq_self,reduceIte,reduceCtorEq,JR,JQ,JM,JO]
  refine bC (R:=fun(j:Nat) ρ σ'=>ρ=[(0,.mp i),(3,.ptr σ.length 0),(4,.ptr (σ.length+1) 0),(5,.ptr (σ.length+2) 0),(6,aL .i64 ((j+1:Nat):Int))]∧σ'=σ++[[.d (ah 24),.d (ah e.num),.d (al e.name),.d (.sl (e.args.map dex))],[.d (ah 0),.d (ah 0),.d (al ⟨#[]⟩),.nil],
   [.d (ah (eH e.name j).op),.d (ah (eH e.name j).num),.d (al (eH e.name j).name),.d (.sl ((eH e.name j).args.map dex))]]) (n-1) ⟨rfl,rfl⟩ ?_ _
  rintro j ρ' σ' hj ⟨rfl,rfl⟩;by_cases hlt:j<n-1
  ·have hlt':((j+1:Nat):Int)<bJ fs e.name:=by omega
   have hk:=hel (j+1) (by omega);have w1:IntKind.i64.wrap (((j+1:Nat):Int)+1)=((j+1+1:Nat):Int):=by rw[wrap_i64 (by omega) (by omega)];omega
   have hch:eH e.name (j+1)=.mk 7 0 ⟨#[]⟩ [eH e.name j,elE e.name (j+1)]:=rfl;generalize eH e.name j=C at hch ⊢;simp -dsimp -implicitDefEqProofs only[aw,V.copy,V.lend,JP,eq_self,reduceIte,reduceCtorEq,JR,JQ,JM,JO,h.at2,bD,eF,decide_eq_true hlt'];refine aZ (hk _) ?_;simp -dsimp -implicitDefEqProofs only[aw,V.copy,V.cells,V.boxable,over,bc,aC,aF,V.plain,JP,eq_self,reduceIte,reduceCtorEq,JR,JQ,JM,JO,w1];refine⟨hlt,Nxt.same (by simp) (an hb rfl) (by simp[aq,V.under];omega) ⟨rfl,?_⟩⟩;rw[hch];simp only[Ex.args,Ex.op,Ex.num,Ex.name,List.map_cons,JL,aT,elE]
  ·have hlt':¬((j+1:Nat):Int)<bJ fs e.name:=by omega
   have:j=n-1:=by omega
   subst this;simp -dsimp -implicitDefEqProofs only[aw,V.copy,V.cells,V.boxable,over,JP,eq_self,reduceIte,reduceCtorEq,JR,JQ,JM,JO,h.at2,bD,eF,decide_eq_false hlt'];rw[am];generalize eH e.name (n-1)=C;exact ac (v:=.agg [.d (ah C.op),.d (ah C.num),.d (al C.name),.d (.sl (C.args.map dex))]) hb (by simp[Bw,cG,cS,aw,V.copy,V.lend,V.lend1,eq_self,reduceIte,JQ,JO]) rfl JH ⟨rfl,rfl⟩
 simp -dsimp -implicitDefEqProofs only[aw,aj,V.copy,V.cells,V.boxable,JP,eq_self,reduceIte,reduceCtorEq,JR,JQ,JM,JO,am,decide_eq_false o24]
 refine bC (R:=fun(j:Nat) ρ σ'=>ρ=[(0,.mp i),(3,.ptr σ.length 0),(4,.ptr (σ.length+1) 0),(7,.own 38 4 ((e.args.take j).map fun a=>dex (scE fs a))),(33,.d (.sl (e.args.map dex))),(34,aL .i64 e.args.length),(35,aL .i64 j)]∧
  σ'=σ++[[.d (ah e.op),.d (ah e.num),.d (al e.name),.d (.sl (e.args.map dex))],[.d (ah 0),.d (ah 0),.d (al ⟨#[]⟩),.nil]]) e.args.length ⟨rfl,rfl⟩ ?_ _
 rintro j ρ' σ' hj ⟨rfl,rfl⟩;by_cases hlt:j<e.args.length
 ·have htk:(e.args.take (j+1)).map (fun a=>dex (scE fs a))=(e.args.take j).map (fun a=>dex (scE fs a))++[dex (scE fs e.args[j])]:=by rw[List.take_add_one,JJ hlt,List.map_append];rfl
  have hel:=gp (JI hlt);have hc:=fun σ h=>ih e.args[j] (JI hlt) ((ci fs).1 hs'.2.2.2.2.2 _ (JI hlt)) (hnn.arg (JI hlt)) (by omega) (Ab hs (JI hlt) ht) σ h;simp only[am]at hc;have hxx:e.args[j]? = some e.args[j]:=JJ hlt;have hlen:((e.args.take j).map fun a=>dex (scE fs a)).length≤1000000:=by rw[JK,List.length_take];omega
  generalize e.args[j]=a at hc hxx htk;have wj:=aH hlt (show e.args.length≤9223372036854775807 by omega);simp -dsimp -implicitDefEqProofs only[aw,V.copy,V.lend,V.lend1,V.cells,V.boxable,over,JP,eq_self,reduceIte,reduceCtorEq,JR,JQ,JM,JO,Int.ofNat_lt,hlt,decide_true,hxx,aT a];refine ae (hc _ (h.app _)) ?_;simp -dsimp -implicitDefEqProofs only[aw,V.copy,V.cells,aC,aF,V.plain,eq_self,reduceIte,reduceCtorEq,JR,JQ,JM,JO];refine bt (by first|omega|(simp only[JK]at *;omega)) ?_;simp -dsimp -implicitDefEqProofs only[aw,V.copy,eq_self,reduceIte,reduceCtorEq,JR,JQ,JM,wj];refine⟨hlt,Nxt.keep2 (Nat.le_refl _) (an hb rfl) (by simp[aq,V.under];omega) ⟨?_,rfl⟩⟩;rw[htk,aT (scE fs a)]
 ·have hall:e.args.take j=e.args:=List.take_of_length_le (by omega);rw[hall];by_cases o3:e.op=3
  ·obtain⟨a,ha⟩:=hs'.2.1 o3;have hSa:SOk fs a:=(ci fs).1 hs'.2.2.2.2.2 a (by simp[ha]);have hna:NN a:=hnn.arg (by simp[ha]);obtain⟨g1,g2,g3⟩:=hs'.1 (.inl o3);have hta:=Ab hs (a:=a) (by simp[ha]) ht;have hszx:=j9 fs a hSa;have hres:scE fs e=dX fs e.name (scE fs a):=by rw[kN,if_neg o24,if_pos o3,ha];simp only[scL]
   have hmap:(e.args.map fun a=>dex (scE fs a))=[dex (scE fs a)]:=by rw[ha];rfl
   rw[hres,hmap];have hcf:=fun σ h=>tV i fs e.name (scE fs a) g1 g2 g3 (DU hSa hna) (by omega) (Ao hSa hna) σ h;generalize scE fs a=A at hcf ⊢;generalize dX fs e.name A=E at hcf ⊢;simp only[am]at hcf;simp -dsimp -implicitDefEqProofs only[aw,V.copy,V.lend,V.lend1,JP,eq_self,reduceIte,reduceCtorEq,JR,JQ,JM,JO,Int.ofNat_lt,hlt,decide_false,o3,decide_true,aT A,oi];refine aZ (hcf _ (h.app _)) ?_;simp -dsimp -implicitDefEqProofs only[aw,V.copy,V.cells,V.boxable,over,JP,eq_self,reduceIte,reduceCtorEq,JR,JQ,JM,JO];rw[am];exact ac (v:=.agg [.d (ah E.op),.d (ah E.num),.d (al E.name),.d (.sl (E.args.map dex))]) hb (by simp[Bw,cG,cS,aw,V.copy,V.lend,V.lend1,eq_self,reduceIte,JO]) rfl JH ⟨rfl,rfl⟩
  ·have hres:scE fs e=.mk e.op e.num e.name (e.args.map (scE fs)):=by rw[kN,if_neg o24,if_neg o3,qq]
   rw[hres];simp -dsimp -implicitDefEqProofs only[aw,V.copy,V.cells,V.boxable,over,JP,eq_self,reduceIte,reduceCtorEq,JR,JQ,JM,JO,Int.ofNat_lt,hlt,decide_false,decide_eq_false o3];rw[am];exact ac (v:=.agg [.d (ah e.op),.d (ah e.num),.d (al e.name),.d (.sl ((e.args.map (scE fs)).map dex))]) hb (by simp[Bw,cG,cS,Function.comp_def,aw,V.copy,V.lend,V.lend1,eq_self,reduceIte,JO]) rfl JH ⟨rfl,rfl⟩
theorem rq:vex cI=.agg [.d (ah 0),.d (ah 0),.d (al ⟨#[]⟩),.d (.sl [])]:=by rw[am];rfl
theorem CF{e:Ex}(h:ed e=0):NN e:=fun n hn ho=>kO e h n hn ho
set_option maxHeartbeats 4000000 in
theorem iQ(e:Ex)(c:Cl)(hsz:aA e≤1000000)(hs:SmallF (au c))(hc:c.fields.length≤1000000)(σ:List (List V)):Fun G 18 [vex e,vcl c] σ (aO (.tup [vex (be aM (au c) e).1,.d (ah (be aM (au c) e).2)]) σ):=by
 have hz:=tY hs
 have hf:∀s,bJ (au c) s≤8:=fun s=>by
  unfold bJ;cases hx:fsz (au c) s with
  | none=>show(0:Int)≤8;omega
  | some n=>exact(hz s n hx).2
 refine ao Tryz.func18 k18 (by simp only[am];rfl) fun hb hw=>?_;delta c18 oM oV kI kS kT kF;have hv:=fun σ=>gD e hsz (by have:=dO e;omega) σ;simp only[am]at hv;have hx:=fun he i σ h=>iu i (au c) hz e [] hsz (jY _ he) σ h;simp only[am,aQ,JL]at hx;have hp:=fun hS i σ h=>vH i (au c) hf e hS hsz σ h;simp only[am]at hp;have hsc:=fun hS hn ht i σ h=>tH i (au c) hf e hS hn hsz ht σ h;simp only[am]at hsc;simp -dsimp -implicitDefEqProofs only[aw,aj,V.copy,V.lend,V.lend1,V.cells,V.boxable,JP,eq_self,reduceIte,reduceCtorEq,JR,JQ,JM,JO,am];refine ae (hv _) ?_;by_cases h0:aX e=0
 case neg=>
  have hres:be aM (au c) e=(cI,aX e):=by unfold be;rw[if_pos h0]
  rw[hres,←am,rq];simp -dsimp -implicitDefEqProofs only[aw,V.copy,V.cells,V.boxable,over,bc,JP,eq_self,reduceIte,JR,JQ,JM,JO,decide_eq_false h0];exact ac (v:=.tup [.agg [.d (ah 0),.d (ah 0),.d (al ⟨#[]⟩),.d (.sl [])],.d (ah (aX e))]) hb (by simp[vz,cG,mX,cS,aw,V.copy,V.lend,V.lend1,eq_self,reduceIte,JM,JO]) rfl JH ⟨rfl,rfl⟩
 have he:=cw h0;simp -dsimp -implicitDefEqProofs only[aw,V.copy,V.lend,V.lend1,JP,eq_self,reduceIte,JR,JQ,JM,JO,h0,decide_true];refine ck (tU c hs hc _) ?_;rintro o σ' ⟨rfl,rfl⟩;rw[ce];simp -dsimp -implicitDefEqProofs only[aw,V.copy,V.lend,V.lend1,JP,eq_self,reduceIte,JR,JQ,JM,JO]
 have hFB:∀L,FB (σ++[[V.d (ah e.op),V.d (ah e.num),V.d (al e.name),V.d (D.sl (List.map dex e.args))],em c,[V.d (ah 0),V.d (ah 0),V.d (al ⟨#[]⟩),V.nil],em c,[V.mapc true (kvF (au c))]]++L) (σ.length+3+1) (au c):=fun L=>by
  unfold FB;rw[List.append_assoc,List.getElem?_append_right (by omega),show σ.length+3+1-σ.length=4 by omega];rfl
 have hFB0:=hFB [];rw[List.append_nil]at hFB0;refine ae (hx he _ _ hFB0) ?_;by_cases hc0:dB aM (au c) [] e=0
 case neg=>
  have hres:be aM (au c) e=(cI,dB aM (au c) [] e):=by unfold be;rw[if_neg (by simp[h0]),if_pos hc0]
  rw[hres,←am,rq];simp -dsimp -implicitDefEqProofs only[aw,V.copy,V.cells,V.boxable,over,bc,JP,eq_self,reduceIte,JR,JQ,JM,JO,decide_eq_false hc0];exact ac (v:=.tup [.agg [.d (ah 0),.d (ah 0),.d (al ⟨#[]⟩),.d (.sl [])],.d (ah (dB aM (au c) [] e))]) hb (by simp[vz,cG,mX,cS,aw,V.copy,V.lend,V.lend1,eq_self,reduceIte,JQ,JM,JO]) rfl JH ⟨rfl,rfl⟩
 have hS:=nx aM (au c) hf e he hc0;simp -dsimp -implicitDefEqProofs only[aw,V.copy,V.lend,V.lend1,JP,eq_self,reduceIte,JR,JQ,JM,JO,hc0,decide_true];refine ae (hp hS _ _ hFB0) ?_;by_cases h4:400<psE (au c) e
 ·have hres:=nD aM (au c) hf h0 hc0 (.inl h4);have h4':(400:Int)<(psE (au c) e:Nat):=by omega
  rw[hres,←am,rq];simp -dsimp -implicitDefEqProofs only[aw,V.copy,V.cells,V.boxable,over,bc,JP,eq_self,reduceIte,JR,JQ,JM,JO,decide_eq_true h4'];exact ac (v:=.tup [.agg [.d (ah 0),.d (ah 0),.d (al ⟨#[]⟩),.d (.sl [])],.d (ah 2)]) hb (by simp[vz,cG,mX,cS,aw,V.copy,V.lend,V.lend1,eq_self,reduceIte,JQ,JM,JO]) rfl JH ⟨rfl,rfl⟩
 have h4':¬(400:Int)<(psE (au c) e:Nat):=by omega
 have ht:tE (au c) e≤400:=by have:=EU (au c) e hS;omega
 have hszx:=j9 (au c) e hS;simp -dsimp -implicitDefEqProofs only[aw,V.copy,V.lend,V.lend1,JP,eq_self,reduceIte,JR,JQ,JM,JO,decide_eq_false h4'];refine ae (hsc hS (CF he) ht _ _ hFB0) ?_;have hr1:aX (scE (au c) e)≠0→be aM (au c) e=(cI,2):=fun h=>by unfold be;rw[if_neg (by simp[h0]),if_neg (by simp[hc0]),if_pos h]
 have hr2:aX (scE (au c) e)=0→be aM (au c) e=(scE (au c) e,0):=fun h=>by unfold be;rw[if_neg (by simp[h0]),if_neg (by simp[hc0]),if_neg (by simp[h])]
 have hvA:=fun σ=>gD (scE (au c) e) (by omega) (by have:=dO (scE (au c) e);omega) σ;generalize scE (au c) e=A at hr1 hr2 hvA ⊢;simp only[am]at hvA;simp -dsimp -implicitDefEqProofs only[aw,V.copy,V.lend,V.lend1,V.cells,V.boxable,over,JP,eq_self,reduceIte,JR,JQ,JM,JO];refine ae (hvA _) ?_;by_cases hvz:aX A=0
 ·rw[hr2 hvz,←am,am];simp -dsimp -implicitDefEqProofs only[aw,V.copy,V.cells,V.boxable,over,JP,eq_self,reduceIte,JR,JQ,JM,JO,hvz,decide_true];exact ac (v:=.tup [.agg [.d (ah A.op),.d (ah A.num),.d (al A.name),.d (.sl (A.args.map dex))],.d (ah 0)]) hb (by simp[vz,cG,mX,cS,aw,V.copy,V.lend,V.lend1,eq_self,reduceIte,JQ,JM,JO]) rfl JH ⟨rfl,rfl⟩
 ·rw[hr1 hvz,←am,rq];simp -dsimp -implicitDefEqProofs only[aw,V.copy,V.cells,V.boxable,over,bc,JP,eq_self,reduceIte,JR,JQ,JM,JO,decide_eq_false hvz];exact ac (v:=.tup [.agg [.d (ah 0),.d (ah 0),.d (al ⟨#[]⟩),.d (.sl [])],.d (ah 2)]) hb (by simp[vz,cG,mX,cS,aw,V.copy,V.lend,V.lend1,eq_self,reduceIte,JQ,JM,JO]) rfl JH ⟨rfl,rfl⟩
end Go.Proofs.YthoebpnbhgmoiaaGreatDoor
