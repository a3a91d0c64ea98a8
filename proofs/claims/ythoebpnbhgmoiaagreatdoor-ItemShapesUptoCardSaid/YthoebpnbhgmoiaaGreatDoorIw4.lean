import Derived.Test.YthoebpnbhgmoiaaGreatDoorIw3
import Derived.Test.YthoebpnbhgmoiaaGreatDoorSha
set_option linter.unusedVariables false
set_option linter.unusedSimpArgs false
set_option linter.unusedSectionVars false
open Int renaming reduceEq→JH,ofNat_lt→JI
open List renaming take_length→JJ,take_left→JK,map→JL,append_nil→JM
open Nat renaming reduceEqDiff→JO,reduceBEq→JP,reduceLT→JQ,reduceLeDiff→JR,reduceAdd→JS
namespace Go.Proofs.YthoebpnbhgmoiaaGreatDoor
open Go.RowKit
def PV(x:It)(d:Nat)(_:List ByteArray):Prop:=eO x≤1000000∧bp x d=0∧rvl x.items (d+1)=0∧rvl x.els (d+1)=0
theorem rW{l:List It}{d:Nat}(bd:List ByteArray)(h:rvl l d=0)(hb:bu l≤1000000):∀x,x∈l→PV x d bd:=fun x hx=>by
 obtain⟨h1,h2,h3⟩:=jF h hx;exact⟨by have:=cm hx;omega,h1,h2,h3⟩
theorem B9:BU PV:=by
 intro x d bd ⟨h0,h1,h2,h3⟩;have hb:=bI x;by_cases hk:x.kind=4∨x.kind=5
 ·have hd:dep x d=d+1:=if_pos hk;rw[hd];exact⟨rW _ h2 (by omega),rW _ h3 (by omega)⟩
 ·obtain⟨-,hp,-⟩:=gK h1;obtain⟨g1,g2⟩:=nH hp hk;rw[g1,g2];exact⟨fun y hy=>(by cases hy),fun y hy=>(by cases hy)⟩
theorem xU:BU fun x _ _=>eO x≤1000000:=by
 intro x d bd h;have hb:=bI x;exact⟨fun y hy=>by have:=cm hy;omega,fun y hy=>by have:=cm hy;omega⟩
theorem uS(σ:List (List V))(hb:ay σ.length σ=true):Vst (fun(_:Unit) x d bd=>(tD x d bd,())) (fun x _ _=>eO x≤1000000) (.fn 63 []) (fun _ τ=>τ=σ) σ.length where
 len:=fun s τ h=>by rw[h]
 bb:=fun s τ h=>by rw[h];exact hb
 und:=rfl
 val:=.inl ⟨_,_,rfl⟩
 call:=fun s τ x d bd h hp l=>by
  subst h;exact(uQ x d bd hp (τ++l)).mono fun o σ' ⟨e1,e2⟩=>⟨τ,rfl,e2,e1⟩
theorem nP(l:List It)(hl:bu l≤900000)(σ:List (List V)):Fun G 31 [.d (de l)] σ (aO (.d (ah (fp l))) σ):=by
 refine ao Tryz.func31 k31 rfl fun hb hw=>?_;delta c31 oM oV kI kS kT kF;unfold fp;simp -dsimp -implicitDefEqProofs only[aw,aj,V.copy,V.lend,eq_self,reduceIte,reduceCtorEq,JP,JQ];refine ae (ld l (by have:=jX l;omega) _) ?_;by_cases h:64<bN l
 ·have h':(64:Int)<(bN l:Int):=by omega
  rw[if_pos h];simp -dsimp -implicitDefEqProofs only[aw,V.copy,V.lend,bc,eq_self,reduceIte,reduceCtorEq,JP,JQ,JO,decide_eq_true h'];first|exact ac hb rfl rfl JJ ⟨rfl,rfl⟩|exact ac hb rfl rfl JK ⟨rfl,rfl⟩
 ·have h':¬(64:Int)<(bN l:Int):=by omega
  rw[if_neg h];simp -dsimp -implicitDefEqProofs only[aw,V.copy,V.lend,V.lend1,bc,eq_self,reduceIte,reduceCtorEq,JP,JQ,JO,decide_eq_false h'];have:=nk _ _ xU _ l (by omega) 0 [] _ _ (uS σ hb) (fun x hx=>by have:=cm hx;omega) (by omega) (by simp;omega) () σ rfl;refine ck this ?_;rintro o σ' ⟨τ,rfl,rfl,rfl⟩;rw[ce,JM];have e:(wks (fun(_:Unit) x d bd=>(tD x d bd,())) l 0 [] ()).1=rvl l 0:=tn l 0 [];rw[e];simp -dsimp -implicitDefEqProofs only[aw,V.copy,eq_self,reduceIte,reduceCtorEq,JP,JQ,JO];first|exact ac hb rfl rfl JJ ⟨rfl,rfl⟩|exact ac hb rfl rfl JK ⟨rfl,rfl⟩
theorem gM{x:It}{d:Nat}(h:bp x d=0):(if x.kind=3 then fY x else if x.kind=6 then iK x else if x.kind=5 then oY x else aX x.ex)=0:=by
 unfold bp at h;split at h
 ·cases h
 ·exact h
theorem mF{x:It}{d:Nat}(h:bp x d=0)(hk:x.kind=3∨x.kind=6)(bd:List ByteArray):∀s,s∈cy x bd→bv s=true:=by
 have hs:=gM h;intro s hm;unfold cy at hm;rcases hk with k|k
 ·rw[if_pos k,qL]at hs;rw[if_neg (by omega),if_pos (.inl k)]at hm;simp only[List.mem_singleton]at hm;subst hm;split at hs
  ·rename_i h1;exact absurd hs h1
  ·split at hs
   ·assumption
   ·cases hs
 ·rw[if_neg (by omega),if_pos k]at hs;rw[if_neg (by omega),if_neg (by omega),if_pos k]at hm;unfold iK at hs;split at hs
  ·cases hs
  ·split at hs
   ·rename_i h2;exact List.all_eq_true.1 h2 s hm
   ·cases hs
theorem Ci(x:It)(bd:List ByteArray)(hk:x.kind=3∨x.kind=6):(cy x bd).length≤eO x:=by
 have:=bI x;unfold cy;rcases hk with k|k
 ·rw[if_neg (by omega),if_pos (.inl k)];simp;omega
 ·rw[if_neg (by omega),if_neg (by omega),if_pos k,List.length_append];omega
theorem BI(spl:ByteArray→Option (ByteArray×Int))(fs:List (ByteArray×Int))(x:It)(d:Nat)(bd:List ByteArray)(hk:x.kind=3∨x.kind=6):dY spl fs x d bd=if(cy x bd).all (dg spl fs)=true then 0 else 7:=by
 rcases hk with k|k
 ·have e:cy x bd=[x.name]:=by unfold cy;rw[if_neg (by omega),if_pos (.inl k)]
  unfold dY;rw[e,if_pos k];simp
 ·have e:cy x bd=x.bef++x.aft:=by unfold cy;rw[if_neg (by omega),if_neg (by omega),if_pos k]
  unfold dY;rw[e,if_neg (by omega),if_pos k]
set_option maxHeartbeats 4000000 in
theorem nL(i:Nat)(fs:List (ByteArray×Int))(hp:Sz8 fs)(x:It)(d:Nat)(bd:List ByteArray)(hbig:eO x≤1000000)(hsh:bp x d=0)(σ:List (List V))(h:FB σ i fs):
 Fun G 38 [.mp i,vit x,mu d bd] σ (aO (.d (ah (dY aM fs x d bd))) σ):=by
 have hb0:=bI x;have hil:=h.lt;refine ao Tryz.func38 k38 (by simp only[aK];rfl) fun hb hw=>?_;delta c38 oM oV kI kS kT kF;by_cases k36:x.kind=3∨x.kind=6
 ·rw[BI aM fs x d bd k36];have hv:=mF hsh k36 bd;have hlen:=Ci x bd k36;have hmn:=fun σ=>jm x d bd hbig σ;simp only[aK,mu]at hmn;generalize cy x bd=L at hv hlen hmn ⊢;rcases k36 with k|k
  all_goals
   simp -dsimp -implicitDefEqProofs only[aw,aj,V.copy,V.lend,V.lend1,V.cells,V.boxable,JR,eq_self,reduceIte,reduceCtorEq,JP,JQ,JO,JS,aK,k,JH,decide_true,decide_false];rw[k]at hmn;refine ae (hmn _) ?_;simp -dsimp -implicitDefEqProofs only[aw,V.copy,eq_self,reduceIte,reduceCtorEq,JP,JQ,JO,aQ]
   refine cU [0,20,21,22] (R:=fun(j:Nat) ρ σ'=>ρ=[(0,.mp i),(20,.d (.sl (L.map fun s=>[al s]))),(21,aL .i64 L.length),(22,aL .i64 j)]∧L.all (dg aM fs)=(L.drop j).all (dg aM fs)∧
    σ'=σ++[[.d (ah x.kind),.d (ah x.ex.op),.d (ah x.ex.num),.d (al x.ex.name),.d (.sl (x.ex.args.map dex)),.d (al x.name),.d (al x.idx),.d (.sl (x.ws.map dwt)),.d (.sl (x.items.map dit)),.d (.sl (x.els.map dit)),.d (.sl (x.bef.map fun s=>[al s])),.d (.sl (x.aft.map fun s=>[al s]))],[.d (ah d),.d (.sl (bd.map fun s=>[al s]))]]) L.length ⟨rfl,rfl,by rw[k]⟩ ?_ _
   rintro j ρ' σ' hj ⟨rfl,hr,rfl⟩;by_cases hlt:j<L.length
   ·have ht:(L.drop j).all (dg aM fs)=(dg aM fs L[j]&&(L.drop (j+1)).all (dg aM fs)):=by rw[List.drop_eq_getElem_cons hlt,List.all_cons]
    rw[ht]at hr;have wj:=aH hlt (show L.length≤9223372036854775807 by omega);simp -dsimp -implicitDefEqProofs only[aw,V.copy,V.lend,JR,eq_self,reduceIte,reduceCtorEq,JP,JQ,JO,JI,hlt,decide_true,List.getElem?_eq_getElem hlt];refine ae (s9 i fs L[j] (hv _ (List.getElem_mem hlt)) hp _ (h.app _)) ?_;cases he:dg aM fs L[j]with
    | true=>
     rw[if_pos rfl];simp -dsimp -implicitDefEqProofs only[aw,V.copy,eq_self,reduceIte,reduceCtorEq,JP,JQ,JO,wj,decide_true];exact⟨hlt,Nxt.same (by simp) (an hb rfl) (by simp[aq,V.under];omega) ⟨rfl,by rw[hr,he,Bool.true_and],rfl⟩⟩
    | false=>
     rw[if_neg Bool.false_ne_true];rw[hr,he,Bool.false_and,if_neg Bool.false_ne_true];simp -dsimp -implicitDefEqProofs only[aw,V.copy,eq_self,reduceIte,reduceCtorEq,JP,JQ,JO,JH,decide_false];first|exact ac hb rfl rfl JJ ⟨rfl,rfl⟩|exact ac hb rfl rfl JK ⟨rfl,rfl⟩
   ·rw[List.drop_eq_nil_of_le (by omega)]at hr;rw[hr,List.all_nil,if_pos rfl];simp -dsimp -implicitDefEqProofs only[aw,V.copy,eq_self,reduceIte,reduceCtorEq,JP,JQ,JO,JI,hlt,decide_false];first|exact ac hb rfl rfl JJ ⟨rfl,rfl⟩|exact ac hb rfl rfl JK ⟨rfl,rfl⟩
 have n3:¬x.kind=3:=fun hh=>k36 (.inl hh);have n6:¬x.kind=6:=fun hh=>k36 (.inr hh);by_cases k5:x.kind=5
 ·have e1:dY aM fs x d bd=if dN fs x.name≠0 then dN fs x.name else if(fsz fs x.idx).isSome=true∨inB x.idx bd=true then 8 else 0:=by
   unfold dY;rw[if_neg n3,if_neg n6,if_pos k5]
  rw[e1];simp -dsimp -implicitDefEqProofs only[aw,aj,V.copy,V.lend,V.cells,V.boxable,JR,eq_self,ne_eq,reduceIte,reduceCtorEq,JP,JQ,JO,JS,aK,k5,JH,decide_true,decide_false];refine ae (oJ i fs x.name hp _ (h.app _)) ?_;by_cases h0:dN fs x.name=0
  ·rw[if_neg (by simp[h0])];cases hf:fsz fs x.idx with
   | some n=>
    rw[if_pos (.inl rfl)];simp -dsimp -implicitDefEqProofs only[aw,V.copy,JR,eq_self,reduceIte,reduceCtorEq,JP,JQ,JO,JS,h0,decide_true,h.at2,bD,hf];first|exact ac hb rfl rfl JJ ⟨rfl,rfl⟩|exact ac hb rfl rfl JK ⟨rfl,rfl⟩
   | none=>
    simp -dsimp -implicitDefEqProofs only[aw,V.copy,V.lend,JR,eq_self,reduceIte,reduceCtorEq,JP,JQ,JO,JS,h0,decide_true,h.at2,bD,hf];refine ae (ew bd x.idx _) ?_;cases hi:inB x.idx bd with
    | true=>
     rw[if_pos (.inr rfl)];simp -dsimp -implicitDefEqProofs only[aw,V.copy,cond_false,eq_self,reduceIte,JP,JQ,JO];first|exact ac hb rfl rfl JJ ⟨rfl,rfl⟩|exact ac hb rfl rfl JK ⟨rfl,rfl⟩
    | false=>
     rw[if_neg (by simp)];simp -dsimp -implicitDefEqProofs only[aw,V.copy,cond_false,eq_self,reduceIte,JP,JQ,JO];first|exact ac hb rfl rfl JJ ⟨rfl,rfl⟩|exact ac hb rfl rfl JK ⟨rfl,rfl⟩
  ·rw[if_pos h0];simp -dsimp -implicitDefEqProofs only[aw,V.copy,eq_self,reduceIte,reduceCtorEq,JP,JQ,JO,decide_eq_false h0];first|exact ac hb rfl rfl JJ ⟨rfl,rfl⟩|exact ac hb rfl rfl JK ⟨rfl,rfl⟩
 have e1:dY aM fs x d bd=dB aM fs bd x.ex:=by unfold dY;rw[if_neg n3,if_neg n6,if_neg k5]
 have hve:aX x.ex=0:=by have:=gM hsh;rw[if_neg n3,if_neg n6,if_neg k5]at this;exact this
 rw[e1];have hx:=fun σ h=>iu i fs hp x.ex bd (by omega) (jY _ (cw hve)) σ h;simp only[am,aQ]at hx;simp -dsimp -implicitDefEqProofs only[aw,aj,V.copy,V.lend,V.lend1,V.cells,V.boxable,JR,eq_self,reduceIte,reduceCtorEq,JP,JQ,JO,JS,aK,decide_eq_false n3,decide_eq_false n6,decide_eq_false k5];refine ae (hx _ (h.app _)) ?_;simp -dsimp -implicitDefEqProofs only[aw,V.copy,eq_self,reduceIte,reduceCtorEq,JP,JQ,JO];first|exact ac hb rfl rfl JJ ⟨rfl,rfl⟩|exact ac hb rfl rfl JK ⟨rfl,rfl⟩
theorem mJ(i:Nat)(fs:List (ByteArray×Int))(hp:Sz8 fs)(σ:List (List V))(hb:ay σ.length σ=true)(h:FB σ i fs):Vst (fun(_:Unit) x d bd=>(dY aM fs x d bd,())) PV (.bnd 38 [.mp i]) (fun _ τ=>τ=σ) σ.length where
 len:=fun s τ h=>by rw[h]
 bb:=fun s τ h=>by rw[h];exact hb
 und:=by have:=h.lt;simp[V.under,V.unders,this]
 val:=.inr ⟨_,_,rfl⟩
 call:=fun s τ x d bd ht hpv l=>by
  subst ht;exact(nL i fs hp x d bd hpv.1 hpv.2.1 (τ++l) (h.app l)).mono fun o σ' ⟨e1,e2⟩=>⟨τ,rfl,e2,e1⟩
theorem tY{fs:List (ByteArray×Int)}(h:SmallF fs):Sz8 fs:=fun s n hn=>by have:=h.sz _ (j6 hn);exact⟨this.1,this.2.1⟩
theorem jr(l:List It)(c:Cl)(hl:bu l≤900000)(hs:SmallF (au c))(hc:c.fields.length≤1000000)(σ:List (List V)):Fun G 12 [.d (de l),vcl c] σ (aO (.d (ah (gP aM (au c) l))) σ):=by
 refine ao Tryz.func12 k12 rfl fun hb hw=>?_;delta c12 oM oV kI kS kT kF;unfold gP;simp -dsimp -implicitDefEqProofs only[aw,aj,V.copy,V.lend,V.cells,V.boxable,eq_self,ne_eq,reduceIte,reduceCtorEq,JP,JQ,JO];refine ae (nP l hl _) ?_;by_cases h0:fp l=0
 ·rw[if_neg (by simp[h0])];simp -dsimp -implicitDefEqProofs only[aw,V.copy,V.lend,V.lend1,bc,JR,eq_self,reduceIte,reduceCtorEq,JP,JQ,JO,JS,h0,decide_true];refine ck (tU c hs hc _) ?_;rintro o σ' ⟨rfl,rfl⟩;rw[ce];simp -dsimp -implicitDefEqProofs only[aw,V.lend,V.lend1,eq_self,reduceIte,reduceCtorEq,JQ,JO]
  have hv:rvl l 0=0:=by
   unfold fp at h0;split at h0
   ·cases h0
   ·exact h0
  have hz:=tY hs
  have hbB:ay (σ++[[V.d (al c.name),V.d (al c.par),V.d (D.sl (JL dfd c.fields)),V.d c.blocks],[V.d (al c.name),V.d (al c.par),V.d (D.sl (JL dfd c.fields)),V.d c.blocks],[V.mapc true (kvF (au c))]]).length (σ++[[V.d (al c.name),V.d (al c.par),V.d (D.sl (JL dfd c.fields)),V.d c.blocks],[V.d (al c.name),V.d (al c.par),V.d (D.sl (JL dfd c.fields)),V.d c.blocks],[V.mapc true (kvF (au c))]])=true:=by
   have:∀k,V.underkv k (kvF (au c))=true:=fun k=>kM _ k;exact an hb (by simp[V.unders,V.under,this])
  have hFB:FB (σ++[[V.d (al c.name),V.d (al c.par),V.d (D.sl (JL dfd c.fields)),V.d c.blocks],[V.d (al c.name),V.d (al c.par),V.d (D.sl (JL dfd c.fields)),V.d c.blocks],[V.mapc true (kvF (au c))]]) (σ.length+1+1) (au c):=by
   unfold FB;rw[List.getElem?_append_right (by omega),show σ.length+1+1-σ.length=2 by omega];rfl
  have:=nk _ _ B9 _ l (by omega) 0 [] _ _ (mJ (σ.length+1+1) (au c) hz _ hbB hFB) (rW _ hv (by omega)) (by omega) (by simp;omega) () _ rfl;refine ck this ?_;rintro o σ' ⟨τ,rfl,rfl,rfl⟩;rw[ce,JM];have e:(wks (fun(_:Unit) x d bd=>(dY aM (au c) x d bd,())) l 0 [] ()).1=wkE (dY aM (au c)) l 0 []:=rfl;rw[e];simp -dsimp -implicitDefEqProofs only[aw,V.copy,eq_self,reduceIte,reduceCtorEq,JP,JQ,JO];first|exact ac hb rfl rfl JJ ⟨rfl,rfl⟩|exact ac hb rfl rfl JK ⟨rfl,rfl⟩
 ·rw[if_pos h0];simp -dsimp -implicitDefEqProofs only[aw,V.copy,bc,eq_self,reduceIte,reduceCtorEq,JP,JQ,JO,decide_eq_false h0];first|exact ac hb rfl rfl JJ ⟨rfl,rfl⟩|exact ac hb rfl rfl JK ⟨rfl,rfl⟩
end Go.Proofs.YthoebpnbhgmoiaaGreatDoor
