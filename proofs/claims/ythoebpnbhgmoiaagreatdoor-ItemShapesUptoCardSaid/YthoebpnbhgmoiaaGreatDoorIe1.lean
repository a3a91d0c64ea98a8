import Derived.Test.YthoebpnbhgmoiaaGreatDoorIw4
import Derived.Test.YthoebpnbhgmoiaaGreatDoorAddF
set_option linter.unusedVariables false
set_option linter.unusedSimpArgs false
set_option linter.unusedSectionVars false
open Int renaming ofNat_lt→JH
open List renaming map→JI,length_append→JJ,getElem?_eq_getElem→JK,take_length→JL,length_set→JM,foldl_cons→JO,take_left→JP,getElem?_append_left→JQ,take_of_length_le→JR,length_cons→JS
open Nat renaming reduceEqDiff→JT,reduceBEq→JU,reduceLT→JV,reduceLeDiff→JW,reduceAdd→JX,le_refl→JY
namespace Go.Proofs.YthoebpnbhgmoiaaGreatDoor
open Go.RowKit
mutual
def rn:It→List ByteArray
 | .mk k e nm ix ws l m bf af=>cy (.mk k e nm ix ws l m bf af) []++rns l++rns m
def rns:List It→List ByteArray
 | []=>[]
 | x::r=>rn x++rns r
end
theorem uc(x:It):rn x=cy x []++rns x.items++rns x.els:=by cases x;rw[rn];rfl
theorem qu{l:List It}{x:It}(hx:x∈l):∀s,s∈rn x→s∈rns l:=by
 induction l with
 | nil=>cases hx
 | cons a r ih=>
  intro s hs;rw[rns,List.mem_append];rcases List.mem_cons.1 hx with rfl|hx
  ·exact .inl hs
  ·exact .inr (ih hx s hs)
theorem y6(x:It):(cy x []).length≤1+aA x.ex+x.bef.length+x.aft.length:=by
 unfold cy;split
 ·have h1:=fS [] (bj x.ex);have h2:=dW x.ex;omega
 ·split
  ·simp;omega
  ·split
   ·rw[JJ];omega
   ·simp
theorem AK:∀l:List It,(rns l).length≤bu l:=by
 refine cL (JY _) fun x r h1 h2 h3=>?_;have:=y6 x;rw[rns,bu,bI,uc,JJ,JJ,JJ];omega
theorem BP(x:It)(bd:List ByteArray):∀s,s∈cy x bd→s∈cy x []:=by
 intro s hs;unfold cy at hs ⊢;split at hs
 ·rename_i h;rw[if_pos h];obtain⟨e,he,hm⟩:=List.mem_flatMap.1 hs;refine List.mem_flatMap.2 ⟨e,he,?_⟩;unfold aV at hm ⊢;split at hm
  ·rename_i hc;rw[if_pos]
   ·exact hm
   ·rcases hc with hc|hc|hc
    ·exact .inl hc
    ·exact .inr (.inl hc)
    ·exact .inr (.inr ⟨hc.1,rfl⟩)
  ·cases hm
 ·rename_i h;rw[if_neg h];exact hs
theorem A3{s:ByteArray}{l:List ByteArray}:inB s l=true↔s∈l:=by
 unfold inB;simp
theorem sZ:∀(m out:List ByteArray),out.Nodup→(m.foldl dl out).Nodup:=by
 intro m
 induction m with
 | nil=>exact fun out h=>h
 | cons a r ih=>
  intro out h;rw[JO];refine ih _ ?_;unfold dl;split
  ·exact h
  ·rename_i hn;rw[List.nodup_append];refine⟨h,by simp,fun x hx y hy e=>?_⟩;simp at hy;subst hy;subst e;exact hn (A3.2 hx)
theorem yj:∀(m out:List ByteArray) (s:ByteArray),s∈m.foldl dl out→s∈out∨s∈m:=by
 intro m
 induction m with
 | nil=>exact fun out s h=>.inl h
 | cons a r ih=>
  intro out s h;rw[JO]at h;rcases ih _ s h with h|h
  ·unfold dl at h;split at h
   ·exact .inl h
   ·rcases List.mem_append.1 h with h|h
    ·exact .inl h
    ·simp at h;exact .inr (by simp[h])
  ·exact .inr (by simp[h])
theorem yG:∀(m out:List ByteArray),(m.foldl dl out).length≤out.length+m.length:=by
 intro m
 induction m with
 | nil=>exact fun out=>JY _
 | cons a r ih=>
  intro out;rw[JO];have:=ih (dl out a);have h2:(dl out a).length≤out.length+1:=by unfold dl;split<;>simp
  rw[JS];omega
abbrev iv(out:List ByteArray):V:=.own 9 1 (out.map fun s=>[al s])
theorem si{σ l:List (List V)}{cell:V}(hc:∀k,V.under k cell=true)(out:List ByteArray)(hb:ay (σ++[[cell]]++l).length (σ++[[cell]]++l)=true):ay (σ++[[iv out]]++l).length (σ++[[iv out]]++l)=true:=by
 unfold ay at hb ⊢;simp only[List.all_append,List.all_cons,List.all_nil,JJ,JS,List.length_nil,V.unders,hc,Bool.and_true]at hb ⊢;simpa[V.under]using hb
set_option maxHeartbeats 4000000 in
theorem sS(x:It)(d:Nat)(bd:List ByteArray)(hbig:eO x≤1000000)(out:List ByteArray)(ho:out.length≤1000000)(σ l:List (List V))(cell:V)(hc:cell=iv out∨cell=.nil∧out=[]):
 Fun G 58 [vit x,mu d bd,.ptr σ.length 0] (σ++[[cell]]++l) (fun o σ'=>σ'=σ++[[iv ((cy x bd).foldl dl out)]]++l∧o=.ret (.d (ah 0))):=by
 have hb0:=bI x;refine ao Tryz.func58 k58 (by simp only[aK];rfl) fun hb hw=>?_;delta c58 oM oV kI kS kT kF;have hmn:=fun σ=>jm x d bd hbig σ
 have hlen:(cy x bd).length≤1000000:=by
  have h1:(cy x bd).length≤1+aA x.ex+x.bef.length+x.aft.length:=by
   unfold cy;split
   ·have h1:=fS bd (bj x.ex);have h2:=dW x.ex;omega
   ·split
    ·simp;omega
    ·split
     ·rw[JJ];omega
     ·simp
  omega
 have hcu:∀k,V.under k cell=true:=fun k=>by rcases hc with rfl|⟨rfl,-⟩<;>rfl
 have hbA:=fun out=>si hcu out hb;have hll:∀out,(σ++[[cell]]++l).length=(σ++[[iv out]]++l).length:=fun out=>by simp
 simp only[aK,mu,aQ]at hmn;simp -dsimp -implicitDefEqProofs only[aw,aj,V.copy,V.lend,V.lend1,V.cells,V.boxable,JW,eq_self,reduceIte,reduceCtorEq,JU,JV,JT,JX,aK];refine ae (hmn _) ?_;generalize cy x bd=L at hlen ⊢;simp -dsimp -implicitDefEqProofs only[aw,V.copy,eq_self,reduceIte,JU,JV,JT]
 have hbr:∀o:List ByteArray,ay (σ++[iv o]::(l++[[V.d (ah x.kind),V.d (ah x.ex.op),V.d (ah x.ex.num),V.d (al x.ex.name),V.d (D.sl (JI dex x.ex.args)),V.d (al x.name),V.d (al x.idx),V.d (D.sl (JI dwt x.ws)),V.d (D.sl (JI dit x.items)),V.d (D.sl (JI dit x.els)),V.d (D.sl (JI (fun s=>[al s]) x.bef)),V.d (D.sl (JI (fun s=>[al s]) x.aft))],[V.d (ah d),V.d (D.sl (JI (fun s=>[al s]) bd))]])).length (σ++[iv o]::(l++[[V.d (ah x.kind),V.d (ah x.ex.op),V.d (ah x.ex.num),V.d (al x.ex.name),V.d (D.sl (JI dex x.ex.args)),V.d (al x.name),V.d (al x.idx),V.d (D.sl (JI dwt x.ws)),V.d (D.sl (JI dit x.items)),V.d (D.sl (JI dit x.els)),V.d (D.sl (JI (fun s=>[al s]) x.bef)),V.d (D.sl (JI (fun s=>[al s]) x.aft))],[V.d (ah d),V.d (D.sl (JI (fun s=>[al s]) bd))]]))=true:=fun o=>by
  have:=an (l:=[[V.d (ah x.kind),V.d (ah x.ex.op),V.d (ah x.ex.num),V.d (al x.ex.name),V.d (D.sl (JI dex x.ex.args)),V.d (al x.name),V.d (al x.idx),V.d (D.sl (JI dwt x.ws)),V.d (D.sl (JI dit x.items)),V.d (D.sl (JI dit x.els)),V.d (D.sl (JI (fun s=>[al s]) x.bef)),V.d (D.sl (JI (fun s=>[al s]) x.aft))],[V.d (ah d),V.d (D.sl (JI (fun s=>[al s]) bd))]]) (hbA o) rfl;simpa only[List.append_assoc,List.cons_append,List.nil_append]using this
 have htk:∀(o:List ByteArray) (m:List (List V)),(σ++[iv o]::(l++m)).take (σ.length+(l.length+1))=σ++[[iv o]]++l:=fun o m=>by
  have:σ++[iv o]::(l++m)=(σ++[[iv o]]++l)++m:=by simp
  rw[this];exact List.take_left' (by simp)
 generalize hm:[[V.d (ah x.kind),V.d (ah x.ex.op),V.d (ah x.ex.num),V.d (al x.ex.name),V.d (D.sl (JI dex x.ex.args)),V.d (al x.name),V.d (al x.idx),V.d (D.sl (JI dwt x.ws)),V.d (D.sl (JI dit x.items)),V.d (D.sl (JI dit x.els)),V.d (D.sl (JI (fun s=>[al s]) x.bef)),V.d (D.sl (JI (fun s=>[al s]) x.aft))],[V.d (ah d),V.d (D.sl (JI (fun s=>[al s]) bd))]]=m at hbr ⊢
 have hu:Up (σ++[cell]::(l++m)) (σ++[iv out]::(l++m)):=by
  rcases hc with rfl|⟨rfl,rfl⟩
  ·exact .refl _
  ·have e:(σ++[V.nil]::(l++m)).set σ.length ([V.nil].set 0 (iv []))=σ++[iv []]::(l++m):=by simp
   exact .step (i:=σ.length) (off:=0) (cs:=[.nil]) 9 1 (by simp) rfl (e ▸ .refl _)
 refine jL (R:=fun(j:Nat) ρ σ'=>ρ=[(2,.ptr σ.length 0),(10,.d (.sl (L.map fun s=>[al s]))),(11,aL .i64 L.length),(12,aL .i64 j)]∧σ'=σ++[iv ((L.take j).foldl dl out)]::(l++m)) L.length hu ⟨rfl,rfl⟩ ?_ _;rintro j ρ' σ' hj ⟨rfl,rfl⟩;by_cases hlt:j<L.length
 ·have ht:(L.take (j+1)).foldl dl out=dl ((L.take j).foldl dl out) L[j]:=by rw[List.take_add_one,JK hlt,List.foldl_append];rfl
  have hle:=yG (L.take j) out;rw[List.length_take]at hle;have wj:=aH hlt (show L.length≤9223372036854775807 by omega);generalize (L.take j).foldl dl out=O at ht hle ⊢;have hn:σ.length+(l.length+1)≤(σ++[iv O]::(l++m)).length:=by simp
  simp -dsimp -implicitDefEqProofs only[aw,V.copy,V.lend,JW,eq_self,reduceIte,JU,JV,JT,JH,hlt,decide_true,JK hlt];refine ae (ew O L[j] _) ?_;cases hi:inB L[j] O with
  | true=>
   have ha:dl O L[j]=O:=by unfold dl;rw[if_pos hi]
   rw[ha]at ht;simp -dsimp -implicitDefEqProofs only[aw,V.copy,eq_self,reduceIte,JU,JV,JT,wj];exact⟨hlt,Nxt.same hn (hbr O) (by simp[aq,V.under]) ⟨rfl,by rw[ht]⟩⟩
  | false=>
   have ha:dl O L[j]=O++[L[j]]:=by unfold dl;rw[if_neg (by simp[hi])]
   rw[ha]at ht;simp -dsimp -implicitDefEqProofs only[aw,V.copy,V.cells,aC,aF,V.plain,eq_self,reduceIte,JU,JV,JT];refine bt (by first|omega|(simp only[List.length_map];omega)) ?_;simp -dsimp -implicitDefEqProofs only[aw,V.copy,over,eq_self,reduceIte,JU,JV,JT,wj];have e:(O.map fun s=>[al s])++[[al L[j]]]=(O++[L[j]]).map fun s=>[al s]:=by simp
   rw[e];exact⟨hlt,Nxt.same (by simp) (hbr (O++[L[j]])) (by simp[aq,V.under]) ⟨rfl,by rw[ht]⟩⟩
 ·simp -dsimp -implicitDefEqProofs only[aw,V.copy,eq_self,reduceIte,JU,JV,JT,JH,hlt,decide_false];rw[JR (by omega)];refine fr (v:=.d (ah 0)) (k:=σ.length+(l.length+1)) (by simp) (htk _ m) ?_ rfl rfl ⟨by simp,rfl⟩;have:=hbA (L.foldl dl out);simpa using this
def PN(L0:List ByteArray)(x:It)(_:Nat)(_:List ByteArray):Prop:=eO x≤1000000∧∀s,s∈rn x→s∈L0
theorem BC(L0:List ByteArray):BU (PN L0):=by
 intro x d bd ⟨h1,h2⟩;have hb:=bI x;exact⟨fun y hy=>⟨by have:=cm hy;omega,fun s hs=>h2 s (by rw[uc];simp[qu hy s hs])⟩,fun y hy=>⟨by have:=cm hy;omega,fun s hs=>h2 s (by rw[uc];simp[qu hy s hs])⟩⟩
def JN(L0:List ByteArray)(σ:List (List V))(out:List ByteArray)(τ:List (List V)):Prop:=(∃cell,(cell=iv out∨cell=.nil∧out=[])∧τ=σ++[[cell]])∧out.Nodup∧∀s,s∈out→s∈L0
theorem wV(L0:List ByteArray)(hL:L0.length≤1000000)(σ:List (List V))(hb:ay σ.length σ=true):Vst mN (PN L0) (.fn 58 [.ptr σ.length 0]) (JN L0 σ) (σ.length+1) where
 len:=fun s τ ⟨⟨cell,_,e⟩,_⟩=>by rw[e];simp
 bb:=fun s τ ⟨⟨cell,hc,e⟩,_⟩=>by
  subst e;have hcu:V.under (σ.length+1) cell=true:=by rcases hc with rfl|⟨rfl,-⟩<;>rfl
  have:=an (l:=[[cell]]) hb (by simpa[V.unders]using hcu);simpa using this
 und:=by simp[V.under,V.unders]
 val:=.inl ⟨_,_,rfl⟩
 call:=fun s τ x d bd ⟨⟨cell,hc,e⟩,hnd,hsub⟩ hp l=>by
  subst e;have hlen:=jM hnd hsub;refine(sS x d bd hp.1 s (by omega) σ l cell hc).mono fun o σ' ⟨e1,e2⟩=>⟨_,⟨⟨_,.inl rfl,rfl⟩,sZ _ _ hnd,fun t ht=>?_⟩,e1,e2⟩
  rcases yj _ _ t ht with h|h
  ·exact hsub t h
  ·exact hp.2 t (by rw[uc];simp[BP x bd t h])
theorem so(l:List It)(hl:bu l≤900000)(σ:List (List V)):Fun G 29 [.d (de l)] σ (aO (.d (aQ (jo l))) σ):=by
 refine ao Tryz.func29 k29 rfl fun hb hw=>?_;delta c29 oM oV kI kS kT kF;unfold jo;have hr:=AK l;simp -dsimp -implicitDefEqProofs only[aw,aj,V.copy,V.lend,V.lend1,bc,eq_self,reduceIte,reduceCtorEq,JU,JV,JT];have:=nk _ _ (BC (rns l)) _ l (by omega) 0 [] _ _ (wV (rns l) (by omega) σ hb) (fun x hx=>⟨by have:=cm hx;omega,fun s hs=>qu hx s hs⟩) (by omega) (by simp;omega) [] (σ++[[.nil]]) ⟨⟨.nil,.inr ⟨rfl,rfl⟩,rfl⟩,List.nodup_nil,fun s hs=>by cases hs⟩;refine ck this ?_;rintro o σ' ⟨τ,⟨⟨cell,hc,rfl⟩,-,-⟩,rfl,rfl⟩;rw[th]at hc ⊢;rw[ce,List.append_nil];generalize (ff l []).foldl dl []=O at hc ⊢;rcases hc with rfl|⟨rfl,rfl⟩
 ·simp -dsimp -implicitDefEqProofs only[aw,V.copy,JW,eq_self,reduceIte,reduceCtorEq,JU,JV,JT];first|exact ac hb rfl rfl JL ⟨rfl,rfl⟩|exact ac hb rfl rfl JP ⟨rfl,rfl⟩
 ·simp -dsimp -implicitDefEqProofs only[aw,V.copy,JW,eq_self,reduceIte,reduceCtorEq,JU,JV,JT];first|exact ac hb rfl rfl JL ⟨rfl,rfl⟩|exact ac hb rfl rfl JP ⟨rfl,rfl⟩
abbrev cN(m:Nat)(s:List It×Bool):List V:=[.mp m,.own 51 12 (s.1.map dit),az s.2]
def CV(σ:List (List V))(q:Option Ex)(cv:V):Prop:=match q with
 | none=>cv=.d (.lit (.pointer none))
 | some c=>∃j,cv=.ptr j 0∧QB σ j c
theorem QB.lt{σ:List (List V)}{j:Nat}{c:Ex}(h:QB σ j c):j<σ.length:=(List.getElem?_eq_some_iff.1 h).1
theorem t9{σ:List (List V)}{i j:Nat}{cs u v:List V}(L:List (List V))(hi:σ[i]? = some u)(hj:σ[j]? = some v)(hne:u≠v):(σ.set i cs++L)[j]? = some v:=by
 have h1:j<σ.length:=(List.getElem?_eq_some_iff.1 hj).1;have h2:i≠j:=fun e=>by subst e;rw[hi]at hj;cases hj;exact hne rfl
 rw[JQ (by simpa using h1),List.getElem?_set_ne h2];exact hj
theorem CV.upd{σ:List (List V)}{q:Option Ex}{cv:V}(h:CV σ q cv){i m:Nat}{r cs:List V}(hx:σ[i]? = some (.mp m::r))(L:List (List V)):CV (σ.set i cs++L) q cv:=by
 cases q with
 | none=>exact h
 | some c=>
  obtain⟨j,e,hj⟩:=h;exact⟨j,e,t9 L hx hj (fun e=>by cases e)⟩
theorem FB.upd{σ:List (List V)}{m0:Nat}{fs:List (ByteArray×Int)}(h:FB σ m0 fs){i m:Nat}{r cs:List V}(hx:σ[i]? = some (.mp m::r))(L:List (List V)):FB (σ.set i cs++L) m0 fs:=
 t9 L hx h (fun e=>by cases e)
theorem CV.app{σ:List (List V)}{q:Option Ex}{cv:V}(h:CV σ q cv)(L:List (List V)):CV (σ++L) q cv:=by
 cases q with
 | none=>exact h
 | some c=>obtain⟨j,e,hj⟩:=h;exact⟨j,e,hj.app L⟩
theorem CV.val{σ:List (List V)}{q:Option Ex}{cv:V}(h:CV σ q cv):cv=.d (.lit (.pointer none))∨∃j,cv=.ptr j 0∧j<σ.length:=by
 cases q with
 | none=>exact .inl h
 | some c=>obtain⟨j,e,hj⟩:=h;exact .inr ⟨j,e,hj.lt⟩
theorem su{σ:List (List V)}{k i:Nat}{cs:List V}(h:ay k σ=true)(hc:V.unders k cs=true):ay k (σ.set i cs)=true:=by
 unfold ay at h ⊢;rw[List.all_eq_true]at h ⊢;intro x hx;rcases List.mem_or_eq_of_mem_set hx with hx|rfl
 ·exact h x hx
 ·exact hc
theorem rK{σ:List (List V)}{i:Nat}{cs:List V}(h:σ[i]? = some cs):σ.set i cs=σ:=by
 obtain⟨h1,h2⟩:=List.getElem?_eq_some_iff.1 h;rw[←h2,List.set_getElem_self]
set_option maxHeartbeats 4000000 in
theorem o7(l:List It)(hl:l.length≤1000000)(e:It→List It)(q:Option Ex)(cv:V)(i m:Nat)(fs:List (ByteArray×Int))(s:List It×Bool)(σ:List (List V))(hs:Sok s)(hf:FB σ m fs)
 (hx:σ[i]? = some (cN m s)∨s=([],false)∧σ[i]? = some [.mp m,.nil,az false])(hc:CV σ q cv)
 (hone:∀x,x∈l→∀τ s,Sok s→FB τ m fs→τ[i]? = some (cN m s)→CV τ q cv→Fun G 73 [.ptr i 0,vit x,cv] τ (fun o σ'=>o=.ret (.tup [])∧σ'=τ.set i (cN m (push s (e x))))):
 Fun G 40 [.ptr i 0,.d (de l),cv] σ (fun o σ'=>o=.ret (.tup [])∧σ'=σ.set i (cN m (push s (l.flatMap e)))):=by
 have hcv:=hc.val;refine ao Tryz.func40 k40 (by rcases hcv with rfl|⟨j,rfl,_⟩<;>rfl) fun hb hw=>?_;have hlm:cv.lend=cv:=by rcases hcv with rfl|⟨j,rfl,_⟩<;>rfl
 have hcm:cv.copy=cv:=by rcases hcv with rfl|⟨j,rfl,_⟩<;>rfl
 have hun:V.under σ.length cv=true:=by
  rcases hcv with rfl|⟨j,rfl,h⟩
  ·rfl
  ·simp[V.under,h]
 unfold V.lend at hlm;unfold V.copy at hcm;have hm:=hf.lt;have hi:i<σ.length:=by rcases hx with h|⟨-,h⟩<;>exact(List.getElem?_eq_some_iff.1 h).1
 have hhd:∃r,σ[i]? = some (.mp m::r):=by rcases hx with h|⟨-,h⟩<;>exact⟨_,h⟩
 obtain⟨r0,hr0⟩:=hhd;delta c40 oM oV kI kS kT kF;simp -dsimp -implicitDefEqProofs only[aw,aj,V.copy,eq_self,reduceIte,reduceCtorEq,JU,JV,JT,JX]
 have hu:Up σ (σ.set i (cN m (push s []))):=by
  rw[qP s hs];rcases hx with h|⟨rfl,h⟩
  ·rw[rK h];exact .refl _
  ·exact .step (i:=i) (off:=1) (cs:=[.mp m,.nil,az false]) 51 12 h rfl (.refl _)
 refine jL (R:=fun(j:Nat) ρ σ'=>ρ=[(0,.ptr i 0),(2,cv),(8,.d (de l)),(9,aL .i64 l.length),(10,aL .i64 j)]∧σ'=σ.set i (cN m (push s ((l.take j).flatMap e)))) l.length hu ⟨rfl,rfl⟩ ?_ _;rintro j ρ' σ' hj ⟨rfl,rfl⟩;by_cases hlt:j<l.length
 ·have ht:push s ((l.take (j+1)).flatMap e)=push (push s ((l.take j).flatMap e)) (e l[j]):=by
   rw[oF e l hlt,iV]
  have hrest:push s (l.flatMap e)=push (push s ((l.take j).flatMap e)) ((l.drop j).flatMap e):=by
   rw[iV,←List.flatMap_append,List.take_append_drop]
  have hok:=pI s hs ((l.take j).flatMap e);generalize push s ((l.take j).flatMap e)=sj at ht hrest hok ⊢;have hxx:l[j]? = some l[j]:=JK hlt;have hone:=hone l[j] (List.getElem_mem hlt);generalize l[j]=x at hxx hone ht;have hbx:∀L,(σ.set i (cN m sj)++L)[i]? = some (cN m sj):=fun L=>by rw[JQ (by simpa using hi),List.getElem?_set_self hi]
  have hbb:∀s,ay (σ.set i (cN m s)).length (σ.set i (cN m s))=true:=fun s=>by
   rw[JM];exact su hb (by simp[V.unders,V.under,hm])
  have wj:=aH hlt (show l.length≤9223372036854775807 by omega);cases hfl:sj.2 with
  | true=>
   have hp:=xg sj hok hfl ((l.drop j).flatMap e);rw[hp]at hrest;simp -dsimp -implicitDefEqProofs only[aw,V.copy,V.cells,V.boxable,over,JW,eq_self,reduceIte,reduceCtorEq,JU,JV,JT,JX,JH,hlt,decide_true,hxx,cr x,hbx,hfl];exact fr (n0:=σ.length) (Q:=fun o σ'=>o=Out.ret (V.tup [])∧σ'=σ.set i (cN m (push s (l.flatMap e)))) (v:=.tup []) (k:=(σ.set i (cN m sj)).length) (τ:=σ.set i (cN m sj)) (by simp) JP (hbb sj) rfl rfl ⟨rfl,by rw[hrest]⟩
  | false=>
   have hone:=fun L=>hone (σ.set i (cN m sj)++L) sj hok (hf.upd hr0 L) (hbx L) (hc.upd hr0 L);simp only[aK]at hone;simp -dsimp -implicitDefEqProofs only[aw,V.copy,V.lend,V.lend1,V.cells,V.boxable,over,JW,eq_self,reduceIte,reduceCtorEq,JU,JV,JT,JX,JH,hlt,decide_true,hxx,cr x,hbx,hfl,hcm,hlm];refine ck (hone _) ?_;rintro o σ' ⟨rfl,rfl⟩;rw[ce,List.set_append_left _ _ (by simpa using hi),List.set_set,←ht];simp -dsimp -implicitDefEqProofs only[aw,V.copy,eq_self,reduceIte,reduceCtorEq,JU,JV,JT,wj];exact⟨hlt,Nxt.drop (by simp) (hbb _) (by rw[JM];simp[aq,V.under,hi,hun]) ⟨rfl,rfl⟩⟩
 ·simp -dsimp -implicitDefEqProofs only[aw,eq_self,reduceIte,reduceCtorEq,JU,JV,JT,JH,hlt,decide_false];rw[JR (by omega)];exact fr (n0:=σ.length) (Q:=fun o σ'=>o=Out.ret (V.tup [])∧σ'=σ.set i (cN m (push s (l.flatMap e)))) (v:=.tup []) (k:=(σ.set i (cN m (push s (l.flatMap e)))).length) (τ:=σ.set i (cN m (push s (l.flatMap e)))) (by simp) (JL ..) (by rw[JM];exact su hb (by simp[V.unders,V.under,hm])) rfl rfl ⟨rfl,rfl⟩
end Go.Proofs.YthoebpnbhgmoiaaGreatDoor
