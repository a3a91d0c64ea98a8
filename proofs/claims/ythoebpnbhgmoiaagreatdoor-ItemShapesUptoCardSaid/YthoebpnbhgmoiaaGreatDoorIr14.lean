import Derived.Test.YthoebpnbhgmoiaaGreatDoorIl1
import Derived.Test.YthoebpnbhgmoiaaGreatDoorEval8
import Derived.Test.YthoebpnbhgmoiaaGreatDoorIr3
import Derived.Test.YthoebpnbhgmoiaaGreatDoorIr8
import Derived.Test.YthoebpnbhgmoiaaGreatDoorIw1
import Derived.Test.YthoebpnbhgmoiaaGreatDoorIe3
import Derived.Test.YthoebpnbhgmoiaaGreatDoorIs2
import Derived.Test.YthoebpnbhgmoiaaGreatDoorClo
import Derived.Test.YthoebpnbhgmoiaaGreatDoorIr10
set_option linter.unusedVariables false
set_option linter.unusedSimpArgs false
set_option linter.unusedSectionVars false
open List renaming getElem?_eq_getElem→JH,length_map→JI,getD_eq_getElem?_getD→JJ,take_of_length_le→JK,length_cons→JL,getElem?_eq_none→JM,length_append→JO,take_add_one→JP,length_range→JQ,length_take→JR,cons_append→JS,range→JT
open Nat renaming reduceEqDiff→JU,reduceBEq→JV,reduceLT→JW,reduceLeDiff→JX,reduceAdd→JY,le_refl→JZ
namespace Go.Proofs.YthoebpnbhgmoiaaGreatDoor
open Go.RowKit
theorem zb{t:ByteArray}(h:t.size=2):t.data.toList=[t[0]'(by omega),t[1]'(by omega)]:=by
 have hl:t.data.toList.length=2:=by rw[←Lib.size_eq];exact h
 have h0:=dD t 0 (by omega);have h1:=dD t 1 (by omega)
 match hq:t.data.toList,hl with
 | [a,b],_=>
  rw[hq]at h0 h1;simp only[List.getElem?_cons_zero,List.getElem?_cons_succ,Option.some.injEq]at h0 h1;rw[←h0,←h1]
theorem Aq(s a:ByteArray)(k:Int)(h:aM s=some (a,k)):0≤k∧s=aB a k.toNat:=by
 have he:dm s=true:=by
  cases hb:dm s with
  | true=>rfl
  | false=>rw[oN hb]at h;cases h
 obtain⟨hl,hs⟩:=pd he;rw[hs]at h;simp only[Option.some.injEq,Prod.mk.injEq]at h;obtain⟨rfl,rfl⟩:=h;unfold dm at he;simp only[Bool.and_eq_true]at he;obtain⟨⟨h1,h2⟩,h3⟩:=he;have hi:0≤Lib.indexByte s.data.toList 91:=of_decide_eq_true h1;obtain⟨o,ho⟩:=Int.eq_ofNat_of_zero_le hi;have hne:¬Lib.indexByte s.data.toList 91 = -1:=by omega
 have hA:(fo s 91).data.toList=s.data.toList.take o:=by
  unfold fo;rw[if_neg hne,ho,Lib.extract_eq];simp
 have hB:(dx s 91).data.toList=s.data.toList.drop (o+1):=by
  unfold dx;rw[if_neg hne,ho,Lib.extract_eq];have hz:(s.data.toList.drop (o+1)).length≤s.size-(o+1):=by rw[List.length_drop,←Lib.size_eq];exact JZ _
  first
   | (show List.take (s.size-(o+1)) (s.data.toList.drop (o+1))=_;exact JK hz)
   | (show List.drop (o+1) (s.data.toList.take s.size)=_;rw[JK (by rw[←Lib.size_eq];exact JZ _)])
 have hat:s.data.toList[o]? = some 91:=(Lib.indexByte_some ho).1
 have hz:(dx s 91).size=2:=by
  refine Decidable.byContradiction fun hn=>?_;rw[jb hn]at h3;cases h3
 rw[gA hz]at h3;simp only[Bool.and_eq_true,decide_eq_true_eq]at h3;have ht:=zb hz;generalize (dx s 91)[0]'(by omega)=x at *;generalize (dx s 91)[1]'(by omega)=y at *;obtain⟨⟨g1,g2⟩,g3⟩:=h3
 have hy:y=93:=by
  have:y.toNat=(93:UInt8).toNat:=g1;exact UInt8.toNat_inj.1 this
 refine⟨by omega,?_⟩;have hol:=(List.getElem?_eq_some_iff.1 hat).1
 have hsplit:s.data.toList=s.data.toList.take o++91::s.data.toList.drop (o+1):=by
  conv=>lhs;rw[←List.take_append_drop o s.data.toList,List.drop_eq_getElem_cons hol]
  rw[(List.getElem?_eq_some_iff.1 hat).2]
 have hx:(48+((x.toNat:Int)-48).toNat).toUInt8=x:=by
  have e:48+((x.toNat:Int)-48).toNat=x.toNat:=by omega
  rw[e];apply UInt8.toNat_inj.1;have:=x.toNat_lt;show x.toNat%256=x.toNat;omega
 apply ByteArray.ext;apply Array.ext';unfold aB;rw[hx,hA];rw[←hB,ht,hy]at hsplit;exact hsplit
theorem xY(u:List Int)(l:List ByteArray):∀i,(fj l u i).length=l.length:=by
 induction l with
 | nil=>intro i;rfl
 | cons a r ih=>intro i;rw[fj,JL,JL,ih]
theorem Ac(u:List Int)(s:ByteArray)(l:List ByteArray):∀i,fj (l++[s]) u i=fj l u i++[⟨s,u.getD (i+l.length) 0⟩]:=by
 induction l with
 | nil=>intro i;simp[fj]
 | cons a r ih=>
  intro i;rw[JS,fj,ih,fj,JS,JL];rw[show i+1+r.length=i+(r.length+1)by omega]
def dK(f:ByteArray×Int):List ByteArray:=if 0<f.2 then(JT f.2.toNat).map (aB f.1)else[f.1]
theorem kq(fs:List (ByteArray×Int)):eq fs=fs.flatMap dK:=rfl
theorem tm(c:Cl){j:Nat}(h:j<c.fields.length):eq ((au c).take (j+1))=eq ((au c).take j)++dK (c.fields[j].name,c.fields[j].size):=by
 have h':j<(au c).length:=by unfold au;simpa using h
 have he:(au c)[j]=(c.fields[j].name,c.fields[j].size):=by simp[au]
 rw[kq,kq,JP,JH h',he,List.flatMap_append];simp
theorem yd{f:ByteArray×Int}(h:f.2≤8):(dK f).length≤8:=by
 unfold dK;split
 ·rw[JI,JQ];omega
 ·simp
theorem Ap(fs:List (ByteArray×Int))(h:∀f,f∈fs→f.2≤8):(eq fs).length≤fs.length*8:=by
 induction fs with
 | nil=>simp[eq]
 | cons a r ih=>
  rw[kq,List.flatMap_cons,JO,←kq,JL];have:=ih fun f hf=>h f (List.mem_cons_of_mem _ hf);have:=yd (h a (List.mem_cons_self ..));omega
abbrev osg(l:List Sig):V:=.own 96 2 (l.map fun s=>[al s.name,ah s.val])
abbrev Bd(u:List Int):D:=.sl (u.map fun n=>[ah n])
set_option maxHeartbeats 4000000 in
theorem A6(c:Cl)(u:List Int)(hs:SmallF (au c))(hc:c.fields.length≤20)(hu:u.length≤1048576)(σ:List (List V)):Fun G 22 [vcl c,.d (Bd u)] σ (aO (.d (ey (fj (eq (au c)) u 0))) σ):=by
 refine ao Tryz.func22 k22 rfl fun hb hw=>?_;delta c22 oM oV kI kS kT kF;have hfl:(au c).length=c.fields.length:=by unfold au;rw[JI]
 simp -dsimp -implicitDefEqProofs only[aw,aj,V.copy,V.cells,V.boxable,eq_self,reduceIte,reduceCtorEq,JV,JW,JU];refine bC (R:=fun(j:Nat) ρ σ'=>ρ=[(1,.d (Bd u)),(2,.ptr σ.length 0),(5,osg (fj (eq ((au c).take j)) u 0)),(6,aL .i64 j)]∧σ'=σ++[em c]) c.fields.length ⟨by simp[eq,fj],rfl⟩ ?_ _;rintro j ρ' σ' hj ⟨rfl,rfl⟩;by_cases hlt:j<c.fields.length
 case neg=>
  simp -dsimp -implicitDefEqProofs only[aw,V.copy,JX,eq_self,reduceIte,JV,JW,JU,JY,Int.ofNat_lt,hlt,decide_false];rw[JK (by omega)];exact ac (v:=.d (ey (fj (eq (au c)) u 0))) hb (by simp[EY,cG,cS,ey,aw,V.lend,eq_self,reduceIte]) rfl List.take_left ⟨rfl,rfl⟩
 have hxx:c.fields[j]? = some c.fields[j]:=JH hlt;have hvt:=tm c hlt;have hsf:(c.fields[j].name,c.fields[j].size)∈au c:=List.mem_map.2 ⟨_,List.getElem_mem hlt,rfl⟩;have hPl:=Ap ((au c).take j) (fun f hf=>(hs.sz f (List.mem_of_mem_take hf)).2.1);rw[JR]at hPl;have wj:=aH hlt (show c.fields.length≤9223372036854775807 by omega);generalize c.fields[j]=f at hxx hvt hsf;obtain⟨hf0,hf8,hfn⟩:=hs.sz _ hsf;have hf0:0≤f.size:=hf0;have hf8:f.size≤8:=hf8;have hfs:f.name.size≤1000:=by have:=dC hfn;show f.name.size≤1000;have h2:f.name.size≤16:=this;omega
 generalize eq ((au c).take j)=P at hvt hPl ⊢;have hd:dfd f=[al f.name,ah f.width,ah f.size,ah f.mode,ah f.init]:=rfl;have e1:∀a:List V,σ++[em c,a]=(σ++[em c])++[a]:=fun a=>by simp
 simp -dsimp -implicitDefEqProofs only[aw,V.copy,V.cells,V.boxable,over,JX,eq_self,reduceIte,JV,JW,JU,JY,Int.ofNat_lt,hlt,decide_true,hxx,hd]
 have hEl:(dK (f.name,f.size)).length=if 0<f.size then f.size.toNat else 1:=by
  unfold dK;show(if 0<f.size then _ else _:List ByteArray).length=_;split
  ·rw[JI,JQ]
  ·rfl
 refine bC (R:=fun(i:Nat) ρ σ'=>ρ=[(1,.d (Bd u)),(2,.ptr σ.length 0),(5,osg (fj (P++(dK (f.name,f.size)).take i) u 0)),(6,aL .i64 j),(7,.ptr (σ.length+1) 0),(8,aL .i64 i)]∧σ'=σ++[em c,[.d (al f.name),.d (ah f.width),.d (ah f.size),.d (ah f.mode),.d (ah f.init)]]) (dK (f.name,f.size)).length ⟨by simp,rfl⟩ ?_ _;rintro i ρ' σ' hi ⟨rfl,rfl⟩;by_cases hit:i<(dK (f.name,f.size)).length
 case neg=>
  have hn1:¬(i:Int)<f.size:=by split at hEl<;>omega
  have hn2:¬(i:Int)=0:=by split at hEl<;>omega
  simp -dsimp -implicitDefEqProofs only[aw,V.copy,JX,cond_false,eq_self,reduceIte,reduceCtorEq,JV,JW,JU,JY,decide_eq_false hn1,decide_eq_false hn2,wj];rw[e1];refine⟨hlt,Nxt.drop (by simp) (an hb rfl) (by simp[aq,V.under]) ⟨?_,rfl⟩⟩;rw[JK (by omega),hvt]
 have hst:P++(dK (f.name,f.size)).take (i+1)=(P++(dK (f.name,f.size)).take i)++[(dK (f.name,f.size))[i]]:=by
  rw[JP,JH hit,List.append_assoc];rfl
 have hQl:(P++(dK (f.name,f.size)).take i).length=P.length+i:=by rw[JO,JR];omega
 have hnm:(dK (f.name,f.size))[i]=if 0<f.size then aB f.name i else f.name:=by
  have:(dK (f.name,f.size))[i]? = some (if 0<f.size then aB f.name i else f.name):=by
   unfold dK;show(if 0<f.size then(JT f.size.toNat).map (aB f.name)else[f.name]:List ByteArray)[i]? = _;split at hEl
   ·rename_i h0;rw[if_pos h0,if_pos h0,List.getElem?_map,List.getElem?_range (by omega)];rfl
   ·rename_i h0;rw[if_neg h0,if_neg h0,show i=0 by omega];rfl
  rw[JH hit]at this;exact Option.some.inj this
 have happ:=Ac u (dK (f.name,f.size))[i] (P++(dK (f.name,f.size)).take i) 0;rw[←hst,Nat.zero_add]at happ;have hel:=xY u (P++(dK (f.name,f.size)).take i) 0;have hi8:i≤8:=by split at hEl<;>omega
 generalize (dK (f.name,f.size))[i]=nm at hnm happ;generalize P++(dK (f.name,f.size)).take i=Q at hQl happ hel ⊢;generalize fj Q u 0=E at happ hel ⊢;have hmap:(fj (P++(dK (f.name,f.size)).take (i+1)) u 0).map (fun s:Sig=>[al s.name,ah s.val])=E.map (fun s:Sig=>[al s.name,ah s.val])++[[al nm,ah (u.getD Q.length 0)]]:=by rw[happ,List.map_append];rfl
 have wi:IntKind.i64.wrap ((i:Int)+1)=((i+1:Nat):Int):=by rw[wrap_i64 (by omega) (by omega)];omega
 have hcast:((E.length:Nat):Int)=((Q.length:Nat):Int):=by rw[hel]
 have fin2:∀S,S=σ++[em c,[V.d (al f.name),.d (ah f.width),.d (ah f.size),.d (ah f.mode),.d (ah f.init)]]→True:=fun _ _=>trivial;by_cases h0:0<f.size
 ·rw[if_pos h0]at hnm hEl;subst hnm;have hn1:(i:Int)<f.size:=by omega
  have hrel:=fun σ=>gF f.name hfs i (by omega) σ;by_cases hv:Q.length<u.length
  ·have hv':((Q.length:Nat):Int)<((u.length:Nat):Int):=by omega
   have hux:u[Q.length]? = some (u.getD Q.length 0):=by rw[JH hv,JJ,JH hv];rfl
   simp -dsimp -implicitDefEqProofs only[aw,V.copy,V.lend,JX,eq_self,reduceIte,JV,JW,JU,JY,decide_eq_true hn1,decide_eq_true h0];refine ae (hrel _) ?_;simp -dsimp -implicitDefEqProofs only[aw,V.copy,V.cells,over,bc,aC,aF,V.plain,JX,eq_self,reduceIte,JV,JW,JU,JY,hcast,decide_eq_true hv',hux];refine bt (by first|omega|(simp only[JI]at *;omega)) ?_;simp -dsimp -implicitDefEqProofs only[aw,V.copy,eq_self,reduceIte,JV,JW,JU,wi];exact⟨hit,Nxt.same (by simp) (an hb rfl) (by simp[aq,V.under]) ⟨by simp only[osg];rw[hmap],rfl⟩⟩
  ·have hv':¬((Q.length:Nat):Int)<((u.length:Nat):Int):=by omega
   have hux:u.getD Q.length 0=0:=by rw[JJ,JM (by omega)];rfl
   rw[hux]at hmap;simp -dsimp -implicitDefEqProofs only[aw,V.copy,V.lend,JX,eq_self,reduceIte,JV,JW,JU,JY,decide_eq_true hn1,decide_eq_true h0];refine ae (hrel _) ?_;simp -dsimp -implicitDefEqProofs only[aw,V.copy,V.cells,over,bc,aC,aF,V.plain,JX,eq_self,reduceIte,JV,JW,JU,JY,hcast,decide_eq_false hv'];refine bt (by first|omega|(simp only[JI]at *;omega)) ?_;simp -dsimp -implicitDefEqProofs only[aw,V.copy,eq_self,reduceIte,JV,JW,JU,wi];exact⟨hit,Nxt.same (by simp) (an hb rfl) (by simp[aq,V.under]) ⟨by simp only[osg];rw[hmap],rfl⟩⟩
 ·rw[if_neg h0]at hnm hEl;subst hnm;have hi0:i=0:=by omega
  subst hi0;have hn1:¬((0:Nat):Int)<f.size:=by omega
  have hn2:((0:Nat):Int)=0:=rfl;by_cases hv:Q.length<u.length
  ·have hv':((Q.length:Nat):Int)<((u.length:Nat):Int):=by omega
   have hux:u[Q.length]? = some (u.getD Q.length 0):=by rw[JH hv,JJ,JH hv];rfl
   simp -dsimp -implicitDefEqProofs only[aw,V.copy,V.cells,over,bc,aC,aF,V.plain,JX,cond_false,eq_self,reduceIte,JV,JW,JU,JY,decide_eq_false hn1,decide_eq_true hn2,decide_eq_false h0,hcast,decide_eq_true hv',hux];refine bt (by first|omega|(simp only[JI]at *;omega)) ?_;simp -dsimp -implicitDefEqProofs only[aw,V.copy,eq_self,reduceIte,JV,JW,JU,wi];exact⟨hit,Nxt.same (by simp) (an hb rfl) (by simp[aq,V.under]) ⟨by simp only[osg];rw[hmap],rfl⟩⟩
  ·have hv':¬((Q.length:Nat):Int)<((u.length:Nat):Int):=by omega
   have hux:u.getD Q.length 0=0:=by rw[JJ,JM (by omega)];rfl
   rw[hux]at hmap;simp -dsimp -implicitDefEqProofs only[aw,V.copy,V.cells,over,bc,aC,aF,V.plain,JX,cond_false,eq_self,reduceIte,JV,JW,JU,JY,decide_eq_false hn1,decide_eq_true hn2,decide_eq_false h0,hcast,decide_eq_false hv'];refine bt (by first|omega|(simp only[JI]at *;omega)) ?_;simp -dsimp -implicitDefEqProofs only[aw,V.copy,eq_self,reduceIte,JV,JW,JU,wi];exact⟨hit,Nxt.same (by simp) (an hb rfl) (by simp[aq,V.under]) ⟨by simp only[osg];rw[hmap],rfl⟩⟩
section
variable (spl : ByteArray → Option (ByteArray × Int)) (fs : List (ByteArray × Int))
variable {spl fs}
end
end Go.Proofs.YthoebpnbhgmoiaaGreatDoor
namespace Go.Proofs.YthoebpnbhgmoiaaGreatDoor
open Go.RowKit
end Go.Proofs.YthoebpnbhgmoiaaGreatDoor
