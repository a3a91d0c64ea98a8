import Derived.Test.YthekkgfmagliiaaGreatDoorQl
import Derived.Test.YthekkgfmagliiaaGreatDoorQg2
import Derived.Test.YthekkgfmagliiaaGreatDoorJoin7
import Derived.Test.YthekkgfmagliiaaGreatDoorA20
set_option linter.unusedVariables false
set_option linter.unusedSimpArgs false
set_option linter.unusedSectionVars false
namespace Go.Proofs.YthekkgfmagliiaaGreatDoor
open Go.RowKit
section
variable {α : Type}
end
def zPr:Pr:=⟨⟨#[]⟩,false,false,zT,zT⟩
section
variable {α β : Type}
end
end Go.Proofs.YthekkgfmagliiaaGreatDoor
namespace Go.Proofs.YthekkgfmagliiaaGreatDoor
open Go.RowKit
abbrev Sg:=List (List V)
abbrev Res:=Option (AEx×ak×Sg)
abbrev CF:=Nat→FuncId→List V→Sg→Option (Out×Sg)
def eqL:Value→Value→Bool
 | .int k n,.int k' n'=>decide (k=k')&&decide (n=n')
 | .string a,.string b=>decide (a=b)
 | .bool a,.bool b=>a==b
 | .nilIface,.nilIface=>true
 | _,_=>false
theorem Ic{a b:Value}(h:eqL a b=true):a=b:=by
 unfold eqL at h;split at h
 ·simp only[Bool.and_eq_true,decide_eq_true_eq]at h;rw[h.1,h.2]
 ·rw[of_decide_eq_true h]
 ·rw[eq_of_beq h]
 ·rfl
 ·cases h
mutual
def eqD:D→D→Bool
 | .lit a,.lit b=>eqL a b
 | .sl a,.sl b=>Bl a b
 | _,_=>false
def Ak:List D→List D→Bool
 | [],[]=>true
 | a::r,b::s=>eqD a b&&Ak r s
 | _,_=>false
def Bl:List (List D)→List (List D)→Bool
 | [],[]=>true
 | a::r,b::s=>Ak a b&&Bl r s
 | _,_=>false
end
mutual
theorem CP:∀(a b:D),eqD a b=true→a=b
 | .lit a,.lit b,h=>by simp only[eqD]at h;rw[Ic h]
 | .sl a,.sl b,h=>by simp only[eqD]at h;rw[xy a b h]
 | .lit _,.sl _,h=>by simp[eqD]at h
 | .sl _,.lit _,h=>by simp[eqD]at h
theorem x7:∀(a b:List D),Ak a b=true→a=b
 | [],[],_=>rfl
 | a::r,b::s,h=>by
  simp only[Ak,Bool.and_eq_true]at h;rw[CP a b h.1,x7 r s h.2]
 | [],_::_,h=>by simp[Ak]at h
 | _::_,[],h=>by simp[Ak]at h
theorem xy:∀(a b:List (List D)),Bl a b=true→a=b
 | [],[],_=>rfl
 | a::r,b::s,h=>by
  simp only[Bl,Bool.and_eq_true]at h;rw[x7 a b h.1,xy r s h.2]
 | [],_::_,h=>by simp[Bl]at h
 | _::_,[],h=>by simp[Bl]at h
end
def Gk:V→V→Bool
 | .d a,.d b=>eqD a b
 | .ptr i o,.ptr j p=>decide (i=j)&&decide (o=p)
 | .nil,.nil=>true
 | _,_=>false
theorem yr{a b:V}(h:Gk a b=true):a=b:=by
 unfold Gk at h;split at h
 ·rw[CP _ _ h]
 ·simp only[Bool.and_eq_true,decide_eq_true_eq]at h;rw[h.1,h.2]
 ·rfl
 ·cases h
def A7:List V→List V→Bool
 | [],[]=>true
 | a::r,b::s=>Gk a b&&A7 r s
 | _,_=>false
theorem xx:∀{a b:List V},A7 a b=true→a=b
 | [],[],_=>rfl
 | a::r,b::s,h=>by
  simp only[A7,Bool.and_eq_true]at h;rw[yr h.1,xx h.2]
 | [],_::_,h=>by simp[A7]at h
 | _::_,[],h=>by simp[A7]at h
def Fa:V→V→Bool
 | .agg a,.agg b=>A7 a b
 | a,b=>Gk a b
theorem yi{a b:V}(h:Fa a b=true):a=b:=by
 unfold Fa at h;split at h
 ·rw[xx h]
 ·exact yr h
def AN:List V→List V→Bool
 | [],[]=>true
 | a::r,b::s=>Fa a b&&AN r s
 | _,_=>false
theorem yj:∀{a b:List V},AN a b=true→a=b
 | [],[],_=>rfl
 | a::r,b::s,h=>by
  simp only[AN,Bool.and_eq_true]at h;rw[yi h.1,yj h.2]
 | [],_::_,h=>by simp[AN]at h
 | _::_,[],h=>by simp[AN]at h
def eqV:V→V→Bool
 | .tup a,.tup b=>AN a b
 | a,b=>Fa a b
theorem vB{a b:V}(h:eqV a b=true):a=b:=by
 unfold eqV at h;split at h
 ·rw[yj h]
 ·exact yi h
def a7(m:Nat)(σ σ':Sg):Prop:=m≤σ.length→σ'.take m=σ.take m∧m≤σ'.length
theorem a7.rfl'{m:Nat}{σ:Sg}:a7 m σ σ:=fun h=>⟨rfl,h⟩
theorem a7.trans{m:Nat}{σ σ' σ'':Sg}(h:a7 m σ σ')(k:a7 m σ' σ''):a7 m σ σ'':=fun hm=>by
 obtain⟨h1,h2⟩:=h hm;obtain⟨k1,k2⟩:=k h2;exact⟨k1.trans h1,k2⟩
theorem a7.set{m i:Nat}{σ:Sg}{x:List V}(h:m≤i):a7 m σ (σ.set i x):=fun hm=>by
 refine⟨?_,by rw[List.length_set];exact hm⟩;rw[List.take_set];exact List.set_eq_of_length_le (by rw[List.length_take];omega)
theorem a7.app{m:Nat}{σ τ:Sg}:a7 m σ (σ++τ):=fun hm=>⟨List.take_append_of_le_length hm,by rw[List.length_append];omega⟩
theorem a7.take{m k:Nat}{σ σ':Sg}(h:a7 m σ σ')(hk:m≤k):a7 m σ (σ'.take k):=fun hm=>by
 obtain⟨h1,h2⟩:=h hm;refine⟨?_,by rw[List.length_take];omega⟩;rw[List.take_take,Nat.min_eq_left hk,h1]
theorem a7.all{σ σ':Sg}(h:a7 σ.length σ σ')(hl:σ'.length=σ.length):σ'=σ:=by
 have:=(h (Nat.le_refl _)).1;rwa[List.take_length,←hl,List.take_length]at this
section
variable {C : Cx}
def jc(C:Cx)(cf:CF):Prop:=∀m f a σ o σ',cf m f a σ=some (o,σ')→Fun C f a σ (fun o' s'=>o'=o∧s'=σ')∧a7 m σ σ'
def wv(dst:Option Nat)(ρ:ak):Option (Out×Sg)→Res
 | some (.ret v,σ')=>some (.normal,putd ρ dst v,σ')
 | some (.panic v,σ')=>some (.panic v,ρ,σ')
 | none=>none
def ij(C:Cx)(cf:CF)(m:Nat)(op:OP)(dst:Option Nat)(ρ:ak)(σ:Sg):Res:=
 match op with
 | .call f args=>wv dst ρ (cf m f (args.map fun x=>(ev C ρ x).lend) σ)
 | .callv x args=>match ev C ρ x with
  | .fn f cap=>wv dst ρ (cf m f ((args.map fun x=>(ev C ρ x).lend)++cap) σ)
  | .bnd f first=>wv dst ρ (cf m f (first++args.map fun x=>(ev C ρ x).lend) σ)
  | _=>none
 | .calln f args=>wv dst ρ (cf m f (args.map fun x=>(ev C ρ x).copy) σ)
 | .new _ cs=>some (.normal,putd ρ dst (.ptr σ.length 0),σ++[cs])
 | .box _ x=>if(ev C ρ x).boxable=true then some (.normal,putd ρ dst (.ptr σ.length 0),σ++[(ev C ρ x).cells])else none
 | .sto k x y=>match ev C ρ x with
  | .ptr i o=>match σ[i]? with
   | some cs=>if m≤i∧((ev C ρ y).boxable=true∧(ev C ρ y).cells.length=k∧o+k≤cs.length∧bC cs=true)then some (.normal,ρ,σ.set i (over cs o (ev C ρ y).cells))else none
   | none=>none
  | _=>none
 | .stoo x t=>match ev C ρ x,get ρ t with
  | .ptr i o,.own T k rows=>match σ[i]? with
   | some cs=>if m≤i∧(o<cs.length∧bC cs=true)then some (.normal,put ρ t (.d (.sl rows)),σ.set i (over cs o [.own T k rows]))else none
   | none=>none
  | _,_=>none
 | .ldo x=>match ev C ρ x with
  | .ptr i o=>match σ[i]? with
   | some cs=>match cs[o]? with
    | some (.own T k rows)=>if m≤i then some (.normal,putd ρ dst (.own T k rows),σ.set i (cs.set o (.d (.sl rows))))else none
    | _=>none
   | none=>none
  | _=>none
 | .mvo t=>match get ρ t with
  | .own T k rows=>some (.normal,putd (put ρ t (.d (.sl rows))) dst (.own T k rows),σ)
  | _=>none
 | .nilo T k=>some (.normal,putd ρ dst (.own T k []),σ)
 | .app T k bytes t y=>match get ρ t,dV (ev C ρ y)with
  | .own T' k' rows,some rows2=>if T'=T∧k'=k∧rows2.all (fun r=>r.length==k)=true∧(rows.length+rows2.length)*bytes≤140737488355328 then some (.normal,putd (put ρ t (.d (.sl rows))) dst (.own T k (rows++rows2)),σ)else none
  | _,_=>none
 | .mks _ k xs=>match ae (xs.map (ev C ρ))with
  | some rows=>if rows.all (fun r=>r.length==k)=true then some (.normal,putd ρ dst (.d (.sl rows)),σ)else none
  | none=>none
 | .mkso T k xs=>match ae (xs.map (ev C ρ))with
  | some rows=>if rows.all (fun r=>r.length==k)=true then some (.normal,putd ρ dst (.own T k rows),σ)else none
  | none=>none
 | .mkc T k bytes x=>match ev C ρ x with
  | .d (.lit (.int _ n))=>if 0≤n∧n*bytes≤140737488355328 then some (.normal,putd ρ dst (.own T k []),σ)else none
  | _=>none
 | .pan x=>match ev C ρ x with
  | .iface t v=>some (.panic (.iface t v),ρ,σ)
  | _=>none
 | op=>if bz op=true then(match pv C op ρ σ with|some v=>some (.normal,putd ρ dst v,σ)|none=>none)else none
theorem iO{cf:CF}(hcf:jc C cf){m:Nat}{f:FuncId}{a:List V}{dst:Option Nat}{ρ ρ':ak}{σ σ':Sg}{e:AEx}(h:wv dst ρ (cf m f a σ)=some (e,ρ',σ')):
 a7 m σ σ'∧∀(K:ak→Sg→Prop) (Q:AEx→ak→Sg→Prop),(e=.normal→K ρ' σ')→(e≠.normal→Q e ρ' σ')→Fun C f a σ (fun o σ'=>match o with | .ret v=>K (putd ρ dst v) σ' | .panic v=>Q (.panic v) ρ σ'):=by
 cases hc:cf m f a σ with
 | none=>rw[hc]at h;cases h
 | some r=>
  obtain⟨o,s⟩:=r;obtain⟨h1,h2⟩:=hcf _ _ _ _ _ _ hc;rw[hc]at h;cases o with
  | ret v=>
   cases h;exact⟨h2,fun K Q hk _=>h1.mono fun o' s' ⟨e1,e2⟩=>by subst e1;subst e2;exact hk rfl⟩
  | panic v=>
   cases h;exact⟨h2,fun K Q _ hq=>h1.mono fun o' s' ⟨e1,e2⟩=>by subst e1;subst e2;exact hq (by simp)⟩
theorem pI{cf:CF}(hcf:jc C cf){m:Nat}{op:OP}{dst:Option Nat}{ρ ρ':ak}{σ σ':Sg}{e:AEx}(h:ij C cf m op dst ρ σ=some (e,ρ',σ')):
 a7 m σ σ'∧∀(K:ak→Sg→Prop) (Q:AEx→ak→Sg→Prop),(e=.normal→K ρ' σ')→(e≠.normal→Q e ρ' σ')→cT C op dst ρ σ K Q:=by
 cases op;case call f args=>exact iO hcf h
 case calln f args=>exact iO hcf h
 case callv x args=>
  simp only[ij]at h;split at h
  ·rename_i f cap hx;obtain⟨h1,h2⟩:=iO hcf h;exact⟨h1,fun K Q hk hq=>by simp only[cT,hx];exact h2 K Q hk hq⟩
  ·rename_i f first hx
   obtain⟨h1,h2⟩:=iO hcf h;exact⟨h1,fun K Q hk hq=>by simp only[cT,hx];exact h2 K Q hk hq⟩
  ·cases h
 case new T cs=>
  cases h;exact⟨a7.app,fun K Q hk _=>hk rfl⟩
 case box T x=>
  simp only[ij]at h;split at h
  ·rename_i hb;cases h;exact⟨a7.app,fun K Q hk _=>⟨hb,hk rfl⟩⟩
  ·cases h
 case sto k x y=>
  simp only[ij]at h;split at h
  ·rename_i i o hx;split at h
   ·rename_i cs hcs;split at h
    ·rename_i hc;cases h;exact⟨a7.set hc.1,fun K Q hk _=>by simp only[cT,hx,hcs];exact⟨hc.2,hk rfl⟩⟩
    ·cases h
   ·cases h
  ·cases h
 case stoo x t=>
  simp only[ij]at h;split at h
  ·rename_i i o T k rows hx ht;split at h
   ·rename_i cs hcs;split at h
    ·rename_i hc;cases h;exact⟨a7.set hc.1,fun K Q hk _=>by simp only[cT,hx,ht,hcs];exact⟨hc.2,hk rfl⟩⟩
    ·cases h
   ·cases h
  ·cases h
 case ldo x=>
  simp only[ij]at h;split at h
  ·rename_i i o hx;split at h
   ·rename_i cs hcs;split at h
    ·rename_i T k rows hco;split at h
     ·rename_i hc;cases h;exact⟨a7.set hc,fun K Q hk _=>by simp only[cT,hx,hcs,hco];exact hk rfl⟩
     ·cases h
    ·cases h
   ·cases h
  ·cases h
 case mvo t=>
  simp only[ij]at h;split at h
  ·rename_i T k rows ht;cases h;exact⟨a7.rfl',fun K Q hk _=>by simp only[cT,ht];exact hk rfl⟩
  ·cases h
 case nilo T k=>
  cases h;exact⟨a7.rfl',fun K Q hk _=>hk rfl⟩
 case app T k bytes t y=>
  simp only[ij]at h;split at h
  ·rename_i T' k' rows rows2 ht hy;split at h
   ·rename_i hc;cases h;exact⟨a7.rfl',fun K Q hk _=>by simp only[cT,ht,hy];exact⟨hc,hk rfl⟩⟩
   ·cases h
  ·cases h
 case mks T k xs=>
  simp only[ij]at h;split at h
  ·rename_i rows hr;split at h
   ·rename_i hc;cases h;exact⟨a7.rfl',fun K Q hk _=>by simp only[cT,hr];exact⟨hc,hk rfl⟩⟩
   ·cases h
  ·cases h
 case mkso T k xs=>
  simp only[ij]at h;split at h
  ·rename_i rows hr;split at h
   ·rename_i hc;cases h;exact⟨a7.rfl',fun K Q hk _=>by simp only[cT,hr];exact⟨hc,hk rfl⟩⟩
   ·cases h
  ·cases h
 case mkc T k bytes x=>
  simp only[ij]at h;split at h
  ·rename_i kk n hx;split at h
   ·rename_i hc;cases h;exact⟨a7.rfl',fun K Q hk _=>by simp only[cT,hx];exact⟨hc,hk rfl⟩⟩
   ·cases h
  ·cases h
 case pan x=>
  simp only[ij]at h;split at h
  ·rename_i t v hx;cases h;exact⟨a7.rfl',fun K Q _ hq=>by simp only[cT,hx];exact hq (by simp)⟩
  ·cases h
 all_goals
  simp only[ij,bz,if_true,Bool.false_eq_true,if_false,reduceCtorEq]at h
  try
   split at h
   ·rename_i v hv;cases h;exact⟨a7.rfl',fun K Q hk _=>by simp only[cT,hv];exact hk rfl⟩
   ·cases h
end
end Go.Proofs.YthekkgfmagliiaaGreatDoor
