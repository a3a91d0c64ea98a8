import Derived.Test.YtcbahpllcfbkmaaGreatDoorK3
import Derived.Test.YtcbahpllcfbkmaaGreatDoorLib7
import Derived.Test.YtcbahpllcfbkmaaGreatDoorBr8
import Derived.Test.YtcbahpllcfbkmaaGreatDoorData
import Derived.Test.YtcbahpllcfbkmaaGreatDoorNames2
import Derived.Test.YtcbahpllcfbkmaaGreatDoorIw1
import Derived.Test.YtcbahpllcfbkmaaGreatDoorShelf
import Derived.Scope
set_option linter.unusedVariables false
set_option linter.unusedSimpArgs false
set_option linter.unusedSectionVars false
namespace Go.Proofs.YtcbahpllcfbkmaaGreatDoor
open Go.RowKit
section
variable (spl : ByteArray → Option (ByteArray × Int)) (fs : List (ByteArray × Int))
end
end Go.Proofs.YtcbahpllcfbkmaaGreatDoor
namespace Go.Proofs.YtcbahpllcfbkmaaGreatDoor
open Go.RowKit
section
variable (spl : ByteArray → Option (ByteArray × Int)) (fs : List (ByteArray × Int))
theorem vldX_mem{l:List It}{d:Nat}(h:rvl l d=0){x:It}(hx:x∈l):shapeE x d=0∧rvl x.items (d+1)=0∧rvl x.els (d+1)=0:=by
 induction l with
 | nil=>cases hx
 | cons a r ih=>
  rw[rvl,rv1_eq]at h;by_cases h1:shapeE a d=0
  ·rw[if_pos h1]at h;by_cases h2:rvl a.items (d+1)=0
   ·rw[if_pos h2]at h;by_cases h3:rvl a.els (d+1)=0
    ·rw[if_pos h3]at h;rcases List.mem_cons.1 hx with rfl|hx
     ·exact⟨h1,h2,h3⟩
     ·exact ih h hx
    ·rw[if_neg h3]at h;exact absurd h h3
   ·rw[if_neg h2,if_neg h2]at h;exact absurd h h2
  ·rw[if_neg h1,if_neg h1]at h;exact absurd h h1
end
end Go.Proofs.YtcbahpllcfbkmaaGreatDoor
namespace Go.Proofs.YtcbahpllcfbkmaaGreatDoor
open Go.RowKit
section
variable (fs : List (ByteArray × Int))
end
end Go.Proofs.YtcbahpllcfbkmaaGreatDoor
namespace Go.Proofs.YtcbahpllcfbkmaaGreatDoor
open Go.RowKit
section
variable (spl : ByteArray → Option (ByteArray × Int)) (fs : List (ByteArray × Int))
end
end Go.Proofs.YtcbahpllcfbkmaaGreatDoor
namespace Go.Proofs.YtcbahpllcfbkmaaGreatDoor
open Go.RowKit
theorem sub_hi(l:Bs)(n:Nat)(h:n≤l.length):subV true 0 (V.d (dstr (bs l))) none (some (V.d (dint n)))=some (V.d (dstr (bs (l.take n)))):=by
 simp[subV,boundV,vstr,bs_size,h,bs_take]
theorem sub_lo(l:Bs)(n:Nat)(h:n≤l.length):subV true 0 (V.d (dstr (bs l))) (some (V.d (dint n))) none=some (V.d (dstr (bs (l.drop n)))):=by
 have:=bs_drop l n;rw[bs_size]at this;simp[subV,boundV,vstr,bs_size,h,this]
theorem nil_yes:decide (bs []=({data := #[]}:ByteArray))=true:=by rw[decide_eq_true_eq];rfl
theorem nil_no(c:UInt8)(r:Bs):decide (bs (c::r)=({data := #[]}:ByteArray))=false:=by
 rw[decide_eq_false_iff_not];intro h;have h2:=bs_inj.1 (h:bs (c::r)=bs []);cases h2
theorem ix_head(c:UInt8)(r:Bs):ixV (V.d (dstr (bs (c::r)))) (V.d (.lit (.int .i64 0)))=some (vint .u8 c.toNat):=by simp[ixV,bs_list]
theorem retK_ret{K P:V→List (List V)→Prop}{v:V}{σ:List (List V)}:retK K P (.ret v) σ=K v σ:=rfl
def VFun(vf:V)(args:List V)(σ:List (List V))(Q:Out→List (List V)→Prop):Prop:=
 match vf with
 | .fn f cap=>Fun G f (args++cap) σ Q
 | .bnd f first=>Fun G f (first++args) σ Q
 | _=>False
structure Vst{S:Type}(step:S→It→Nat→List ByteArray→Int×S)(P:It→Nat→List ByteArray→Prop)(vf:V)(J:S→List (List V)→Prop)(N:Nat):Prop where
 len:∀s τ,J s τ→τ.length=N
 bb:∀s τ,J s τ→boxesBelow N τ=true
 und:V.under N vf=true
 val:(∃f c,vf=.fn f c)∨(∃f c,vf=.bnd f c)
 call:∀s τ x d bd,J s τ→P x d bd→∀l,VFun vf [vit x,vplc d bd] (τ++l) (fun o σ'=>∃τ',J (step s x d bd).2 τ'∧σ'=τ'++l∧o=.ret (.d (dint (step s x d bd).1)))
theorem Vst.app{S:Type}{step:S→It→Nat→List ByteArray→Int×S}{P:It→Nat→List ByteArray→Prop}{vf:V}{J:S→List (List V)→Prop}{N:Nat}(h:Vst step P vf J N)(L:List (List V))(hL:L.all (fun cs=>V.unders (N+L.length) cs)=true):
 Vst step P vf (fun s σ=>∃τ,J s τ∧σ=τ++L) (N+L.length) where
 len:=fun s σ ⟨τ,h1,e⟩=>by rw[e,List.length_append,h.len s τ h1]
 bb:=fun s σ ⟨τ,h1,e⟩=>by
  have h2:=h.bb s τ h1;have h3:=h.len s τ h1;rw[←h3]at h2 hL ⊢;rw[e,←List.length_append];exact boxesBelow_app h2 (by rw[List.length_append];exact hL)
 und:=V.under_mono (by omega) _ h.und
 val:=h.val
 call:=fun s σ x d bd ⟨τ,h1,e⟩ hp l=>by
  subst e;have:=h.call s τ x d bd h1 hp (L++l);rw[List.append_assoc]
  have hm:∀o σ',(∃τ',J (step s x d bd).2 τ'∧σ'=τ'++(L++l)∧o=Out.ret (.d (dint (step s x d bd).1)))→∃τ',(∃τ2,J (step s x d bd).2 τ2∧τ'=τ2++L)∧σ'=τ'++l∧o=Out.ret (.d (dint (step s x d bd).1)):=fun o σ' ⟨τ',g1,g2,g3⟩=>
   ⟨τ'++L,⟨τ',g1,rfl⟩,by rw[g2,List.append_assoc],g3⟩
  unfold VFun at this ⊢;cases vf<;>first|exact this.elim|exact this.mono hm
def Here(P:It→Nat→List ByteArray→Prop):Prop:=∀x d bd,P x d bd→(∀y,y∈x.items→P y (dep x d) (bnd x bd))∧(∀y,y∈x.els→P y (dep x d) bd)
def WalkQ{S:Type}(step:S→It→Nat→List ByteArray→Int×S)(J:S→List (List V)→Prop)(l:List It)(d:Nat)(bd:List ByteArray)(s:S)(L:List (List V)):Out→List (List V)→Prop:=
 fun o σ'=>∃τ',J (wks step l d bd s).2 τ'∧σ'=τ'++L∧o=.ret (.d (dint (wks step l d bd s).1))
theorem wks_step{S:Type}(step:S→It→Nat→List ByteArray→Int×S)(x:It)(r:List It)(d:Nat)(bd:List ByteArray)(s:S):wks step (x::r) d bd s=
 if(step s x d bd).1=0 then(if(wks step x.items (dep x d) (bnd x bd) (step s x d bd).2).1=0 then
  (if(wks step x.els (dep x d) bd (wks step x.items (dep x d) (bnd x bd) (step s x d bd).2).2).1=0 then wks step r d bd (wks step x.els (dep x d) bd (wks step x.items (dep x d) (bnd x bd) (step s x d bd).2).2).2
    else wks step x.els (dep x d) bd (wks step x.items (dep x d) (bnd x bd) (step s x d bd).2).2)
  else wks step x.items (dep x d) (bnd x bd) (step s x d bd).2)else step s x d bd:=by
 rw[wks,wk_eq];by_cases h1:(step s x d bd).1=0
 ·rw[if_pos h1,if_pos h1];by_cases h2:(wks step x.items (dep x d) (bnd x bd) (step s x d bd).2).1=0
  ·rw[if_pos h2,if_pos h2]
  ·rw[if_neg h2,if_neg h2,if_neg h2]
 ·rw[if_neg h1,if_neg h1,if_neg h1]
theorem vcall{vf:V}{args:List V}{σ:List (List V)}{Q:Out→List (List V)→Prop}(h:VFun vf args σ Q){K P:V→List (List V)→Prop}{s:Tag K}{t:Tag P}{tg:Tag _}(hk:∀o σ',Q o σ'→retK K P o σ'):fnaT vf args (fun f a=>FunT G f a σ K P s t) tg:=by
 unfold VFun at h;cases vf<;>first|exact h.elim|exact h.mono hk
theorem fin_at{n0 k:Nat}{σ' τ:List (List V)}{ρ:Slots}{rs:List RV}{Q:Out→List (List V)→Prop}(hk:n0≤k)(ht:σ'.take k=τ)(hb:boxesBelow k τ=true){v:V}(h:resV σ' ρ rs=some v)(hv:V.under k v=true)(hq:Q (.ret v) τ):fin n0 rs Q .ret ρ σ':=
 ⟨ρ,σ',.refl _ _ _,v,h,k,hk,by rw[ht];exact hb,hv,by rw[ht];exact hq⟩
theorem Nxt.drop3{n0:Nat}{R:Slots→List (List V)→Prop}{ρ:Slots}{σ:List (List V)}{a b c d:List V}(hn:n0≤σ.length)(hb:boxesBelow (σ++[a]).length (σ++[a])=true)(hs:slotsBelow (σ++[a]).length ρ=true)(hR:R ρ (σ++[a])):Nxt n0 R ρ (σ++[a,b,c,d]) .mk:=by
 have e:σ++[a,b,c,d]=(σ++[a])++[b,c,d]:=by simp
 rw[e];exact Nxt.drop (by rw[List.length_append];omega) hb hs hR
set_option maxHeartbeats 4000000 in
theorem walk_fun{S:Type}(step:S→It→Nat→List ByteArray→Int×S)(P:It→Nat→List ByteArray→Prop)(hP:Here P)(vf:V):∀l:List It,ibigs l≤1200000→∀(d:Nat) (bd:List ByteArray) (J:S→List (List V)→Prop) (N:Nat),Vst step P vf J N→(∀x,x∈l→P x d bd)→d+ibigs l≤1200000→bd.length+ibigs l≤1200000→
 ∀s τ,J s τ→Fun G 57 [.d (ditl l),vplc d bd,vf] τ (WalkQ step J l d bd s []):=by
 refine its_ind2 fun l ih hs d bd J N hV hl hd hbd s τ hJ=>?_;have hln:=ibigs_len l;have hN:=hV.len s τ hJ;refine fun_code Tryz.func57 k57 (by rcases hV.val with⟨f,c,rfl⟩|⟨f,c,rfl⟩<;>rfl) fun hb hw=>?_;have hlend:vf.lend=vf:=by rcases hV.val with⟨f,c,rfl⟩|⟨f,c,rfl⟩<;>rfl
 have hcopy:vf.copy=vf:=by rcases hV.val with⟨f,c,rfl⟩|⟨f,c,rfl⟩<;>rfl
 have hcm:=hcopy;unfold V.copy at hcm;have hlm:=hlend;unfold V.lend at hlm;unfold c57;simp -dsimp -implicitDefEqProofs only[aw,slots0,V.copy,V.cells,V.boxable,eq_self,reduceIte,reduceCtorEq,Nat.reduceBEq,Nat.reduceLT,Nat.reduceEqDiff,Nat.reduceAdd];refine awp_forK [2,4,14,15,16] (R:=fun(j:Nat) ρ σ'=>∃s' τ',ρ=[(2,vf),(4,.ptr N 0),(14,.d (ditl l)),(15,vint .i64 l.length),(16,vint .i64 j)]∧J s' τ'∧σ'=τ'++[[.d (dint d),.d (.sl (bd.map fun s=>[dstr s]))]]∧wks step l d bd s=wks step (l.drop j) d bd s') l.length ⟨s,τ,by rw[hN];rfl,hJ,rfl,rfl⟩ ?_ _;rintro j ρ' σ' hj ⟨s',τ',rfl,hJ',rfl,hr⟩;have hN':=hV.len s' τ' hJ';by_cases hlt:j<l.length
 ·have e:τ.length=τ'.length:=by rw[hN,hN']
  rw[e];subst hN';have hp:=hl _ (List.getElem_mem hlt);obtain⟨p1,p2⟩:=hP _ d bd hp;obtain⟨i1,i2⟩:=ih _ (List.getElem_mem hlt);have hbig:=ibig_eq l[j];have hm:=ibigs_mem (List.getElem_mem hlt);rw[List.drop_eq_getElem_cons hlt,wks_step]at hr;obtain⟨x,hx⟩:∃x,l[j]? = some x:=⟨_,List.getElem?_eq_getElem hlt⟩
  have hx':l[j]=x:=by rw[List.getElem?_eq_getElem hlt]at hx;exact Option.some.inj hx
  rw[hx']at hp p1 p2 i1 i2 hbig hm hr;have hc:=fun l=>hV.call s' τ' x d bd hJ' hp l;simp only[vit_eq]at hc;simp -dsimp -implicitDefEqProofs only[aw,V.copy,V.lend,V.lend1,V.cells,V.boxable,over,Nat.reduceLeDiff,eq_self,reduceIte,Nat.reduceBEq,Nat.reduceLT,Nat.reduceEqDiff,Nat.reduceAdd,Int.ofNat_lt,hlt,decide_true,hx,dit_eq x,hcm];refine vcall (hc _) ?_;rintro o σ' ⟨τ2,hJ2,rfl,rfl⟩;have hN2:=hV.len _ τ2 hJ2;rw[←hN2];by_cases s1:(step s' x d bd).1=0
  case neg=>
   rw[if_neg s1]at hr;rw[retK_ret];simp -dsimp -implicitDefEqProofs only[aw,V.copy,eq_self,reduceIte,Nat.reduceBEq,Nat.reduceLT,Nat.reduceEqDiff,decide_eq_false s1];refine fin_at (v:=.d (dint (step s' x d bd).1)) (k:=τ2.length) (τ:=τ2) (Nat.le_refl _) List.take_left (by rw[hN2];exact hV.bb _ τ2 hJ2) rfl rfl ⟨τ2,by rw[hr];exact hJ2,(List.append_nil _).symm,by rw[hr]⟩
  rw[if_pos s1]at hr;rw[retK_ret];have w1:IntKind.i64.wrap ((d:Int)+1)=((d+1:Nat):Int):=by rw[wrap_i64 (by omega) (by omega)];omega
  have w1:IntKind.i64.wrap ((d:Int)+1)=((d+1:Nat):Int):=by rw[wrap_i64 (by omega) (by omega)];omega
  have w1:IntKind.i64.wrap ((d:Int)+1)=((d+1:Nat):Int):=by rw[wrap_i64 (by omega) (by omega)];omega
  have w1:IntKind.i64.wrap ((d:Int)+1)=((d+1:Nat):Int):=by rw[wrap_i64 (by omega) (by omega)];omega
  by_cases k4:x.kind=4
  case pos=>
   have hd1:dep x d=d+1:=if_pos (.inl k4);have hb1:bnd x bd=bd:=if_neg (by omega);rw[hd1,hb1]at hr p1;rw[hd1]at p2;simp -dsimp -implicitDefEqProofs only[aw,V.copy,V.lend,V.lend1,V.cells,V.boxable,over,bldV,Nat.reduceLeDiff,eq_self,reduceIte,Nat.reduceBEq,Nat.reduceLT,Nat.reduceEqDiff,Nat.reduceAdd,hcm,hlm,s1,decide_true,k4,Int.reduceEq,decide_false,w1];have hA:=hV.app [[V.d (dint d),V.d (.sl (bd.map fun s=>[dstr s]))],[.d (dint 4),.d (dint x.ex.op),.d (dint x.ex.num),.d (dstr x.ex.name),.d (.sl (x.ex.args.map dex)),.d (dstr x.name),.d (dstr x.idx),.d (.sl (x.ws.map dwt)),.d (.sl (x.items.map dit)),.d (.sl (x.els.map dit)),.d (.sl (x.bef.map fun s=>[dstr s])),.d (.sl (x.aft.map fun s=>[dstr s]))],[.d (dint (d+1:Nat)),(.d (.sl (bd.map fun s=>[dstr s])))],[.d (dint (d+1:Nat)),(.d (.sl (bd.map fun s=>[dstr s])))]] (by simp[V.unders,V.under])
   have g1:=i1 (by omega) (d+1) (bd) _ _ hA p1 (by omega) (by first|omega|(simp only[List.length_append,List.length_cons,List.length_nil];omega)) _ _ ⟨τ2,hJ2,rfl⟩;have g2:=fun s τ hJ=>i2 (by omega) (d+1) bd _ _ hA p2 (by omega) (by omega) s _ ⟨τ,hJ,rfl⟩;try simp only[vplc]at g1
   refine fun_mono g1 ?_;rintro o σ' ⟨_,⟨τ3,hJ3,rfl⟩,rfl,rfl⟩;have hN3:=hV.len _ τ3 hJ3;rw[retK_ret,List.append_nil,hN2.trans hN3.symm];by_cases s2:(wks step x.items (d+1) (bd) (step s' x d bd).2).1=0
   case neg=>
    rw[if_neg s2]at hr;simp -dsimp -implicitDefEqProofs only[aw,V.copy,eq_self,reduceIte,Nat.reduceBEq,Nat.reduceLT,Nat.reduceEqDiff,decide_eq_false s2];refine fin_at (v:=.d (dint (wks step x.items (d+1) (bd) (step s' x d bd).2).1)) (k:=τ3.length) (τ:=τ3) (Nat.le_refl _) List.take_left (by rw[hN3];exact hV.bb _ τ3 hJ3) rfl rfl ⟨τ3,by rw[hr];exact hJ3,(List.append_nil _).symm,by rw[hr]⟩
   rw[if_pos s2]at hr;simp -dsimp -implicitDefEqProofs only[aw,V.copy,V.lend,V.lend1,Nat.reduceLeDiff,eq_self,reduceIte,Nat.reduceBEq,Nat.reduceLT,Nat.reduceEqDiff,Nat.reduceAdd,hcm,hlm,s2,decide_true];refine fun_mono (g2 _ τ3 hJ3) ?_;rintro o σ' ⟨_,⟨τ4,hJ4,rfl⟩,rfl,rfl⟩;have hN4:=hV.len _ τ4 hJ4;rw[retK_ret,List.append_nil,hN3.trans hN4.symm];by_cases s3:(wks step x.els (d+1) bd (wks step x.items (d+1) (bd) (step s' x d bd).2).2).1=0
   case neg=>
    rw[if_neg s3]at hr;simp -dsimp -implicitDefEqProofs only[aw,V.copy,eq_self,reduceIte,Nat.reduceBEq,Nat.reduceLT,Nat.reduceEqDiff,decide_eq_false s3];refine fin_at (v:=.d (dint (wks step x.els (d+1) bd (wks step x.items (d+1) (bd) (step s' x d bd).2).2).1)) (k:=τ4.length) (τ:=τ4) (Nat.le_refl _) List.take_left (by rw[hN4];exact hV.bb _ τ4 hJ4) rfl rfl ⟨τ4,by rw[hr];exact hJ4,(List.append_nil _).symm,by rw[hr]⟩
   rw[if_pos s3]at hr;simp -dsimp -implicitDefEqProofs only[aw,V.copy,eq_self,reduceIte,Nat.reduceBEq,Nat.reduceLT,Nat.reduceEqDiff,s3,decide_true,wrap_nat hlt (show l.length≤9223372036854775807 by omega)];have hb4:boxesBelow (τ4++[[V.d (dint d),V.d (.sl (bd.map fun s=>[dstr s]))]]).length (τ4++[[V.d (dint d),V.d (.sl (bd.map fun s=>[dstr s]))]])=true:=boxesBelow_app (by rw[hN4];exact hV.bb _ τ4 hJ4) (by simp[V.unders,V.under]);exact⟨hlt,Nxt.drop3 (by simp) hb4 (by simp[slotsBelow,V.under];exact V.under_mono (by omega) _ hV.und) ⟨_,τ4,by rw[hN4],hJ4,rfl,hr⟩⟩
  by_cases k5:x.kind=5
  case pos=>
   have hd1:dep x d=d+1:=if_pos (.inr k5);have hb1:bnd x bd=bd++[x.idx]:=if_pos k5;rw[hd1,hb1]at hr p1;rw[hd1]at p2;simp -dsimp -implicitDefEqProofs only[aw,V.copy,V.lend,V.cells,V.boxable,over,bldV,Nat.reduceLeDiff,cond_false,eq_self,reduceIte,Nat.reduceBEq,Nat.reduceLT,Nat.reduceEqDiff,Nat.reduceAdd,Nat.reduceSub,s1,decide_true,k5,Int.reduceEq,decide_false,w1];refine actG_ret (clone_own bd (by omega) _) ?_ ?_
   ·simp -dsimp -implicitDefEqProofs only[aw]
   simp -dsimp -implicitDefEqProofs only[aw,V.copy,V.cells,rowsOf,plains,V.plain,Nat.reduceLeDiff,eq_self,reduceIte,Nat.reduceBEq,Nat.reduceLT,Nat.reduceEqDiff,Nat.reduceAdd,Nat.reduceSub];refine onT_intro (by omega) ?_;simp -dsimp -implicitDefEqProofs only[aw,V.copy,V.lend,V.lend1,over,Nat.reduceLeDiff,eq_self,reduceIte,Nat.reduceBEq,Nat.reduceLT,Nat.reduceEqDiff,Nat.reduceAdd,hcm,hlm];have hA:=hV.app [[V.d (dint d),V.d (.sl (bd.map fun s=>[dstr s]))],[.d (dint 5),.d (dint x.ex.op),.d (dint x.ex.num),.d (dstr x.ex.name),.d (.sl (x.ex.args.map dex)),.d (dstr x.name),.d (dstr x.idx),.d (.sl (x.ws.map dwt)),.d (.sl (x.items.map dit)),.d (.sl (x.els.map dit)),.d (.sl (x.bef.map fun s=>[dstr s])),.d (.sl (x.aft.map fun s=>[dstr s]))],[.d (dint (d+1:Nat)),.own 9 1 ((bd.map fun s=>[dstr s])++[[dstr x.idx]])],[.d (dint (d+1:Nat)),(.d (.sl (bd.map fun s=>[dstr s])))]] (by simp[V.unders,V.under])
   have g1:=i1 (by omega) (d+1) (bd++[x.idx]) _ _ hA p1 (by omega) (by first|omega|(simp only[List.length_append,List.length_cons,List.length_nil];omega)) _ _ ⟨τ2,hJ2,rfl⟩;have g2:=fun s τ hJ=>i2 (by omega) (d+1) bd _ _ hA p2 (by omega) (by omega) s _ ⟨τ,hJ,rfl⟩;try simp only[vplc,List.map_append,List.map_cons,List.map_nil]at g1
   refine fun_mono g1 ?_;rintro o σ' ⟨_,⟨τ3,hJ3,rfl⟩,rfl,rfl⟩;have hN3:=hV.len _ τ3 hJ3;rw[retK_ret,List.append_nil,hN2.trans hN3.symm];by_cases s2:(wks step x.items (d+1) (bd++[x.idx]) (step s' x d bd).2).1=0
   case neg=>
    rw[if_neg s2]at hr;simp -dsimp -implicitDefEqProofs only[aw,V.copy,eq_self,reduceIte,Nat.reduceBEq,Nat.reduceLT,Nat.reduceEqDiff,decide_eq_false s2];refine fin_at (v:=.d (dint (wks step x.items (d+1) (bd++[x.idx]) (step s' x d bd).2).1)) (k:=τ3.length) (τ:=τ3) (Nat.le_refl _) List.take_left (by rw[hN3];exact hV.bb _ τ3 hJ3) rfl rfl ⟨τ3,by rw[hr];exact hJ3,(List.append_nil _).symm,by rw[hr]⟩
   rw[if_pos s2]at hr;simp -dsimp -implicitDefEqProofs only[aw,V.copy,V.lend,V.lend1,Nat.reduceLeDiff,eq_self,reduceIte,Nat.reduceBEq,Nat.reduceLT,Nat.reduceEqDiff,Nat.reduceAdd,hcm,hlm,s2,decide_true];refine fun_mono (g2 _ τ3 hJ3) ?_;rintro o σ' ⟨_,⟨τ4,hJ4,rfl⟩,rfl,rfl⟩;have hN4:=hV.len _ τ4 hJ4;rw[retK_ret,List.append_nil,hN3.trans hN4.symm];by_cases s3:(wks step x.els (d+1) bd (wks step x.items (d+1) (bd++[x.idx]) (step s' x d bd).2).2).1=0
   case neg=>
    rw[if_neg s3]at hr;simp -dsimp -implicitDefEqProofs only[aw,V.copy,eq_self,reduceIte,Nat.reduceBEq,Nat.reduceLT,Nat.reduceEqDiff,decide_eq_false s3];refine fin_at (v:=.d (dint (wks step x.els (d+1) bd (wks step x.items (d+1) (bd++[x.idx]) (step s' x d bd).2).2).1)) (k:=τ4.length) (τ:=τ4) (Nat.le_refl _) List.take_left (by rw[hN4];exact hV.bb _ τ4 hJ4) rfl rfl ⟨τ4,by rw[hr];exact hJ4,(List.append_nil _).symm,by rw[hr]⟩
   rw[if_pos s3]at hr;simp -dsimp -implicitDefEqProofs only[aw,V.copy,eq_self,reduceIte,Nat.reduceBEq,Nat.reduceLT,Nat.reduceEqDiff,s3,decide_true,wrap_nat hlt (show l.length≤9223372036854775807 by omega)];have hb4:boxesBelow (τ4++[[V.d (dint d),V.d (.sl (bd.map fun s=>[dstr s]))]]).length (τ4++[[V.d (dint d),V.d (.sl (bd.map fun s=>[dstr s]))]])=true:=boxesBelow_app (by rw[hN4];exact hV.bb _ τ4 hJ4) (by simp[V.unders,V.under]);exact⟨hlt,Nxt.drop3 (by simp) hb4 (by simp[slotsBelow,V.under];exact V.under_mono (by omega) _ hV.und) ⟨_,τ4,by rw[hN4],hJ4,rfl,hr⟩⟩
  have hd1:dep x d=d:=if_neg (by omega);have hb1:bnd x bd=bd:=if_neg (by omega);rw[hd1,hb1]at hr p1;rw[hd1]at p2;simp -dsimp -implicitDefEqProofs only[aw,V.copy,V.lend,V.lend1,V.cells,V.boxable,over,bldV,Nat.reduceLeDiff,cond_false,eq_self,reduceIte,Nat.reduceBEq,Nat.reduceLT,Nat.reduceEqDiff,Nat.reduceAdd,hcm,hlm,s1,decide_true,decide_eq_false k4,decide_eq_false k5];have hA:=hV.app [[V.d (dint d),V.d (.sl (bd.map fun s=>[dstr s]))],[.d (dint x.kind),.d (dint x.ex.op),.d (dint x.ex.num),.d (dstr x.ex.name),.d (.sl (x.ex.args.map dex)),.d (dstr x.name),.d (dstr x.idx),.d (.sl (x.ws.map dwt)),.d (.sl (x.items.map dit)),.d (.sl (x.els.map dit)),.d (.sl (x.bef.map fun s=>[dstr s])),.d (.sl (x.aft.map fun s=>[dstr s]))],[.d (dint d),(.d (.sl (bd.map fun s=>[dstr s])))],[.d (dint d),(.d (.sl (bd.map fun s=>[dstr s])))]] (by simp[V.unders,V.under])
  have g1:=i1 (by omega) (d) (bd) _ _ hA p1 (by omega) (by first|omega|(simp only[List.length_append,List.length_cons,List.length_nil];omega)) _ _ ⟨τ2,hJ2,rfl⟩;have g2:=fun s τ hJ=>i2 (by omega) (d) bd _ _ hA p2 (by omega) (by omega) s _ ⟨τ,hJ,rfl⟩;try simp only[vplc]at g1
  refine fun_mono g1 ?_;rintro o σ' ⟨_,⟨τ3,hJ3,rfl⟩,rfl,rfl⟩;have hN3:=hV.len _ τ3 hJ3;rw[retK_ret,List.append_nil,hN2.trans hN3.symm];by_cases s2:(wks step x.items (d) (bd) (step s' x d bd).2).1=0
  case neg=>
   rw[if_neg s2]at hr;simp -dsimp -implicitDefEqProofs only[aw,V.copy,eq_self,reduceIte,Nat.reduceBEq,Nat.reduceLT,Nat.reduceEqDiff,decide_eq_false s2];refine fin_at (v:=.d (dint (wks step x.items (d) (bd) (step s' x d bd).2).1)) (k:=τ3.length) (τ:=τ3) (Nat.le_refl _) List.take_left (by rw[hN3];exact hV.bb _ τ3 hJ3) rfl rfl ⟨τ3,by rw[hr];exact hJ3,(List.append_nil _).symm,by rw[hr]⟩
  rw[if_pos s2]at hr;simp -dsimp -implicitDefEqProofs only[aw,V.copy,V.lend,V.lend1,Nat.reduceLeDiff,eq_self,reduceIte,Nat.reduceBEq,Nat.reduceLT,Nat.reduceEqDiff,Nat.reduceAdd,hcm,hlm,s2,decide_true];refine fun_mono (g2 _ τ3 hJ3) ?_;rintro o σ' ⟨_,⟨τ4,hJ4,rfl⟩,rfl,rfl⟩;have hN4:=hV.len _ τ4 hJ4;rw[retK_ret,List.append_nil,hN3.trans hN4.symm];by_cases s3:(wks step x.els (d) bd (wks step x.items (d) (bd) (step s' x d bd).2).2).1=0
  case neg=>
   rw[if_neg s3]at hr;simp -dsimp -implicitDefEqProofs only[aw,V.copy,eq_self,reduceIte,Nat.reduceBEq,Nat.reduceLT,Nat.reduceEqDiff,decide_eq_false s3];refine fin_at (v:=.d (dint (wks step x.els (d) bd (wks step x.items (d) (bd) (step s' x d bd).2).2).1)) (k:=τ4.length) (τ:=τ4) (Nat.le_refl _) List.take_left (by rw[hN4];exact hV.bb _ τ4 hJ4) rfl rfl ⟨τ4,by rw[hr];exact hJ4,(List.append_nil _).symm,by rw[hr]⟩
  rw[if_pos s3]at hr;simp -dsimp -implicitDefEqProofs only[aw,V.copy,eq_self,reduceIte,Nat.reduceBEq,Nat.reduceLT,Nat.reduceEqDiff,s3,decide_true,wrap_nat hlt (show l.length≤9223372036854775807 by omega)];have hb4:boxesBelow (τ4++[[V.d (dint d),V.d (.sl (bd.map fun s=>[dstr s]))]]).length (τ4++[[V.d (dint d),V.d (.sl (bd.map fun s=>[dstr s]))]])=true:=boxesBelow_app (by rw[hN4];exact hV.bb _ τ4 hJ4) (by simp[V.unders,V.under]);exact⟨hlt,Nxt.drop3 (by simp) hb4 (by simp[slotsBelow,V.under];exact V.under_mono (by omega) _ hV.und) ⟨_,τ4,by rw[hN4],hJ4,rfl,hr⟩⟩
 ·simp -dsimp -implicitDefEqProofs only[aw,V.copy,eq_self,reduceIte,Nat.reduceBEq,Nat.reduceLT,Nat.reduceEqDiff,Int.ofNat_lt,hlt,decide_false];rw[List.drop_eq_nil_of_le (by omega)]at hr;refine fin_at (k:=N) (τ:=τ') (by omega) (by rw[←hN'];exact List.take_left) (hV.bb s' τ' hJ') rfl rfl ⟨τ',by rw[hr];exact hJ',(List.append_nil _).symm,by rw[hr];rfl⟩
end Go.Proofs.YtcbahpllcfbkmaaGreatDoor
