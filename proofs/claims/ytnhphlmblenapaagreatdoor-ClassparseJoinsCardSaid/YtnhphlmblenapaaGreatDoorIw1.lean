import Derived.Test.YtnhphlmblenapaaGreatDoorGrow
set_option linter.unusedVariables false
set_option linter.unusedSimpArgs false
set_option linter.unusedSectionVars false
set_option maxRecDepth 100000
set_option maxHeartbeats 4000000
open Bool renaming eq_iff_iff->Pa,not_false->Pb,false_and->Pd,and_false->Pe,true_and->Pf,not_true->Pg
open Int renaming ofNat_lt->Ph
open List renaming length_map->Pi,take_succ_cons->Pj,getElem?_eq_getElem->Pk,getElem_cons_zero->Pl,length_cons->Pm
open Nat renaming le_refl->Pn
namespace Go.Proofs.YtnhphlmblenapaaGreatDoor
open Go.RowKit
structure Wt where
 lo:Int
 hi:Int
 w:Int
 each:Bool
 deriving DecidableEq
inductive It where
 | mk (kind:Int) (e:Ex) (name idx:ByteArray) (ws:List Wt) (items els:List It) (bef aft:List ByteArray)
namespace It
def kind:It->Int|mk k _ _ _ _ _ _ _ _=>k
def ex:It->Ex|mk _ e _ _ _ _ _ _ _=>e
def name:It->ByteArray|mk _ _ s _ _ _ _ _ _=>s
def idx:It->ByteArray|mk _ _ _ s _ _ _ _ _=>s
def ws:It->List Wt|mk _ _ _ _ l _ _ _ _=>l
def items:It->List It|mk _ _ _ _ _ l _ _ _=>l
def els:It->List It|mk _ _ _ _ _ _ l _ _=>l
def bef:It->List ByteArray|mk _ _ _ _ _ _ _ l _=>l
def aft:It->List ByteArray|mk _ _ _ _ _ _ _ _ l=>l
end It
theorem kB(k:Int)(e:Ex)(nm ix:ByteArray)(ws:List Wt)(l m:List It)(bf af:List ByteArray):(It.mk k e nm ix ws l m bf af).kind=k:=rfl
theorem qN(k:Int)(e:Ex)(nm ix:ByteArray)(ws:List Wt)(l m:List It)(bf af:List ByteArray):(It.mk k e nm ix ws l m bf af).ex=e:=rfl
theorem kr(k:Int)(e:Ex)(nm ix:ByteArray)(ws:List Wt)(l m:List It)(bf af:List ByteArray):(It.mk k e nm ix ws l m bf af).name=nm:=rfl
theorem mK(k:Int)(e:Ex)(nm ix:ByteArray)(ws:List Wt)(l m:List It)(bf af:List ByteArray):(It.mk k e nm ix ws l m bf af).idx=ix:=rfl
theorem qR(k:Int)(e:Ex)(nm ix:ByteArray)(ws:List Wt)(l m:List It)(bf af:List ByteArray):(It.mk k e nm ix ws l m bf af).ws=ws:=rfl
theorem iC(k:Int)(e:Ex)(nm ix:ByteArray)(ws:List Wt)(l m:List It)(bf af:List ByteArray):(It.mk k e nm ix ws l m bf af).items=l:=rfl
theorem nv(k:Int)(e:Ex)(nm ix:ByteArray)(ws:List Wt)(l m:List It)(bf af:List ByteArray):(It.mk k e nm ix ws l m bf af).els=m:=rfl
theorem mS(k:Int)(e:Ex)(nm ix:ByteArray)(ws:List Wt)(l m:List It)(bf af:List ByteArray):(It.mk k e nm ix ws l m bf af).bef=bf:=rfl
theorem m9(k:Int)(e:Ex)(nm ix:ByteArray)(ws:List Wt)(l m:List It)(bf af:List ByteArray):(It.mk k e nm ix ws l m bf af).aft=af:=rfl
mutual
def isz:It->Nat
 | .mk _ _ _ _ _ l m _ _=>1+dV l+dV m
def dV:List It->Nat
 | []=>0
 | a::r=>isz a+dV r
end
theorem om(x:It):1≤isz x:=by cases x;rw[isz];omega
theorem pG(x:It):isz x=1+dV x.items+dV x.els:=by cases x;rfl
theorem mA{l:List It}{a:It}(h:a∈l):isz a≤dV l:=by
 induction l with
 | nil=>cases h
 | cons b r ih=>
  rw[dV];rcases List.mem_cons.1 h with rfl|h
  .omega
  .have:=ih h;omega
theorem DC(l:List It):l.length≤dV l:=by
 induction l with
 | nil=>exact Pn _
 | cons b r ih=>rw[dV,Pm];have:=om b;omega
theorem yk{P:List It->Prop}(h0:P [])(h:∀(a:It) (r:List It),P a.items->P a.els->P r->P (a::r)):∀l,P l:=by
 have H:∀n l,dV l≤n->P l:=by
  intro n
  induction n with
  | zero=>
   intro l hl;cases l with
   | nil=>exact h0
   | cons a r=>rw[dV]at hl;have:=om a;omega
  | succ n ih=>
   intro l hl;cases l with
   | nil=>exact h0
   | cons a r=>
    rw[dV]at hl;have h1:=pG a;exact h a r (ih _ (by omega)) (ih _ (by omega)) (ih _ (by omega))
 exact fun l=>H _ l (Pn _)
section
variable {σ : Type} (step : σ -> It -> Nat -> List ByteArray -> Int × σ)
mutual
def wk:It->Nat->List ByteArray->σ->Int×σ
 | .mk k e nm ix ws l m bf af,d,bd,s=>
  if(step s (.mk k e nm ix ws l m bf af) d bd).1=0 then
   if(wks l (if k=4\/k=5 then d+1 else d) (if k=5 then bd++[ix]else bd) (step s (.mk k e nm ix ws l m bf af) d bd).2).1=0 then
    wks m (if k=4\/k=5 then d+1 else d) bd (wks l (if k=4\/k=5 then d+1 else d) (if k=5 then bd++[ix]else bd) (step s (.mk k e nm ix ws l m bf af) d bd).2).2
   else wks l (if k=4\/k=5 then d+1 else d) (if k=5 then bd++[ix]else bd) (step s (.mk k e nm ix ws l m bf af) d bd).2
  else step s (.mk k e nm ix ws l m bf af) d bd
def wks:List It->Nat->List ByteArray->σ->Int×σ
 | [],_,_,s=>(0,s)
 | a::r,d,bd,s=>if(wk a d bd s).1=0 then wks r d bd (wk a d bd s).2 else wk a d bd s
end
def dep(x:It)(d:Nat):Nat:=if x.kind=4\/x.kind=5 then d+1 else d
def bnd(x:It)(bd:List ByteArray):List ByteArray:=if x.kind=5 then bd++[x.idx]else bd
theorem G6(x:It)(d:Nat)(bd:List ByteArray)(s:σ):wk step x d bd s=if(step s x d bd).1=0 then(if(wks step x.items (dep x d) (bnd x bd) (step s x d bd).2).1=0 then wks step x.els (dep x d) bd (wks step x.items (dep x d) (bnd x bd) (step s x d bd).2).2 else wks step x.items (dep x d) (bnd x bd) (step s x d bd).2)else step s x d bd:=by
 cases x;rw[wk];rfl
end
def wkE(f:It->Nat->List ByteArray->Int)(l:List It)(d:Nat)(bd:List ByteArray):Int:=(wks (fun(_:Unit) x d bd=>(f x d bd,())) l d bd ()).1
theorem xC(f:It->Nat->List ByteArray->Int)(d:Nat)(bd:List ByteArray):wkE f [] d bd=0:=rfl
theorem D2(f:It->Nat->List ByteArray->Int)(x:It)(r:List It)(d:Nat)(bd:List ByteArray):wkE f (x::r) d bd=
 if f x d bd=0 then(if wkE f x.items (dep x d) (bnd x bd)=0 then(if wkE f x.els (dep x d) bd=0 then wkE f r d bd else wkE f x.els (dep x d) bd)else wkE f x.items (dep x d) (bnd x bd))else f x d bd:=by
 unfold wkE;rw[wks,G6];by_cases h1:f x d bd=0
 .rw[if_pos h1,if_pos h1];by_cases h2:(wks (fun(_:Unit) x d bd=>(f x d bd,())) x.items (dep x d) (bnd x bd) ()).1=0
  .rw[if_pos h2,if_pos h2];by_cases h3:(wks (fun(_:Unit) x d bd=>(f x d bd,())) x.els (dep x d) bd ()).1=0
   .rw[if_pos h3,if_pos h3]
   .rw[if_neg h3,if_neg h3]
  .rw[if_neg h2,if_neg h2,if_neg h2]
 .rw[if_neg h1,if_neg h1,if_neg h1]
def mJ(e:Ex):Bool:=decide (e.op=0)&&decide (e.num=0)&&decide (e.name=⟨#[]⟩)&&e.args.isEmpty
def dK(x:It):Bool:=
 (decide (x.kind=1\/x.kind=2\/x.kind=4)||mJ x.ex)&&(decide (x.kind=3\/x.kind=5)||decide (x.name=⟨#[]⟩))&&(decide (x.kind=5)||decide (x.idx=⟨#[]⟩)) &&
   (decide (x.kind=3)||x.ws.isEmpty)&&(decide (x.kind=4\/x.kind=5)||x.items.isEmpty)&&(decide (x.kind=4)||x.els.isEmpty)&&(decide (x.kind=6)||x.bef.isEmpty&&x.aft.isEmpty)
def wtB(w:Wt):Bool:=decide (0≤w.lo)&&decide (w.lo≤w.hi)&&decide (w.hi≤65535)&&decide (0≤w.w)&&decide (w.w≤1000)
def xj(x:It):Int:=if x.ws.length>16 then 2 else if x.ws=[]then 1 else if x.ws.all wtB=false then 1 else if db x.name=true then 0 else 7
def wx(x:It):Int:=if x.bef=[]\/x.aft=[]then 1 else if(x.bef++x.aft).all db=true then 0 else 7
def CZ(x:It):Int:=if cX x.name=true/\cX x.idx=true then 0 else 7
def df(x:It)(d:Nat):Int:=
 if ¬(1≤x.kind/\x.kind≤6)\/dK x=false\/4<d\/0<d/\(x.kind=3\/x.kind=6)then 1
 else if x.kind=3 then xj x else if x.kind=6 then wx x else if x.kind=5 then CZ x else bU x.ex
theorem vV{x:It}{d:Nat}(h:df x d=0):(1≤x.kind/\x.kind≤6)/\dK x=true/\d≤4:=by
 unfold df at h;split at h
 .cases h
 .rename_i hn;refine⟨Classical.byContradiction fun hh=>hn (.inl hh),?_,?_⟩
  .cases hp:dK x with
   | true=>rfl
   | false=>exact absurd (.inr (.inl hp)) hn
  .exact Classical.byContradiction fun hh=>hn (.inr (.inr (.inl (by omega))))
theorem vM{x:It}(h:dK x=true)(hk:¬(x.kind=4\/x.kind=5)):x.items=[]/\x.els=[]:=by
 unfold dK at h;simp only[Bool.and_eq_true,Bool.or_eq_true,decide_eq_true_eq,List.isEmpty_iff]at h;obtain⟨⟨⟨-,h1⟩,h2⟩,-⟩:=h;exact⟨h1.resolve_left hk,h2.resolve_left fun h=>hk (.inl h)⟩
mutual
def rvl:List It->Nat->Int
 | [],_=>0
 | x::r,d=>if rv1 x d=0 then rvl r d else rv1 x d
def rv1:It->Nat->Int
 | .mk k e nm ix ws l m bf af,d=>if df (.mk k e nm ix ws l m bf af) d=0 then(if rvl l (d+1)=0 then rvl m (d+1)else rvl l (d+1))else df (.mk k e nm ix ws l m bf af) d
end
theorem IK(x:It)(d:Nat):rv1 x d=if df x d=0 then(if rvl x.items (d+1)=0 then rvl x.els (d+1)else rvl x.items (d+1))else df x d:=by cases x;rw[rv1];rfl
def wG(x:It)(d:Nat)(_:List ByteArray):Int:=df x d
theorem wt:∀(l:List It) (d:Nat) (bd:List ByteArray),wkE wG l d bd=rvl l d:=by
 refine yk (fun d bd=>rfl) fun x r h1 h2 h3 d bd=>?_;rw[D2,rvl,IK];show(if df x d=0 then _ else df x d)=_;by_cases hs:df x d=0
 .rw[if_pos hs,if_pos hs];obtain⟨-,hp,-⟩:=vV hs;by_cases hk:x.kind=4\/x.kind=5
  .have hd:dep x d=d+1:=if_pos hk;rw[hd,h1,h2,h3];by_cases e1:rvl x.items (d+1)=0
   .rw[if_pos e1,if_pos e1]
   .rw[if_neg e1,if_neg e1,if_neg e1]
  .obtain⟨g1,g2⟩:=vM hp hk;rw[g1,g2,xC,if_pos rfl,xC,if_pos rfl,h3,rvl,if_pos rfl,if_pos rfl]
 .rw[if_neg hs,if_neg hs,if_neg hs]
def iM(l:List It):Int:=if 64<dV l then 2 else rvl l 0
section
variable (spl : ByteArray -> Option (ByteArray × Int)) (fs : List (ByteArray × Int))
end
end Go.Proofs.YtnhphlmblenapaaGreatDoor
namespace Go.Proofs.YtnhphlmblenapaaGreatDoor
open Go.RowKit
section
variable (fs : List (ByteArray × Int))
end
end Go.Proofs.YtnhphlmblenapaaGreatDoor
namespace Go.Proofs.YtnhphlmblenapaaGreatDoor
open Go.RowKit
abbrev dbl(b:Bool):D:=.lit (.bool b)
def dwt(w:Wt):List D:=[aa w.lo,aa w.hi,aa w.w,dbl w.each]
mutual
def dit:It->List D
 | .mk k e nm ix ws l m bf af=>[aa k,aa e.op,aa e.num,ae e.name,.sl (e.args.map dex),ae nm,ae ix,.sl (ws.map dwt),.sl (ED l),.sl (ED m),.sl (bf.map fun s=>[ae s]),.sl (af.map fun s=>[ae s])]
def ED:List It->LLD
 | []=>[]
 | a::r=>dit a::ED r
end
theorem Bv(l:List It):ED l=l.map dit:=by
 induction l with
 | nil=>rfl
 | cons a r ih=>simp only[ED,ih,List.map_cons]
theorem eV(x:It):dit x=[aa x.kind,aa x.ex.op,aa x.ex.num,ae x.ex.name,.sl (x.ex.args.map dex),ae x.name,ae x.idx,.sl (x.ws.map dwt),.sl (x.items.map dit),.sl (x.els.map dit),.sl (x.bef.map fun s=>[ae s]),.sl (x.aft.map fun s=>[ae s])]:=by
 cases x;simp only[dit,Bv,It.kind,It.ex,It.name,It.idx,It.ws,It.items,It.els,It.bef,It.aft]
def vit(x:It):V:=.agg ((dit x).map V.d)
theorem bw(x:It):vit x=.agg [.d (aa x.kind),.d (aa x.ex.op),.d (aa x.ex.num),.d (ae x.ex.name),.d (.sl (x.ex.args.map dex)),.d (ae x.name),.d (ae x.idx),.d (.sl (x.ws.map dwt)),.d (.sl (x.items.map dit)),.d (.sl (x.els.map dit)),.d (.sl (x.bef.map fun s=>[ae s])),.d (.sl (x.aft.map fun s=>[ae s]))]:=by
 unfold vit;rw[eV];rfl
abbrev cT(l:List It):D:=.sl (l.map dit)
mutual
def gq:It->Nat
 | .mk _ e _ _ ws l m bf af=>1+bN e+ws.length+bf.length+af.length+bi l+bi m
def bi:List It->Nat
 | []=>0
 | a::r=>gq a+bi r
end
theorem fU(x:It):gq x=1+bN x.ex+x.ws.length+x.bef.length+x.aft.length+bi x.items+bi x.els:=by cases x;rfl
theorem gz{l:List It}{a:It}(h:a∈l):gq a≤bi l:=by
 induction l with
 | nil=>cases h
 | cons b r ih=>
  rw[bi];rcases List.mem_cons.1 h with rfl|h
  .omega
  .have:=ih h;omega
theorem nf(l:List It):l.length≤bi l:=by
 induction l with
 | nil=>exact Pn _
 | cons b r ih=>rw[bi,Pm,fU];omega
theorem FM:∀l:List It,dV l≤bi l:=by
 refine yk (Pn _) fun x r h1 h2 h3=>?_;rw[dV,bi,pG,fU];omega
abbrev zw(d:Nat)(bd:List ByteArray):V:=.agg [.d (aa d),.d (.sl (bd.map fun s=>[ae s]))]
end Go.Proofs.YtnhphlmblenapaaGreatDoor
namespace Go.Proofs.YtnhphlmblenapaaGreatDoor
open Go.RowKit Go.Shelf
theorem ul{w:World}{base T k n:Nat}{v:Value}{xs:List Value}(h:w.ownsRow base T k v n xs):w.ownsRow 0 T k v n xs:=
 ⟨h.1,h.2.imp id fun⟨g,cap,cur,a,b,c⟩=>⟨g,cap,cur,a,Nat.zero_le _,c⟩⟩
theorem EW:∃i0,Tryz.prog.info? 9=some i0/\i0.zero=some (.string ⟨#[]⟩)/\i0.size=1/\i0.bytes=16:=by
 have h:(Tryz.prog.info? 9).map (fun i=>(i.zero,i.size,i.bytes))=some (some (.string ⟨#[]⟩),1,16):=by kernel_rfl
 cases hi:Tryz.prog.info? 9 with
 | none=>rw[hi]at h;cases h
 | some i0=>rw[hi]at h;simp only[Option.map_some,Option.some.injEq,Prod.mk.injEq]at h;exact⟨i0,rfl,h.1,h.2.1,h.2.2⟩
theorem Ai(l:List ByteArray)(hl:l.length≤1200000)(v:Value)(w:World)(hv:ez w l v):Calls Tryz.prog 123 #[v] w (rR l w):=by
 obtain⟨p,cap,rfl,h1,h2,h3⟩:=hv
 have fin:∀e w',(∃v',e=Ending.returned v'/\w'.ownsRow w.heap.size 9 1 v' l.length (l.map Value.string)/\v'≠.slice none 0 0/\Below w.heap.size w w')->rR l w e w':=fun e w' ⟨v',g1,g2,_,g4⟩=>
  ⟨v',g1,ul g2,(fun k hk=>(g2.lt k hk).1),g4⟩
 cases p with
 | none=>
  have hl0:l=[]:=by
   cases l with
   | nil=>rfl
   | cons a r=>obtain⟨b,off,e,-⟩:=h3 0 a rfl;cases e
  subst hl0;refine(AnyE.slices_Clone_nil (ρ:=Tryz.cloneSA_ren) Tryz.cloneSA 0 cap w).mono fun e w' ⟨g1,g2⟩=>?_;subst g2;exact⟨_,g1,⟨rfl,.inl ⟨rfl,rfl⟩⟩,(fun k hk=>by cases hk),Ext.refl _⟩
 | some a=>
  by_cases hl0:l=[]
  .subst hl0;exact(AnyG.slices_Clone_string_zero (ρ:=Tryz.cloneZA_ren) Tryz.cloneZA a cap w).mono fin
  .obtain⟨x,r,rfl⟩:=List.exists_cons_of_ne_nil hl0;obtain⟨b,off,e,-⟩:=h3 0 x rfl;cases e;obtain⟨i0,hi,z0,z1,z2⟩:=EW;refine(AnyE.slices_Clone (ρ:=Tryz.cloneSA_ren) Tryz.cloneSA i0 _ 1 16 hi z0 z1 z2 rfl (by decide) (fun w=>Tryz.sizeOf9 w) b off (x::r).length cap ((x::r).map Value.string) w (by simp) (by unfold maxLen;omega) (by omega) (fun j u hu=>?_) (fun u hu=>?_)).mono fin
   .rw[List.getElem?_map]at hu;obtain⟨s,hs,rfl⟩:=Option.map_eq_some_iff.1 hu;obtain⟨b',off',e,hc⟩:=h3 j s hs;cases e;exact hc
   .obtain⟨s,-,rfl⟩:=List.mem_map.1 hu;rfl
theorem AC{M:ao}{bm:List Nat}{l:List ByteArray}{v:Value}(h:Rep M bm (.d (dB l)) v):∀s,s∈l->s.size≤maxLen:=by
 intro s hs;cases h with
 | d h=>
 unfold dB at h;generalize hr:(l.map fun s=>[ae s])=rows at h;cases h with
 | sl _ k p cap val hk hd hf hc hm=>
 obtain⟨i,hi,rfl⟩:=List.getElem_of_mem hs;have hir:i<rows.length:=by rw[<-hr];simpa using hi
 have e:rows[i]=[ae l[i]]:=by subst hr;simp
 have:=hd i 0 hir (by rw[e];simp);simp only[e,Pl,ae]at this;generalize val i 0=u at this;cases this with|lit _ hf=>exact hf
theorem rE(l:List ByteArray)(hl:l.length≤1200000)(σ:LLV):Fun G 123 [.d (dB l)] σ (aO (.own 9 1 (l.map fun s=>[ae s])) σ):=
 lW Tryz.func123 (by kernel_rfl) (by kernel_rfl) fun M bm w vs hG hM hn hr=>match vs,hn with
  | [v],_=>by
   have h1:Rep M bm (.d (dB l)) v:=hr 0 (by simp) (by simp);exact⟨AC h1,Ai l hl v w (lk hM h1)⟩
end Go.Proofs.YtnhphlmblenapaaGreatDoor
namespace Go.Proofs.YtnhphlmblenapaaGreatDoor
open Go.RowKit
end Go.Proofs.YtnhphlmblenapaaGreatDoor
namespace Go.Proofs.YtnhphlmblenapaaGreatDoor
open Go.RowKit
theorem pz{P:List It->Prop}(h:∀l,(∀a,a∈l->P a.items/\P a.els)->P l):∀l,P l:=by
 have H:∀n l,dV l≤n->P l:=by
  intro n
  induction n with
  | zero=>
   intro l hl;refine h l fun a ha=>?_;have:=mA ha;have:=om a;omega
  | succ n ih=>
   intro l hl;refine h l fun a ha=>?_;have h1:=mA ha;have h2:=pG a;exact⟨ih _ (by omega),ih _ (by omega)⟩
 exact fun l=>H _ l (Pn _)
theorem DV(f:List It->Nat)(g:It->Nat)(h0:f []=0)(hc:∀a r,f (a::r)=g a+f r)(l:List It){j:Nat}(h:j<l.length):f (l.take (j+1))=f (l.take j)+g l[j]:=by
 induction l generalizing j with
 | nil=>simp at h
 | cons a r ih=>
  cases j with
  | zero=>simp only[Pj,List.take_zero,hc,h0,Pl];omega
  | succ j=>simp only[Pj,hc,List.getElem_cons_succ];rw[ih (by simpa using h)];omega
theorem AG(l:List It){j:Nat}(h:j<l.length):dV (l.take (j+1))=dV (l.take j)+isz l[j]:=DV dV isz rfl (fun _ _=>rfl) l h
theorem sP(l:List It)(j:Nat):dV (l.take j)≤dV l:=by
 induction l generalizing j with
 | nil=>simp
 | cons a r ih=>cases j with
  | zero=>simp[dV]
  | succ j=>rw[Pj,dV,dV];have:=ih j;omega
theorem A0:∀l:List It,dV l≤1200000->∀σ,Fun G 66 [.d (cT l)] σ (aO (.d (aa (dV l:Nat))) σ):=by
 refine pz fun l ih hs σ=>?_;refine al Tryz.func66 k66 rfl fun hb hw=>?_;unfold c66;have hln:=DC l;simp -dsimp only[aw,seval,Pi];refine aI [3,6,7,8] (fun(j:Nat) ρ σ'=>ρ=[(3,aC .i64 (dV (l.take j):Nat)),(6,.d (cT l)),(7,aC .i64 l.length),(8,aC .i64 j)]/\σ'=σ) l.length ⟨rfl,rfl⟩ ?_ _;rintro j ρ' σ' hj ⟨rfl,rfl⟩;by_cases hlt:j<l.length
 .have ht:=AG l hlt;have hle:=sP l (j+1);have he:=pG l[j];have w1:IntKind.i64.wrap (1+((dV l[j].items:Nat):Int))=((1+dV l[j].items:Nat):Int):=by rw[bI (by omega) (by omega)];omega
  have w2:IntKind.i64.wrap (((1+dV l[j].items:Nat):Int)+((dV l[j].els:Nat):Int))=((isz l[j]:Nat):Int):=by rw[bI (by omega) (by omega)];omega
  have w3:IntKind.i64.wrap (((dV (l.take j):Nat):Int)+((isz l[j]:Nat):Int))=((dV (l.take (j+1)):Nat):Int):=by rw[bI (by omega) (by omega)];omega
  obtain⟨i1,i2⟩:=ih _ (List.getElem_mem hlt);simp -dsimp only[aw,seval,Ph,hlt,decide_true,Pk hlt,eV l[j]];refine bp (i1 (by omega) _) ?_;simp -dsimp only[aw,seval];refine bp (i2 (by omega) _) ?_;simp -dsimp only[aw,seval,w1,w2,w3,aJ hlt (show l.length≤9223372036854775807 by omega)];exact⟨hlt,Nxt.drop (Pn _) hb rfl ⟨rfl,rfl⟩⟩
 .simp -dsimp only[aw,seval,Ph,hlt];rw[List.take_of_length_le (by omega)];exact av hb rfl rfl
theorem ey(s:ByteArray)(σ:LLV):Fun G 96 [.d (ae s)] σ (aO (.d (.lit (.bool (cX s)))) σ):=
 Dk Tryz.func96 (by kernel_rfl) (by kernel_rfl) trivial fun M bm w v hG hM hr=>by
  cases hr with
  | d hr=>cases hr with
   | lit _ hf=>exact fQ s w (by simpa[c7,maxLen]using hf) (oC hG hM)
theorem rv(s:ByteArray)(σ:LLV):Fun G 127 [.d (ae s)] σ (aO (ak (db s)) σ):=by
 refine al Tryz.func127 OU rfl fun hb hw=>?_;unfold c127
 have hv:(bU (.mk 2 0 s [])=0)=(db s=true):=by
  unfold bU
  have h1:gO (.mk 2 0 s [])=if db s=true then 0 else 7:=by
   rw[gO,ld];unfold bB;cases hv:db s<;>simp[hv,m5,iv,xM]
  rw[h1];cases hv:db s<;>simp[dS,dE,bN,bH]
 simp -dsimp only[aw,seval];refine aj (v:=.d (aa (bU (.mk 2 0 s [])))) (by have:=mF (.mk 2 0 s []) (by simp[bN,bH]) (by simp[dS,dE]) σ;simpa only[au,Ex.op,Ex.num,Ex.name,Ex.args,List.map_nil]using this) ?_;have hd:decide (bU (.mk 2 0 s [])=0)=db s:=by rw[Pa,decide_eq_true_eq,hv]
 simp -dsimp only[aw,seval,hd];exact av hb rfl rfl
theorem Ax(e:Ex)(hl:e.args.length≤1200000)(σ:LLV):Fun G 178 [vex e] σ (aO (ak (mJ e)) σ):=by
 refine al Tryz.func178 NA (by simp only[au];rfl) fun hb hw=>?_;unfold JU;have hlen:decide (((e.args.length:Nat):Int)=0)=e.args.isEmpty:=by cases e.args<;>simp;omega
 unfold mJ;simp -dsimp only[aw,seval,au,Pi,hlen];all_goals (repeat' (first|(refine cA (fun h1=>?_) (fun h1=>?_)<;>(simp -dsimp only[aw,seval,h1,Pi,hlen];try rw[h1]))))
 all_goals exact av hb rfl rfl
theorem nj{α:Type}(l:List α):decide (((l.length:Nat):Int)=0)=l.isEmpty:=by cases l<;>simp;omega
theorem v7{α β:Type}(l:List α)(m:List β):decide ((((l.length+m.length:Nat)):Int)=0)=(l.isEmpty&&m.isEmpty):=by cases l<;>cases m<;>simp<;>omega
abbrev N9(u:List Bool):V:=.agg (u.map ak)
def kN(k:Int):List Bool:=if k=1\/k=2 then[true,false,false,false,false,false,false]else if k=3 then[false,true,false,true,false,false,false]else if k=4 then[true,false,false,false,true,true,false]
 else if k=5 then[false,true,true,false,true,false,false]else[false,false,false,false,false,false,true]
theorem zl(x:It)(hbig:gq x≤1200000)(hk:1≤x.kind/\x.kind≤6)(σ:LLV):Fun G 125 [vit x,N9 (kN x.kind)] σ (aO (ak (dK x)) σ):=by
 have hb0:=fU x
 have h3:x.ex.args.length≤1200000:=by
  have h2:bH x.ex.args≤bN x.ex:=by cases x.ex;simp only[bN,Ex.args];omega
  have:=Iz x.ex.args;omega
 have w1:IntKind.i64.wrap (((x.bef.length:Nat):Int)+((x.aft.length:Nat):Int))=((x.bef.length+x.aft.length:Nat):Int):=by rw[bI (by omega) (by omega)];omega
 have e1:=nj x.ws;have e2:=nj x.items;have e3:=nj x.els;have e4:=v7 x.bef x.aft;have hk6:x.kind=1\/x.kind=2\/x.kind=3\/x.kind=4\/x.kind=5\/x.kind=6:=by omega
 refine al Tryz.func125 MZ (by simp only[bw];rfl) fun hb hw=>?_;unfold Ki;have hbl:=fun σ=>Ax x.ex h3 σ;simp only[au]at hbl;rcases hk6 with hk|hk|hk|hk|hk|hk
 .have hp:dK x=(decide (x.name=⟨#[]⟩)&&decide (x.idx=⟨#[]⟩)&&x.ws.isEmpty&&x.items.isEmpty&&x.els.isEmpty&&(x.bef.isEmpty&&x.aft.isEmpty)):=by unfold dK;simp[hk]
  have hu:kN x.kind=[true,false,false,false,false,false,false]:=by unfold kN;simp[hk]
  rw[hp,hu];simp -dsimp only[aw,seval,bw,Pi,e1,e2,e3,e4,w1];all_goals (repeat' (first|(refine cA (fun h1=>?_) (fun h1=>?_)<;>(simp -dsimp only[aw,seval,h1,Pi,e1,e2,e3,e4,w1];try rw[h1]))))
  all_goals exact av hb rfl rfl
 .have hp:dK x=(decide (x.name=⟨#[]⟩)&&decide (x.idx=⟨#[]⟩)&&x.ws.isEmpty&&x.items.isEmpty&&x.els.isEmpty&&(x.bef.isEmpty&&x.aft.isEmpty)):=by unfold dK;simp[hk]
  have hu:kN x.kind=[true,false,false,false,false,false,false]:=by unfold kN;simp[hk]
  rw[hp,hu];simp -dsimp only[aw,seval,bw,Pi,e1,e2,e3,e4,w1];all_goals (repeat' (first|(refine cA (fun h1=>?_) (fun h1=>?_)<;>(simp -dsimp only[aw,seval,h1,Pi,e1,e2,e3,e4,w1];try rw[h1]))))
  all_goals exact av hb rfl rfl
 .have hp:dK x=(mJ x.ex&&decide (x.idx=⟨#[]⟩)&&x.items.isEmpty&&x.els.isEmpty&&(x.bef.isEmpty&&x.aft.isEmpty)):=by unfold dK;simp[hk]
  have hu:kN x.kind=[false,true,false,true,false,false,false]:=by unfold kN;simp[hk]
  rw[hp,hu];simp -dsimp only[aw,seval,bw,Pi,e1,e2,e3,e4,w1];refine aj (hbl _) ?_;simp -dsimp only[aw,seval,bw,Pi,e1,e2,e3,e4,w1];all_goals (repeat' (first|(refine cA (fun h1=>?_) (fun h1=>?_)<;>(simp -dsimp only[aw,seval,h1,Pi,e1,e2,e3,e4,w1];try rw[h1]))))
  all_goals exact av hb rfl rfl
 .have hp:dK x=(decide (x.name=⟨#[]⟩)&&decide (x.idx=⟨#[]⟩)&&x.ws.isEmpty&&(x.bef.isEmpty&&x.aft.isEmpty)):=by unfold dK;simp[hk]
  have hu:kN x.kind=[true,false,false,false,true,true,false]:=by unfold kN;simp[hk]
  rw[hp,hu];simp -dsimp only[aw,seval,bw,Pi,e1,e2,e3,e4,w1];all_goals (repeat' (first|(refine cA (fun h1=>?_) (fun h1=>?_)<;>(simp -dsimp only[aw,seval,h1,Pi,e1,e2,e3,e4,w1];try rw[h1]))))
  all_goals exact av hb rfl rfl
 .have hp:dK x=(mJ x.ex&&x.ws.isEmpty&&x.els.isEmpty&&(x.bef.isEmpty&&x.aft.isEmpty)):=by unfold dK;simp[hk]
  have hu:kN x.kind=[false,true,true,false,true,false,false]:=by unfold kN;simp[hk]
  rw[hp,hu];simp -dsimp only[aw,seval,bw,Pi,e1,e2,e3,e4,w1];refine aj (hbl _) ?_;simp -dsimp only[aw,seval,bw,Pi,e1,e2,e3,e4,w1];all_goals (repeat' (first|(refine cA (fun h1=>?_) (fun h1=>?_)<;>(simp -dsimp only[aw,seval,h1,Pi,e1,e2,e3,e4,w1];try rw[h1]))))
  all_goals exact av hb rfl rfl
 .have hp:dK x=(mJ x.ex&&decide (x.name=⟨#[]⟩)&&decide (x.idx=⟨#[]⟩)&&x.ws.isEmpty&&x.items.isEmpty&&x.els.isEmpty):=by unfold dK;simp[hk]
  have hu:kN x.kind=[false,false,false,false,false,false,true]:=by unfold kN;simp[hk]
  rw[hp,hu];simp -dsimp only[aw,seval,bw,Pi,e1,e2,e3,e4,w1];refine aj (hbl _) ?_;simp -dsimp only[aw,seval,bw,Pi,e1,e2,e3,e4,w1];all_goals (repeat' (first|(refine cA (fun h1=>?_) (fun h1=>?_)<;>(simp -dsimp only[aw,seval,h1,Pi,e1,e2,e3,e4,w1];try rw[h1]))))
  all_goals exact av hb rfl rfl
def wE(ws:List Wt):Int:=if ws.length>16 then 2 else if ws=[]then 1 else if ws.all wtB=false then 1 else 0
theorem sY(ws:List Wt)(hl:ws.length≤1200000)(σ:LLV):Fun G 126 [.d (.sl (ws.map dwt))] σ (aO (.d (aa (wE ws))) σ):=by
 refine al Tryz.func126 Or rfl fun hb hw=>?_;unfold Lw wE;by_cases h1:ws.length>16
 .have h1':((16:Int)<((ws.length:Nat):Int)):=by omega
  rw[if_pos h1];simp -dsimp only[aw,seval,Pi,decide_eq_true h1'];exact av hb rfl rfl
 .have h1':¬((16:Int)<((ws.length:Nat):Int)):=by omega
  rw[if_neg h1];by_cases h2:ws=[]
  .rw[if_pos h2];subst h2;simp -dsimp only[aw,seval,Pi,Int.ofNat_zero,Int.reduceLT];exact av hb rfl rfl
  .rw[if_neg h2];have h2':¬(((ws.length:Nat):Int)=0):=by have:=List.length_pos_iff.2 h2;omega
   simp -dsimp only[aw,seval,Pi,decide_eq_false h1',decide_eq_false h2'];refine aI [13,14,15] (fun(j:Nat) ρ σ'=>ρ=[(13,.d (.sl (ws.map dwt))),(14,aC .i64 ws.length),(15,aC .i64 j)]/\σ'=σ/\ws.all wtB=(ws.drop j).all wtB) ws.length ⟨rfl,rfl,rfl⟩ ?_ _;rintro j ρ' σ' hj ⟨rfl,rfl,hr⟩;by_cases hlt:j<ws.length
   .rw[List.drop_eq_getElem_cons hlt,List.all_cons]at hr;have hd:dwt ws[j]=[aa ws[j].lo,aa ws[j].hi,aa ws[j].w,dbl ws[j].each]:=rfl;have hwt:wtB ws[j]=(!decide (ws[j].lo<0) && !decide (ws[j].hi<ws[j].lo) && !decide (65535<ws[j].hi) && !decide (ws[j].w<0) && !decide (1000<ws[j].w)):=by unfold wtB;rw[Pa];simp
    rw[hwt]at hr;simp -dsimp only[aw,seval,Ph,hlt,decide_true,Pk hlt,hd,aJ hlt (show ws.length≤9223372036854775807 by omega)];all_goals (repeat' (first|(refine cA (fun h1=>?_) (fun h1=>?_)<;>(simp -dsimp only[aw,seval,h1,aJ hlt (show ws.length≤9223372036854775807 by omega)];try rw[h1]))))
    all_goals first|exact aF hb rfl rfl List.take_left ⟨by rw[hr];simp only[*,Pg,Pb,Pe,Pd,Pf,if_true];rfl,rfl⟩|exact⟨hlt,Nxt.drop (Pn _) hb rfl ⟨rfl,rfl,by rw[hr];simp only[*,Pg,Pb,Pe,Pd,Pf]⟩⟩|(trace_state;fail)
   .simp -dsimp only[aw,seval,Ph,hlt];rw[List.drop_eq_nil_of_le (by omega)]at hr;rw[hr];exact av hb rfl rfl
end Go.Proofs.YtnhphlmblenapaaGreatDoor
