import Derived.Test.YtcbahpllcfbkmaaGreatDoorIt1
import Derived.Test.YtcbahpllcfbkmaaGreatDoorBr8
import Derived.Test.YtcbahpllcfbkmaaGreatDoorLib7
import Derived.Test.YtcbahpllcfbkmaaGreatDoorData
import Derived.Test.YtcbahpllcfbkmaaGreatDoorShelf
import Derived.Test.YtcbahpllcfbkmaaGreatDoorNames2
import Derived.Test.YtcbahpllcfbkmaaGreatDoorProg
import Derived.Test.YtcbahpllcfbkmaaGreatDoorA20
import Derived.KernelRfl
import Derived.Test.YtcbahpllcfbkmaaGreatDoorAdd
set_option linter.unusedVariables false
set_option linter.unusedSimpArgs false
set_option linter.unusedSectionVars false
namespace Go.Proofs.YtcbahpllcfbkmaaGreatDoor
open Go.RowKit
def ub:Ex:=.mk 0 0 ⟨#[]⟩ []
section
variable (fs : List (ByteArray × Int))
end
end Go.Proofs.YtcbahpllcfbkmaaGreatDoor
namespace Go.Proofs.YtcbahpllcfbkmaaGreatDoor
open Go.RowKit
abbrev dbl(b:Bool):D:=.lit (.bool b)
def dwt(w:Wt):List D:=[az w.lo,az w.hi,az w.w,dbl w.each]
mutual
def dit:It→List D
 | .mk k e nm ix ws l m bf af=>[az k,az e.op,az e.num,an e.name,.sl (e.args.map dex),an nm,an ix,.sl (ws.map dwt),.sl (A9 l),.sl (A9 m),.sl (bf.map fun s=>[an s]),.sl (af.map fun s=>[an s])]
def A9:List It→List (List D)
 | []=>[]
 | a::r=>dit a::A9 r
end
theorem zg(l:List It):A9 l=l.map dit:=by
 induction l with
 | nil=>rfl
 | cons a r ih=>simp only[A9,ih,List.map_cons]
theorem fk(x:It):dit x=[az x.kind,az x.ex.op,az x.ex.num,an x.ex.name,.sl (x.ex.args.map dex),an x.name,an x.idx,.sl (x.ws.map dwt),.sl (x.items.map dit),.sl (x.els.map dit),.sl (x.bef.map fun s=>[an s]),.sl (x.aft.map fun s=>[an s])]:=by
 cases x;simp only[dit,zg,It.kind,It.ex,It.name,It.idx,It.ws,It.items,It.els,It.bef,It.aft]
def vit(x:It):V:=.agg ((dit x).map V.d)
theorem aV(x:It):vit x=.agg [.d (az x.kind),.d (az x.ex.op),.d (az x.ex.num),.d (an x.ex.name),.d (.sl (x.ex.args.map dex)),.d (an x.name),.d (an x.idx),.d (.sl (x.ws.map dwt)),.d (.sl (x.items.map dit)),.d (.sl (x.els.map dit)),.d (.sl (x.bef.map fun s=>[an s])),.d (.sl (x.aft.map fun s=>[an s]))]:=by
 unfold vit;rw[fk];rfl
theorem qc(x:It):(dit x).length=12:=by rw[fk];rfl
abbrev fr(l:List It):D:=.sl (l.map dit)
mutual
def fY:It→Nat
 | .mk _ e _ _ ws l m bf af=>1+ba e+ws.length+bf.length+af.length+bN l+bN m
def bN:List It→Nat
 | []=>0
 | a::r=>fY a+bN r
end
theorem cA(x:It):fY x=1+ba x.ex+x.ws.length+x.bef.length+x.aft.length+bN x.items+bN x.els:=by cases x;rfl
theorem d6{l:List It}{a:It}(h:a∈l):fY a≤bN l:=by
 induction l with
 | nil=>cases h
 | cons b r ih=>
  rw[bN];rcases List.mem_cons.1 h with rfl|h
  ·omega
  ·have:=ih h;omega
theorem gO(l:List It):l.length≤bN l:=by
 induction l with
 | nil=>exact Nat.le_refl _
 | cons b r ih=>rw[bN,List.length_cons,cA];omega
theorem uk:∀l:List It,cm l≤bN l:=by
 refine kw (Nat.le_refl _) fun x r h1 h2 h3=>?_;rw[cm,bN,nu,cA];omega
abbrev wZ(d:Nat)(bd:List ByteArray):V:=.agg [.d (az d),.d (.sl (bd.map fun s=>[an s]))]
end Go.Proofs.YtcbahpllcfbkmaaGreatDoor
namespace Go.Proofs.YtcbahpllcfbkmaaGreatDoor
open Go.RowKit Go.Shelf
theorem qH{w:World}{base T k n:Nat}{v:Value}{xs:List Value}(h:w.ownsRow base T k v n xs):w.ownsRow 0 T k v n xs:=
 ⟨h.1,h.2.imp id fun⟨g,cap,cur,a,b,c⟩=>⟨g,cap,cur,a,Nat.zero_le _,c⟩⟩
theorem BS:∃i0,Tryz.prog.info? 9=some i0∧i0.zero=some (.string ⟨#[]⟩)∧i0.size=1∧i0.bytes=16:=by
 have h:(Tryz.prog.info? 9).map (fun i=>(i.zero,i.size,i.bytes))=some (some (.string ⟨#[]⟩),1,16):=by kernel_rfl
 cases hi:Tryz.prog.info? 9 with
 | none=>rw[hi]at h;cases h
 | some i0=>rw[hi]at h;simp only[Option.map_some,Option.some.injEq,Prod.mk.injEq]at h;exact⟨i0,rfl,h.1,h.2.1,h.2.2⟩
theorem xr(l:List ByteArray)(hl:l.length≤1200000)(v:Value)(w:World)(hv:cG w l v):Calls Tryz.prog 83 #[v] w (qj l w):=by
 obtain⟨p,cap,rfl,h1,h2,h3⟩:=hv
 have fin:∀e w',(∃v',e=Ending.returned v'∧w'.ownsRow w.heap.size 9 1 v' l.length (l.map Value.string)∧v'≠.slice none 0 0∧Below w.heap.size w w')→qj l w e w':=fun e w' ⟨v',g1,g2,_,g4⟩=>
  ⟨v',g1,qH g2,(fun k hk=>(g2.lt k hk).1),g4⟩
 cases p with
 | none=>
  have hl0:l=[]:=by
   cases l with
   | nil=>rfl
   | cons a r=>obtain⟨b,off,e,-⟩:=h3 0 a rfl;cases e
  subst hl0;refine(AnyE.slices_Clone_nil (ρ:=Tryz.cloneSA_ren) Tryz.cloneSA 0 cap w).mono fun e w' ⟨g1,g2⟩=>?_;subst g2;exact⟨_,g1,⟨rfl,.inl ⟨rfl,rfl⟩⟩,(fun k hk=>by cases hk),Ext.refl _⟩
 | some a=>
  by_cases hl0:l=[]
  ·subst hl0;exact(AnyG.slices_Clone_string_zero (ρ:=Tryz.cloneZA_ren) Tryz.cloneZA a cap w).mono fin
  ·obtain⟨x,r,rfl⟩:=List.exists_cons_of_ne_nil hl0;obtain⟨b,off,e,-⟩:=h3 0 x rfl;cases e;obtain⟨i0,hi,z0,z1,z2⟩:=BS;refine(AnyE.slices_Clone (ρ:=Tryz.cloneSA_ren) Tryz.cloneSA i0 _ 1 16 hi z0 z1 z2 rfl (by decide) (fun w=>Tryz.sizeOf9 w) b off (x::r).length cap ((x::r).map Value.string) w (by simp) (by unfold maxLen;omega) (by omega) (fun j u hu=>?_) (fun u hu=>?_)).mono fin
   ·rw[List.getElem?_map]at hu;obtain⟨s,hs,rfl⟩:=Option.map_eq_some_iff.1 hu;obtain⟨b',off',e,hc⟩:=h3 j s hs;cases e;exact hc
   ·obtain⟨s,-,rfl⟩:=List.mem_map.1 hu;rfl
theorem xa{M:av}{bm:List Nat}{l:List ByteArray}{v:Value}(h:Rep M bm (.d (cT l)) v):∀s,s∈l→s.size≤maxLen:=by
 intro s hs;cases h with
 | d h=>
 unfold cT at h;generalize hr:(l.map fun s=>[an s])=rows at h;cases h with
 | sl _ k p cap val hk hd hf hc hm=>
 obtain⟨i,hi,rfl⟩:=List.getElem_of_mem hs;have hir:i<rows.length:=by rw[←hr];simpa using hi
 have e:rows[i]=[an l[i]]:=by subst hr;simp
 have:=hd i 0 hir (by rw[e];simp);simp only[e,List.getElem_cons_zero,an]at this;generalize val i 0=u at this;cases this with|lit _ hf=>exact hf
theorem wA(l:List ByteArray)(hl:l.length≤1200000)(σ:List (List V)):Fun G 83 [.d (cT l)] σ (aZ (.own 9 1 (l.map fun s=>[an s])) σ):=
 kW Tryz.func83 (by kernel_rfl) (by kernel_rfl) fun M bm w vs hG hM hn hr=>match vs,hn with
  | [v],_=>by
   have h1:Rep M bm (.d (cT l)) v:=hr 0 (by simp) (by simp);exact⟨xa h1,xr l hl v w (jX hM h1)⟩
end Go.Proofs.YtcbahpllcfbkmaaGreatDoor
namespace Go.Proofs.YtcbahpllcfbkmaaGreatDoor
open Go.RowKit
set_option maxRecDepth 100000
def c40:Cd:=sq [oI 2 0] [0] (sq [oV 5 0,ZN 6 5,oV 3 6] [0,3] (.seq (sq [oI 4 0] [0,3,4] (.block 0 (.loop (.seq (sq [oV 7 4,oV 8 0,ZN 9 8,Yl 10 7 9] [0,3,4,10] (.cond (.t 10) .skip (.exit 0))) (.seq (.block 1 (.draw [oV 13 3,oV 14 0,oV 15 4,ZI 16 12 14 15,ZF 17 8 16,ZL 18 1 17,ZC 19 40 18,Ya 20 13 19,oV 21 0,oV 22 4,ZI 23 12 21 22,ZF 24 9 23,ZL 25 1 24,ZC 26 40 25,Ya 27 20 26,oV 3 27] [0,3,
 4])) (.ops [oV 11 4,Wa 12 11 1,oV 4 12] [0,3,4])))))) (sq [oV 28 3,oV 2 28] [2] .ret)))
def H1:List RV:=[.t 2 false]
theorem k40:bj G.tab Tryz.f40 1 c40 H1=true:=by kernel_rfl
def c20:Cd:=sq [oI 2 0] [0] (.seq (sq [oV 3 0,ZC 4 40 3,Wg 5 4 64] [0,5] (.cond (.t 5) (sq [oI 2 2] [2] .ret) (.skip))) (sq [oV 6 0,oM 7 (.call 41 [.t 6,.k (.d (.lit (.int .i64 0)))]),oV 2 7] [2] .ret))
def Hx:List RV:=[.t 2 false]
theorem k20:bj G.tab Tryz.f20 1 c20 Hx=true:=by kernel_rfl
def Gl:Cd:=sq [oM 2 (.mv kF)] [0] (sq [oV 3 0,We 4 3 1,oV 5 4,oH 6 5 (.mv (.t 0)),oH 7 5 (we 6 2),ZP 8 5 7,oV 9 8,oH 10 9 (.mv (.t 0)),oH 11 9 (we 10 4),ZP 12 9 11,oV 2 12] [2] .ret)
def GE:List RV:=[.t 2 false]
theorem Ik:bj G.tab Tryz.f127 1 Gl GE=true:=by kernel_rfl
def c41:Cd:=sq [oI 4 0] [0,1] (.seq (sq [oI 5 0] [0,1,5] (.block 0 (.loop (.seq (sq [oV 9 5,oV 10 0,ZN 11 10,Yl 12 9 11] [0,1,5,12] (.cond (.t 12) .skip (.exit 0))) (.seq (.block 1 (.seq (sq [oV 15 0,oV 16 5,ZI 17 12 15 16,ZM 18 12 17,oV 19 1,ZD 20 60 18 19,oV 6 20] [0,1,5,6] (sq [oV 21 6,Wn 22 21 0] [0,1,5,6,22] (.cond (.t 22) (sq [oV 23 6,oV 4 23] [4] .ret) .skip))) (.seq (sq [oV 24 0,oV 25 5,
 ZI 26 12 24 25,ZF 27 8 26,ZL 28 1 27,oV 29 1,Wa 30 29 1,ZD 31 41 28 30,oV 7 31] [0,1,5,7] (sq [oV 32 7,Wn 33 32 0] [0,1,5,7,33] (.cond (.t 33) (sq [oV 34 7,oV 4 34] [4] .ret) .skip))) (sq [oV 35 0,oV 36 5,ZI 37 12 35 36,ZF 38 9 37,ZL 39 1 38,oV 40 1,Wa 41 40 1,ZD 42 41 39 41,oV 8 42] [0,1,5,8] (sq [oV 43 8,Wn 44 43 0] [0,1,5,8,44] (.cond (.t 44) (sq [oV 45 8,
 oV 4 45] [4] .ret) .skip)))))) (.ops [oV 13 5,Wa 14 13 1,oV 5 14] [0,1,5])))))) (sq [oI 4 0] [4] .ret))
def IJ:List RV:=[.t 4 false]
theorem k41:bj G.tab Tryz.f41 2 c41 IJ=true:=by kernel_rfl
def c60:Cd:=sq [ZB 2 53 0,oI 4 0] [1,2] (.seq (sq [ZF 5 0 2,ZL 6 1 5,Wl 7 6 1,oV 8 7,oH 9 8 (zF 0 2),oH 10 8 (zL 1 9),oH 11 8 (wg 10 6),ZP 12 8 11,oV 13 12,oH 14 13 (zM 12 2),oH 15 13 (zC 96 14),oH 16 13 (zU 15),ZP 17 13 16,oV 18 17,oH 19 18 (.mv (.t 1)),oH 20 18 (wg 19 4),ZP 21 18 20,oV 22 21,oH 23 22 (.mv (.t 1)),oH 24 22 (wg 23 0),oH 25 22 (.mv (.t 24)),oG 26 25 (zF 0 2),oG 27 25 (zL 1 26),
 oG 28 25 (we 27 3),oG 29 25 (.mv (.t 28)),oH 30 29 (zF 0 2),oH 31 29 (zL 1 30),oH 32 29 (we 31 6),oG 33 25 (zP 29 32),oH 34 22 (zQ 25 33),ZP 35 22 34] [2,35] (.cond (.t 35) (sq [oI 4 1] [4] .ret) .skip)) (.seq (sq [ZF 36 0 2,ZL 37 1 36] [2,37] (.block 0 (sq [We 39 37 3,oV 38 39] [2,37,38] (.cond (.t 38) (sq [ZM 40 12 2,ZC 41 97 40,oV 4 41] [4] .ret) (sq [We 43 37 6,oV 42 43] [2,37,
 42] (.cond (.t 42) (.seq (sq [ZF 44 10 2,ZL 45 1 44,ZN 46 45,We 47 46 0,oV 48 47,oH 49 48 (zF 11 2),oH 50 48 (zL 1 49),oH 51 48 (zN 50),oH 52 48 (we 51 0),ZP 53 48 52] [2,53] (.cond (.t 53) (sq [oI 4 1] [4] .ret) .skip)) (.seq (sq [ZF 54 10 2,ZL 55 1 54,ZC 56 98 55,ZU 57 56,oV 58 57,oH 59 58 (zF 11 2),oH 60 58 (zL 1 59),oH 61 58 (zC 98 60),oH 62 58 (zU 61),
 ZP 63 58 62] [63] (.cond (.t 63) (sq [oI 4 7] [4] .ret) .skip)) (sq [oI 4 0] [4] .ret))) (sq [We 65 37 5,oV 64 65] [2,64] (.cond (.t 64) (.seq (sq [ZF 66 5 2,ZL 67 1 66,ZC 68 51 67,ZU 69 68,oV 70 69,oH 71 70 (zF 6 2),oH 72 70 (zL 1 71),oH 73 70 (zC 51 72),oH 74 70 (zU 73),ZP 75 70 74] [75] (.cond (.t 75) (sq [oI 4 7] [4] .ret) (.skip))) (sq [oI 4 0] [4] .ret)) .skip)))))))) (sq [ZF 76 1 2,
 ZM 77 4 76,ZC 78 99 77,oV 4 78] [4] .ret)))
def Iv:List RV:=[.t 4 false]
theorem k60:bj G.tab Tryz.f60 2 c60 Iv=true:=by kernel_rfl
def c96:Cd:=sq [ZB 1 53 0,oM 2 (.mv kF)] [1] (.seq (sq [ZF 3 0 1,ZL 4 1 3,ZC 5 127 4,ZU 6 5,oV 7 6,oG 8 7 (zF 1 1),oG 9 7 (zM 4 8),⟨some 10,.bld zz4 [],(some (7,true))⟩,oG 11 7 (zD 81 9 10),oG 12 7 (zU 11),ZQ 13 7 12,oV 14 13,oH 15 14 (zF 0 1),oH 16 14 (zL 1 15),oH 17 14 (wn 16 3),oH 18 14 (.mv (.t 17)),oG 19 18 (zF 7 1),oG 20 18 (zL 1 19),oG 21 18 (zN 20),oG 22 18 (wg 21 0),
 oG 23 18 (.mv (.t 22)),oH 24 23 (zF 0 1),oH 25 23 (zL 1 24),oH 26 23 (wn 25 5),oH 27 23 (.mv (.t 26)),oG 28 27 (zF 5 1),oG 29 27 (zL 1 28),oG 30 27 (.bin .neq (.t 29) (kS ⟨#[]⟩)),oH 31 23 (zQ 27 30),oG 32 18 (zP 23 31),oH 33 14 (zQ 18 32),ZP 34 14 33] [1,34] (.cond (.t 34) (sq [oM 2 (.mv kF)] [2] .ret) .skip)) (.seq (sq [ZF 35 0 1,ZL 36 1 35,Wn 37 36 5,oV 38 37,oG 39 38 (zF 6 1),
 oG 40 38 (zL 1 39),oG 41 38 (.bin .neq (.t 40) (kS ⟨#[]⟩)),oG 42 38 (.mv (.t 41)),oH 43 42 (zF 0 1),oH 44 42 (zL 1 43),oH 45 42 (wn 44 4),oH 46 42 (.mv (.t 45)),oG 47 46 (zF 8 1),oG 48 46 (zL 1 47),oG 49 46 (zN 48),oG 50 46 (wg 49 0),oH 51 42 (zQ 46 50),oG 52 38 (zP 42 51),ZQ 53 38 52,oV 54 53,oH 55 54 (zF 0 1),oH 56 54 (zL 1 55),oH 57 54 (wn 56 4),oH 58 54 (.mv (.t 57)),oG 59 58 (zF 9 1),
 oG 60 58 (zL 1 59),oG 61 58 (zN 60),oG 62 58 (wg 61 0),oH 63 54 (zQ 58 62),ZP 64 54 63] [1,64] (.cond (.t 64) (sq [oM 2 (.mv kF)] [2] (.ret)) .skip)) (sq [ZF 65 0 1,ZL 66 1 65,We 67 66 6,oV 68 67,oH 69 68 (zF 10 1),oH 70 68 (zL 1 69),oH 71 68 (zN 70),oH 72 68 (we 71 0),oH 73 68 (.mv (.t 72)),oG 74 73 (zF 11 1),oG 75 73 (zL 1 74),oG 76 73 (zN 75),oG 77 73 (we 76 0),oH 78 68 (zQ 73 77),ZP 79 68 78,
 oV 2 79] [2] (.ret))))
def Hh:List RV:=[.t 2 false]
theorem k96:bj G.tab Tryz.f96 1 c96 Hh=true:=by kernel_rfl
def c97:Cd:=sq [ZB 1 53 0,oI 2 0] [1] (.seq (sq [ZF 5 7 1,ZL 6 1 5,ZN 7 6,Wg 8 7 16] [1,8] (.cond (.t 8) (sq [oI 2 2] [2] .ret) .skip)) (.seq (sq [ZF 9 7 1,ZL 10 1 9,ZN 11 10,We 12 11 0] [1,12] (.cond (.t 12) (sq [oI 2 1] [2] .ret) .skip)) (.seq (sq [oI 3 0] [1,3] (.block 0 (.loop (.seq (sq [oV 13 3,ZF 14 7 1,ZL 15 1 14,ZN 16 15,Yl 17 13 16] [1,3,
 17] (.cond (.t 17) .skip (.exit 0))) (.seq (.block 1 (sq [ZF 20 7 1,ZL 21 1 20,oV 22 3,ZI 23 4 21 22,ZM 24 4 23,oM 4 (.new 45 zz3),oS 4 4 24] [1,3,4] (sq [ZF 25 0 4,ZL 26 1 25,Wl 27 26 0,oV 28 27,oH 29 28 (zF 0 4),oH 30 28 (zL 1 29),oH 31 28 (zF 1 4),oH 32 28 (zL 1 31),oH 33 28 (yg 30 32),ZP 34 28 33,oV 35 34,oH 36 35 (zF 1 4),oH 37 35 (zL 1 36),oH 38 35 (wg 37 65535),ZP 39 35 38,oV 40 39,
 oH 41 40 (zF 2 4),oH 42 40 (zL 1 41),oH 43 40 (wl 42 0),ZP 44 40 43,oV 45 44,oH 46 45 (zF 2 4),oH 47 45 (zL 1 46),oH 48 45 (wg 47 1000),ZP 49 45 48] [1,3,49] (.cond (.t 49) (sq [oI 2 1] [2] .ret) .skip)))) (.ops [oV 18 3,Wa 19 18 1,oV 3 19] [1,3])))))) (.seq (sq [ZF 50 5 1,ZL 51 1 50,ZC 52 128 51,ZU 53 52] [53] (.cond (.t 53) (sq [oI 2 7] [2] .ret) .skip)) (sq [oI 2 0] [2] .ret)))))
def Ig:List RV:=[.t 2 false]
theorem k97:bj G.tab Tryz.f97 1 c97 Ig=true:=by kernel_rfl
def c98:Cd:=sq [oM 2 (.mv kF)] [0] (.seq (sq [oI 3 0] [0,3] (.block 0 (.loop (.seq (sq [oV 4 3,oV 5 0,ZN 6 5,Yl 7 4 6] [0,3,7] (.cond (.t 7) .skip (.exit 0))) (.seq (.block 1 (sq [oV 10 0,oV 11 3,ZI 12 1 10 11,ZL 13 1 12,ZC 14 128 13,ZU 15 14] [0,3,15] (.cond (.t 15) (sq [oM 2 (.mv kF)] [2] .ret) .skip))) (.ops [oV 8 3,Wa 9 8 1,oV 3 9] [0,3])))))) (sq [oM 2 (.mv kT)] [2] .ret))
def G5:List RV:=[.t 2 false]
theorem k98:bj G.tab Tryz.f98 1 c98 G5=true:=by kernel_rfl
end Go.Proofs.YtcbahpllcfbkmaaGreatDoor
