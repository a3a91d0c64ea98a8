import Derived.Lib.AppendStr
import Derived.Test.YtnhphlmblenapaaGreatDoorK
set_option linter.unusedVariables false
set_option linter.unusedSimpArgs false
set_option linter.unusedSectionVars false
set_option maxRecDepth 100000
open Array renaming getElem?_modify->TU
open List renaming eq_nil_of_length_eq_zero->TV,getElem_cons_zero->TW,mem_of_getElem?->TX,getElem?_eq_getElem->TY,getElem_map->TZ,length_map->T0,getElem_cons_succ->T3,getElem?_set_self->T4,getElem?_set_ne->T5
open Nat renaming lt_of_lt_of_le->T6,mul_one->T7,zero_add->T8,add_zero->T9
namespace Go.Proofs.YtnhphlmblenapaaGreatDoor
open Go.RowKit
def c66:Cd:=sq [oI 2 0] [0] (sq [oI 3 0] [0,3] (.seq (sq [oV 6 0,ZN 7 6,oI 8 0] [3,6,7,8] (.block 0 (.loop (.seq (.ops [Yl 9 8 7] [3,6,7,8,9]) (.seq (.cond (.t 9) .skip (.exit 0)) (.seq (.block 1 (sq [ZI 10 12 6 8,ZM 11 12 10,oM 5 (.new 54 zz0),oS 12 5 11] [3,5,6,7,8] (.draw [oV 12 3,ZF 13 8 5,ZL 14 1 13,ZC 15 66 14,oM 16 (.bin .add (kI 1) (.t 15)),ZF 17 9 5,ZL 18 1 17,ZC 19 66 18,Ya 20 16 19,
 Ya 21 12 20,oV 3 21] [3,6,7,8]))) (.ops [Wa 22 8 1,oV 8 22] [3,6,7,8]))))))) (sq [oV 23 3,oV 2 23] [2] .ret)))
def Tg:List RV:=[.t 2 false]
theorem k66:aG G.tab Tryz.f66 1 c66 Tg=true:=by kernel_rfl
def c27:Cd:=sq [oI 2 0] [0] (.seq (sq [oV 3 0,ZC 4 66 3,Wg 5 4 64] [0,5] (.cond (.t 5) (sq [oI 2 2] [2] .ret) (.skip))) (sq [oV 6 0,oM 7 (.bld JV []),oM 8 (.call 67 [.t 6,.t 7,.k (.fn 68 [])]),oV 2 8] [2] .ret))
def R8:List RV:=[.t 2 false]
theorem k27:aG G.tab Tryz.f27 1 c27 R8=true:=by kernel_rfl
def c67:Cd:=sq [ZB 4 107 1,oI 6 0] [0,2,4] (.seq (sq [oV 14 0,ZN 15 14,oI 16 0] [2,4,14,15,16] (.block 0 (.loop (.seq (.ops [Yl 17 16 15] [2,4,14,15,16,17]) (.seq (.cond (.t 17) .skip (.exit 0)) (.seq (.block 1 (sq [ZI 18 12 14 16,ZM 19 12 18,oM 8 (.new 54 zz0),oS 12 8 19] [2,4,8,14,15,16] (.seq (sq [oV 20 2,ZM 21 12 8,ZM 22 2 4,oM 23 (.callv (.t 20) [.t 21,.t 22]),oV 9 23] [2,4,8,9,14,15,
 16] (sq [oV 24 9,Wn 25 24 0] [2,4,8,9,14,15,16,25] (.cond (.t 25) (sq [oV 26 9,oV 6 26] [6] .ret) .skip))) (sq [ZF 27 0 4,ZL 28 1 27,ZF 29 1 4,ZL 30 1 29,oM 31 (.bld JV [(0,1,.t 28),(1,1,.t 30)]),oM 10 (.new 107 JV),oS 2 10 31] [2,4,8,10,14,15,16] (.seq (sq [ZF 32 0 8,ZL 33 1 32,We 34 33 4,oV 35 34,oH 36 35 (zF 0 8),oH 37 35 (zL 1 36),oH 38 35 (we 37 5),ZP 39 35 38] [2,4,8,10,14,15,16,
 39] (.cond (.t 39) (.ops [ZF 40 0 10,ZL 41 1 40,Wa 42 41 1,ZF 43 0 10,oS 1 43 42] [2,4,8,10,14,15,16]) .skip)) (sq [ZM 44 2 10,oM 11 (.new 107 JV),oS 2 11 44] [2,4,8,10,11,14,15,16] (.seq (sq [ZF 45 0 8,ZL 46 1 45,We 47 46 5] [2,4,8,10,11,14,15,16,47] (.cond (.t 47) (.drawg [(ZF 48 1 4,.free 0),(ZL 49 1 48,.calm 0 0),(ZC 50 123 49,.act),(ZF 51 6 8,.free 0),(ZL 52 1 51,.calm 0 1),
 (oM 53 (.mks 9 1 [.t 52]),.free 0),(oM 54 (.app 9 1 16 50 (.t 53)),.slot 1),(ZF 55 1 10,.free 1),(⟨none,.stoo (.t 55) 54,none⟩,.act)] [2,4,8,10,11,14,15,16]) .skip)) (.seq (sq [ZF 56 8 8,ZL 57 1 56,ZM 58 2 10,oV 59 2,ZE 60 67 57 58 59,oV 12 60] [2,4,8,11,12,14,15,16] (sq [oV 61 12,Wn 62 61 0] [2,4,8,11,12,14,15,16,62] (.cond (.t 62) (sq [oV 63 12,oV 6 63] [6] .ret) .skip))) (sq [ZF 64 9 8,
 ZL 65 1 64,ZM 66 2 11,oV 67 2,ZE 68 67 65 66 67,oV 13 68] [2,4,13,14,15,16] (sq [oV 69 13,Wn 70 69 0] [2,4,13,14,15,16,70] (.cond (.t 70) (sq [oV 71 13,oV 6 71] [6] .ret) .skip))))))))))) (.ops [Wa 72 16 1,oV 16 72] [2,4,14,15,16]))))))) (sq [oI 6 0] [6] .ret))
def RU:List RV:=[.t 6 false]
theorem k67:aG G.tab Tryz.f67 3 c67 RU=true:=by kernel_rfl
def Qm:Cd:=sq [oM 0 (.mv (.k (.d (.lit (.map none)))))] [] (sq [oM 1 (.mmk false),oM 2 (.bld zz4 [(0,1,.k (.d (.lit (.bool true))))]),⟨none,.mst false (.t 1) (kI 1) (.t 2),none⟩,oM 3 (.bld zz4 [(0,1,.k (.d (.lit (.bool true))))]),⟨none,.mst false (.t 1) (kI 2) (.t 3),none⟩,oM 4 (.bld zz4 [(1,1,.k (.d (.lit (.bool true)))),(3,1,.k (.d (.lit (.bool true))))]),⟨none,.mst false (.t 1) (kI 3) (.t 4),
 none⟩,oM 5 (.bld zz4 [(0,1,.k (.d (.lit (.bool true)))),(4,1,.k (.d (.lit (.bool true)))),(5,1,.k (.d (.lit (.bool true))))]),⟨none,.mst false (.t 1) (kI 4) (.t 5),none⟩,oM 6 (.bld zz4 [(1,1,.k (.d (.lit (.bool true)))),(2,1,.k (.d (.lit (.bool true)))),(4,1,.k (.d (.lit (.bool true))))]),⟨none,.mst false (.t 1) (kI 5) (.t 6),none⟩,oM 7 (.bld zz4 [(6,1,.k (.d (.lit (.bool true))))]),⟨none,
 .mst false (.t 1) (kI 6) (.t 7),none⟩,oV 8 1,oV 0 8] [0] .ret)
def PH:List RV:=[.t 0 false]
theorem Sl:aG G.tab Tryz.f124 0 Qm PH=true:=by kernel_rfl
def PF:Cd:=sq [ZB 2 54 0,ZB 3 157 1,oM 4 (.mv kF)] [2,3] (sq [ZF 5 0 3,ZL 6 1 5,oV 7 6,oH 8 7 (zF 1 2),oH 9 7 (zM 4 8),oH 10 7 (zC 178 9),ZP 11 7 10,oV 12 11,oG 13 12 (zF 1 3),oG 14 12 (zL 1 13),oG 15 12 (.mv (.t 14)),oH 16 15 (zF 5 2),oH 17 15 (zL 1 16),oH 18 15 (.bin .eql (.t 17) (kS ⟨#[]⟩)),oG 19 12 (zP 15 18),ZQ 20 12 19,oV 21 20,oG 22 21 (zF 2 3),oG 23 21 (zL 1 22),oG 24 21 (.mv (.t 23)),
 oH 25 24 (zF 6 2),oH 26 24 (zL 1 25),oH 27 24 (.bin .eql (.t 26) (kS ⟨#[]⟩)),oG 28 21 (zP 24 27),ZQ 29 21 28,oV 30 29,oG 31 30 (zF 3 3),oG 32 30 (zL 1 31),oG 33 30 (.mv (.t 32)),oH 34 33 (zF 7 2),oH 35 33 (zL 1 34),oH 36 33 (zN 35),oH 37 33 (we 36 0),oG 38 30 (zP 33 37),ZQ 39 30 38,oV 40 39,oG 41 40 (zF 4 3),oG 42 40 (zL 1 41),oG 43 40 (.mv (.t 42)),oH 44 43 (zF 8 2),oH 45 43 (zL 1 44),
 oH 46 43 (zN 45),oH 47 43 (we 46 0),oG 48 40 (zP 43 47),ZQ 49 40 48,oV 50 49,oG 51 50 (zF 5 3),oG 52 50 (zL 1 51),oG 53 50 (.mv (.t 52)),oH 54 53 (zF 9 2),oH 55 53 (zL 1 54),oH 56 53 (zN 55),oH 57 53 (we 56 0),oG 58 50 (zP 53 57),ZQ 59 50 58,oV 60 59,oG 61 60 (zF 6 3),oG 62 60 (zL 1 61),oG 63 60 (.mv (.t 62)),oH 64 63 (zF 10 2),oH 65 63 (zL 1 64),oH 66 63 (zN 65),oH 67 63 (zF 11 2),
 oH 68 63 (zL 1 67),oH 69 63 (zN 68),oH 70 63 (ya 66 69),oH 71 63 (we 70 0),oG 72 60 (zP 63 71),ZQ 73 60 72,oV 4 73] [4] .ret)
def NX:List RV:=[.t 4 false]
theorem Rv:aG G.tab Tryz.f125 2 PF NX=true:=by kernel_rfl
def Nr:Cd:=sq [oI 2 0] [0] (.seq (.block 0 (sq [oV 6 0,ZN 7 6,Wg 8 7 16,oV 5 8] [0,5] (.cond (.t 5) (sq [oI 2 2] [2] (.ret)) (sq [oV 10 0,ZN 11 10,We 12 11 0,oV 9 12] [0,9] (.cond (.t 9) (sq [oI 2 1] [2] .ret) .skip))))) (.seq (sq [oV 13 0,ZN 14 13,oI 15 0] [13,14,15] (.block 1 (.loop (sq [Yl 16 15 14] [13,14,15,16] (.seq (.cond (.t 16) .skip (.exit 1)) (.seq (.block 2 (sq [ZI 17 4 13 15,
 ZM 18 4 17,oM 4 (.new 56 zz8),oS 4 4 18] [4,13,14,15] (sq [ZF 19 0 4,ZL 20 1 19,Wl 21 20 0,oV 22 21,oH 23 22 (zF 0 4),oH 24 22 (zL 1 23),oH 25 22 (zF 1 4),oH 26 22 (zL 1 25),oH 27 22 (yg 24 26),ZP 28 22 27,oV 29 28,oH 30 29 (zF 1 4),oH 31 29 (zL 1 30),oH 32 29 (wg 31 65535),ZP 33 29 32,oV 34 33,oH 35 34 (zF 2 4),oH 36 34 (zL 1 35),oH 37 34 (wl 36 0),ZP 38 34 37,oV 39 38,oH 40 39 (zF 2 4),
 oH 41 39 (zL 1 40),oH 42 39 (wg 41 1000),ZP 43 39 42] [13,14,15,43] (.cond (.t 43) (sq [oI 2 1] [2] .ret) .skip)))) (.ops [Wa 44 15 1,oV 15 44] [13,14,15]))))))) (.seq (.ops [oI 2 0] [2]) .ret)))
def Pn:List RV:=[.t 2 false]
theorem RJ:aG G.tab Tryz.f126 1 Nr Pn=true:=by kernel_rfl
def c127:Cd:=sq [oM 2 (.mv kF)] [0] (sq [oV 3 0,oM 4 (.bld zz1 [(0,1,.k (.d (.lit (.int .i64 2)))),(2,1,.t 3)]),ZC 5 129 4,We 6 5 0,oV 2 6] [2] .ret)
def Qp:List RV:=[.t 2 false]
theorem TA:aG G.tab Tryz.f127 1 c127 Qp=true:=by kernel_rfl
def c68:Cd:=sq [ZB 2 54 0,ZB 3 107 1,oI 4 0] [2,3] (.seq (.raw [oM 11 (.call 124 []),ZF 12 0 2,ZL 13 1 12,oM 14 (.mlk false true (.agg zz4) (.t 11) (.t 13)),oV 10 14,ZX 15 10 0,ZX 16 10 1,oM 5 (.new 157 zz4),oS 7 5 15,oV 6 16] [[],[],[1],[0,2],[3],[4],[4],[],[7,5,0,0,1,2,3,4,5,7],[6,8,0,1,2,3,4,5,6,7,8]] [2,3,5,6]) (.seq (sq [oV 17 6,ZU 18 17,oV 19 18,oH 20 19 (zM 12 2),oH 21 19 (zM 7 5),
 oH 22 19 (zD 125 20 21),oH 23 19 (zU 22),ZP 24 19 23,oV 25 24,oH 26 25 (zF 0 3),oH 27 25 (zL 1 26),oH 28 25 (wg 27 4),ZP 29 25 28,oV 30 29,oH 31 30 (zF 0 3),oH 32 30 (zL 1 31),oH 33 30 (wg 32 0),oH 34 30 (.mv (.t 33)),oG 35 34 (zF 0 2),oG 36 34 (zL 1 35),oG 37 34 (we 36 3),oG 38 34 (.mv (.t 37)),oH 39 38 (zF 0 2),oH 40 38 (zL 1 39),oH 41 38 (we 40 6),oG 42 34 (zP 38 41),oH 43 30 (zQ 34 42),
 ZP 44 30 43] [2,44] (.cond (.t 44) (sq [oI 4 1] [4] .ret) .skip)) (.seq (sq [ZF 45 0 2,ZL 46 1 45] [2,46] (.block 0 (sq [We 51 46 3,oV 50 51] [2,46,50] (.cond (.t 50) (.seq (sq [ZF 52 7 2,ZL 53 1 52,ZC 54 126 53,oV 7 54] [2,7] (sq [oV 55 7,Wn 56 55 0] [2,7,56] (.cond (.t 56) (sq [oV 57 7,oV 4 57] [4] .ret) .skip))) (sq [ZF 58 5 2,ZL 59 1 58,ZC 60 127 59,
 ZU 61 60] [61] (.cond (.t 61) (sq [oI 4 7] [4] .ret) .skip))) (sq [We 63 46 6,oV 62 63] [2,46,62] (.cond (.t 62) (.seq (sq [ZF 64 10 2,ZL 65 1 64,ZN 66 65,We 67 66 0,oV 68 67,oH 69 68 (zF 11 2),oH 70 68 (zL 1 69),oH 71 68 (zN 70),oH 72 68 (we 71 0),ZP 73 68 72] [2,73] (.cond (.t 73) (sq [oI 4 1] [4] .ret) .skip)) (sq [ZF 74 10 2,ZL 75 1 74,ZF 76 11 2,ZL 77 1 76,oM 78 (.mks 52 1 [.t 75,.t 77]),
 ZC 79 128 78,ZN 80 79,oI 81 0] [79,80,81] (.block 1 (.loop (sq [Yl 82 81 80] [79,80,81,82] (.seq (.cond (.t 82) .skip (.exit 1)) (.seq (.block 2 (sq [ZI 83 1 79 81,ZL 84 1 83,oV 9 84] [9,79,80,81] (sq [oV 85 9,ZC 86 127 85,ZU 87 86] [79,80,81,87] (.cond (.t 87) (sq [oI 4 7] [4] .ret) .skip)))) (.ops [Wa 88 81 1,oV 81 88] [79,80,81])))))))) (sq [We 90 46 5,oV 89 90] [2,
 89] (.cond (.t 89) (sq [ZF 91 5 2,ZL 92 1 91,ZC 93 96 92,ZU 94 93,oV 95 94,oH 96 95 (zF 6 2),oH 97 95 (zL 1 96),oH 98 95 (zC 96 97),oH 99 95 (zU 98),ZP 100 95 99] [100] (.cond (.t 100) (sq [oI 4 7] [4] .ret) (.skip))) (sq [ZF 47 1 2,ZM 48 4 47,ZC 49 129 48,oV 4 49] [4] .ret))))))))) (sq [oI 4 0] [4] .ret))))
def SD:List RV:=[.t 4 false]
theorem k68:aG G.tab Tryz.f68 2 c68 SD=true:=by kernel_rfl
def Py:Cd:=sq [ZB 1 50 0,oM 2 (.mv kF)] [1] (sq [ZF 3 0 1,ZL 4 1 3,We 5 4 0,oV 6 5,oG 7 6 (zF 1 1),oG 8 6 (zL 1 7),oG 9 6 (we 8 0),ZQ 10 6 9,oV 11 10,oG 12 11 (zF 2 1),oG 13 11 (zL 1 12),oG 14 11 (.bin .eql (.t 13) (kS ⟨#[]⟩)),ZQ 15 11 14,oV 16 15,oG 17 16 (zF 3 1),oG 18 16 (zL 1 17),oG 19 16 (zN 18),oG 20 16 (we 19 0),ZQ 21 16 20,oV 2 21] [2] .ret)
def O7:List RV:=[.t 2 false]
theorem S0:aG G.tab Tryz.f178 1 Py O7=true:=by kernel_rfl
end Go.Proofs.YtnhphlmblenapaaGreatDoor
namespace Go.Proofs.YtnhphlmblenapaaGreatDoor
open Go.RowKit
section
variable {P : Program}
theorem KR(w:World)(t u ty e:TypeId)(i:TypeInfo)(ht:P.underlying t=some (.slice e))(hu:P.underlying u=some .string)(hi:P.info? e=some i)(hz:i.zero=some (.int .u8 0))(hsize:i.size=1)(hby:i.bytes=1)
 (v:Value)(n:Nat)(xs:List Value)(hown:w.ownsRow 0 e 1 v n xs)(s:ByteArray)(hbytes:n+s.size≤140737488355328):
 ∃v' w',(Builtin.append_ #[t,u] ty #[v,.string s]).run P w=.ok v' w'/\w'.ownsRow 0 e 1 v' (n+s.size) (xs++Lib.strCells s)/\(∀c,c<w.heap.size->v'.ownBlock≠some c->w'.heap[c]? = w.heap[c]?)/\
  (v'.ownBlock=none\/v'.ownBlock=v.ownBlock\/v'.ownBlock=some w.heap.size)/\w.heap.size≤w'.heap.size/\w'.os=w.os/\w'.tape=w.tape/\w'.output=w.output:=by
 have hm:maxLen=9223372036854775807:=rfl;obtain⟨v',w',hr,h1,-,-⟩:=Lib.run_append_own_string w 0 t u ty e i ht hu hi hz hsize hby v n xs hown s (by omega) hbytes (Nat.zero_le _);refine⟨v',w',hr,h1,?_⟩;have hxl:xs.length=n:=by simpa using hown.1
 have new:∀ob,dA w (w.drew.alloc ob):=fun ob=>(dA.drew w).trans (dA.alloc _ ob)
 have hnew:∀ob a b,v'=.slice (some ⟨w.heap.size,0,none⟩) a b->w'=w.drew.alloc ob->(∀c,c<w.heap.size->v'.ownBlock≠some c->w'.heap[c]? = w.heap[c]?)/\
  (v'.ownBlock=none\/v'.ownBlock=v.ownBlock\/v'.ownBlock=some w.heap.size)/\w.heap.size≤w'.heap.size/\w'.os=w.os/\w'.tape=w.tape/\w'.output=w.output:=by
  rintro ob a b rfl rfl;exact⟨fun c hc _=>(new ob).block c hc,.inr (.inr rfl),(new ob).size,rfl,rfl,rfl⟩
 rcases hown.2 with⟨rfl,rfl⟩|⟨g,cap,cur,rfl,hbg,hg,hnc,hcm,hcs,htake⟩
 .by_cases hs:s.size=0
  .have hf:=Lib.run_firstCells_string (P:=P) w 1 s
   have hr2:(Builtin.append_ #[t,u] ty #[.slice none 0 0,.string s]).run P w=.ok (.slice none 0 0) w:=by
    have hn:Lib.strCells s=[]:=TV (by rw[Lib.strCells_length];exact hs);rw[hs]at hf;simp[Builtin.append_,run_underlying ht,run_underlying hu,sizeOf,typeInfo,hi,hsize,Builtin.lenOf,hs,hf]
   rw[hr]at hr2;cases hr2;exact⟨fun _ _ _=>rfl,.inl rfl,Nat.le_refl _,rfl,rfl,rfl⟩
  .have hr2:=run_append_nil_string (P:=P) w t u ty e i (.int .u8 0) ht hu hi hz s (by omega) (by omega) (by rw[hby];omega);rw[hr]at hr2;cases hr2;exact hnew _ _ _ rfl rfl
 .by_cases hroom:n+s.size≤cap
  .have hcs':cur.size=cap:=by simpa using hcs
   have hr2:=Lib.run_append_room_string (P:=P) w t u ty e i ht hu hi hsize g n cap cur hg s hroom (by omega);rw[hr]at hr2;cases hr2;refine⟨fun c hc hne=>setRow_other w g c _ (fun e=>hne (by rw[e];rfl)),.inr (.inl rfl),by simp[World.setRow],rfl,rfl,rfl⟩
  .have holds:∀j u,xs[j]? = some u->w.cell? ((⟨g,0,none⟩:Addr).add j)=some u:=hown.cells (g:=g) rfl;have hr2:=Lib.run_append_grow_string (P:=P) w t u ty e i (.int .u8 0) ht hu hi hz ⟨g,0,none⟩ n cap xs (by rw[hsize];simpa using hxl) holds s (by omega) (by omega) (by rw[hby];exact growslice_fits (by omega) (by omega));rw[hr]at hr2;cases hr2;exact hnew _ _ _ rfl rfl
theorem tB{w:World}{ops:Array Oper}{rest:List Oper}{o:Oper}{a:Act}{Q:Exit->Act->World->Prop}(hgd:o.guard=none)(sl x:Operand)(t u:TypeId)(ho:o.op=.call {callee:=.builtin .append,args := #[sl,x],argTypes := #[t,u]})
 (e:TypeId)(i:TypeInfo)(ht:P.underlying t=some (.slice e))(hu:P.underlying u=some .string)(hi:P.info? e=some i)(hz:i.zero=some (.int .u8 0))(hsize:i.size=1)(hby:i.bytes=1)
 (v:Value)(n:Nat)(xs:List Value)(hs:a.eval sl=v)(hown:w.ownsRow 0 e 1 v n xs)(s:ByteArray)(hx:a.eval x=.string s)(hbytes:n+s.size≤140737488355328)
 (h:∀v' w',w'.ownsRow 0 e 1 v' (n+s.size) (xs++Lib.strCells s)->(∀c,c<w.heap.size->v'.ownBlock≠some c->w'.heap[c]? = w.heap[c]?)->(v'.ownBlock=none\/v'.ownBlock=v.ownBlock\/v'.ownBlock=some w.heap.size)->
   (w.heap.size≤w'.heap.size/\w'.os=w.os/\w'.tape=w.tape/\w'.output=w.output)->wpList P ops Q rest (a.put o.dst v') w'):wpList P ops Q (o::rest) a w:=by
 refine wpList_plain hgd fun K hK=>?_;obtain⟨v',w',hr,h2,h3,h4,h5⟩:=KR (P:=P) w t u o.type e i ht hu hi hz hsize hby v n xs hown s hbytes;unfold Oper.wp execOp;simp only[ho,resolve,invoke,builtin,Sem.run_bind,Sem.run_pure,Result.andThen_ok,List.map_toArray,List.map_cons,List.map_nil,hs,hx,hr];exact hK _ _ (h v' w' h2 h3 h4 h5)
end
theorem rI(w:World)(g o:Nat)(v:Value){b:Nat}(h:b≠g):(w.setCell ⟨g,o,none⟩ v).heap[b]? = w.heap[b]? := by
 unfold World.setCell;simp only[TU];rw[if_neg (Ne.symm h)]
theorem Ld(w:World)(g o:Nat)(v:Value){cur:Array Value}{T:TypeId}(h:w.heap[g]? = some (.cells cur T (0,0))):(w.setCell ⟨g,o,none⟩ v).heap[g]? = some (.cells (cur.setIfInBounds o v) T (0,0)):=by
 unfold World.setCell;simp only[TU];rw[if_pos trivial,h];rfl
theorem Bb(w:World)(g o:Nat)(v:Value):(w.setCell ⟨g,o,none⟩ v).heap.size=w.heap.size/\(w.setCell ⟨g,o,none⟩ v).os=w.os/\(w.setCell ⟨g,o,none⟩ v).tape=w.tape/\(w.setCell ⟨g,o,none⟩ v).output=w.output:=⟨by simp[World.setCell],rfl,rfl,rfl⟩
theorem Ee(w:World)(g n:Nat):(∀c,c≠g->(w.freeze ⟨g,0,none⟩ n).heap[c]? = w.heap[c]?)/\(∀p v,w.cell? p=some v->(w.freeze ⟨g,0,none⟩ n).cell? p=some v)/\(w.freeze ⟨g,0,none⟩ n).heap.size=w.heap.size/\(w.freeze ⟨g,0,none⟩ n).os=w.os/\
 (w.freeze ⟨g,0,none⟩ n).tape=w.tape/\(w.freeze ⟨g,0,none⟩ n).output=w.output:=by
 unfold World.freeze;split
 .exact⟨fun _ _=>rfl,fun _ _ h=>h,rfl,rfl,rfl,rfl⟩
 .refine⟨fun c hc=>?_,fun p v hv=>?_,by simp,rfl,rfl,rfl⟩
  .simp only[TU];rw[if_neg (Ne.symm hc)]
  .unfold World.cell? at hv ⊢;simp only[TU];by_cases e:g=p.block
   .rw[if_pos e]
    match ho:w.heap[p.block]? with
    | none=>rw[ho]at hv;cases hv
    | some (.cells c T fz)=>rw[ho]at hv;exact hv
    | some (.pending ..)|some (.view ..)|some (.number ..)|some (.map ..)|some (.chan ..)|some (.stringIter ..)|some (.mapIter ..)|some (.loop ..)|some (.deferred ..)|some (.coro ..)|some (.finalizers ..)=>rw[ho]at hv;cases hv
   .rw[if_neg e];exact hv
def dbs(t:List UInt8):LLD:=t.map fun c=>[.lit (.int .u8 c.toNat)]
theorem gL(t:List UInt8):(dbs t).length=t.length:=T0 ..
def lc(t:List UInt8):List Value:=t.map fun c=>Value.int .u8 c.toNat
theorem Ej(s:ByteArray):Lib.strCells s=lc s.data.toList:=rfl
def pgu(U:TypeId)(i:Nat)(t:List UInt8)(k:Int):List V:=[.ptr i 0,.own U 1 (dbs t),.d (.lit (.int .i64 k))]
theorem Inv.rewr{M:am}{bm:List Nat}{σ:LLV}{tk:bA}{pr:Nat->Prop}{w w':World}(hI:Inv M bm σ tk pr w){U i b n:Nat}{k:Int}{t:List UInt8}{v v':Value}{xs:List Value}{T:TypeId}(hb0:bm[i]? = some b)(hilt:i<σ.length)(hfit:cV (.int .i64 k))
 (hold:(v=.slice none 0 0/\n=0)\/∃g,tk (some i) 1=some g/\v.ownBlock=some g/\∀o x,M g o=some x->o<n)(hown:w.ownsRow 0 U 1 v n xs)(hxn:n≤t.length)(hx:xs=(lc t).take n)
 (hnew:w'.heap[b]? = some (.cells #[.pointer (some ⟨b,0,none⟩),v',.int .i64 k] T (0,0)))(hrow:w'.ownsRow 0 U 1 v' t.length (lc t))
 (hother:∀c,c<w.heap.size->c≠b->v'.ownBlock≠some c->w'.heap[c]? = w.heap[c]?)(hplace:v'.ownBlock=none\/v'.ownBlock=v.ownBlock\/∃g,v'.ownBlock=some g/\w.heap.size≤g)
 (hsz:w.heap.size≤w'.heap.size)(hos:w'.os=w.os)(htape:w'.tape=w.tape)(hout:w'.output=w.output):
 ∃M' tk',Inv M' bm (σ.set i (pgu U i t k)) tk' pr w'/\Later M bm pr w M' bm w':=by
 have hbm:b∈bm:=TX hb0;have hblt:=hI.bm_lt b hbm;have hlen:(lc t).length=t.length:=T0 ..;have hnil:∀{a:LLV} {x:List V},a[i]? = some x->i<a.length:=fun h=>(List.getElem?_eq_some_iff.1 h).1;obtain⟨M',hM'⟩:∃M':am,M'=fun c o=>if v'.ownBlock=some c/\o<t.length then(lc t)[o]? else M c o:=⟨_,rfl⟩
 have hmine:∀g,v'.ownBlock=some g->g<w.heap.size->tk (some i) 1=some g/\v.ownBlock=some g/\∀o x,M g o=some x->o<n:=fun g hg hlt=>by
  rcases hplace with h1|h1|⟨g',h1,h2⟩
  .rw[h1]at hg;cases hg
  .rw[h1]at hg;rcases hold with⟨rfl,-⟩|⟨g',h2,h3,h4⟩
   .cases hg
   .rw[h3]at hg;cases hg;exact⟨h2,h3,h4⟩
  .rw[h1]at hg;cases hg;omega
 have hgb:∀g,v'.ownBlock=some g->g∉bm/\¬pr g:=fun g hg=>by
  by_cases hlt:g<w.heap.size
  .exact(hI.tok _ _ _ (hmine g hg hlt).1).2
  .exact⟨fun h=>hlt (hI.bm_lt g h),fun h=>hlt (hI.prlt g h)⟩
 have hgt:∀g,v'.ownBlock=some g->∀x y,tk x y=some g->x=some i/\y=1:=fun g hg x y hxy=>hI.inj _ _ _ _ _ hxy (hmine g hg (hI.tok _ _ _ hxy).1).1;have hother':∀c,v'.ownBlock≠some c->∀o,M' c o=M c o:=fun c hc o=>by rw[hM'];simp only;rw[if_neg fun h=>hc h.1]
 have hat:∀g,v'.ownBlock=some g->∀o u,(lc t)[o]? = some u->M' g o=some u:=fun g hg o u hu=>by
  rw[hM'];simp only;rw[if_pos ⟨hg,by rw[<-hlen];exact(List.getElem?_eq_some_iff.1 hu).1⟩];exact hu
 have hmd:∀g,v'.ownBlock=some g->∀o x,M g o=some x->(lc t)[o]? = some x:=fun g hg o x hm=>by
  obtain⟨-,h2,h3⟩:=hmine g hg (hI.facts.lt hm);have ho:=h3 o x hm;have hc:=hI.facts g o x hm;have hol:o<xs.length:=by have:=hown.1;omega
  have hxo:xs[o]? = some xs[o]:=TY hol;have:=hown.cells h2 o _ hxo;rw[da,T8,hc]at this;rw[<-Option.some.inj this]at hxo;rw[hx,List.getElem?_take_of_lt ho]at hxo;exact hxo
 have hle:M.le M':=fun c o x hm=>by
  by_cases hc:v'.ownBlock=some c
  .exact hat c hc o x (hmd c hc o x hm)
  .rw[hother' c hc];exact hm
 have hcells:∀g,v'.ownBlock=some g->∀o u,(lc t)[o]? = some u->w'.cell? ⟨g,o,none⟩=some u:=fun g hg o u hu=>by
  have:=hrow.cells hg o u hu;rw[da,T8]at this;exact this
 have hhold:M'.hold w':=fun c o x hm=>by
  by_cases hc:v'.ownBlock=some c
  .rw[hM']at hm;simp only at hm;split at hm
   .exact hcells c hc o x hm
   .exact hcells c hc o x (hmd c hc o x hm)
  .rw[hother' c hc]at hm;have hcb:c≠b:=fun e=>by subst e;rw[(hI.free c hbm).1 o]at hm;cases hm
   have h1:=hI.facts c o x hm;rw[World.cell?_of_block (w:=w) (hother c (gc h1) hcb hc)];exact h1
 obtain⟨tk',htk⟩:∃tk':bA,tk'=fun x y=>if x=some i/\y=1 then v'.ownBlock else tk x y:=⟨_,rfl⟩
 have htok:∀x y,¬(x=some i/\y=1)->tk' x y=tk x y:=fun x y h=>by rw[htk];simp only;rw[if_neg h]
 have htks:∀x y g,tk' x y=some g->(x=some i/\y=1/\v'.ownBlock=some g)\/(¬(x=some i/\y=1)/\tk x y=some g/\v'.ownBlock≠some g):=fun x y g hg=>by
  by_cases e:x=some i/\y=1
  .rw[htk]at hg;simp only[if_pos e]at hg;exact .inl ⟨e.1,e.2,hg⟩
  .rw[htok x y e]at hg;exact .inr ⟨e,hg,fun eg=>e (hgt g eg x y hg)⟩
 have hsafe:∀x y,¬(x=some i/\y=1)->∀g,tk x y=some g->v'.ownBlock≠some g/\g≠b/\g<w.heap.size:=fun x y h g hg=>
  ⟨fun e=>h (hgt g e x y hg),fun e=>(hI.tok _ _ _ hg).2.1 (e▸hbm),(hI.tok _ _ _ hg).1⟩
 have hcell:∀{x:V} {u:Value} {tt:Option Nat},(∀g,tt=some g->v'.ownBlock≠some g/\g≠b/\g<w.heap.size)->CellOK M bm w x u tt->CellOK M' bm w' x u tt:=fun htt hok=>
  ⟨hok.rep.mono hle (fun _ _ h=>h),fun T k rows e=>(hok.own T k rows e).keep fun g' hg'=>⟨hother g' (htt g' hg').2.2 (htt g' hg').2.1 (htt g' hg').1,hother' g' (htt g' hg').1⟩⟩
 have hrepr:DRep M' (.sl (dbs t)) v'/\ul M' w' U 1 (dbs t) v' v'.ownBlock:=by
  rcases hrow.2 with⟨rfl,hz⟩|⟨g,cap,cur,rfl,hbg,hg,hnc,hcm,hcs,htake⟩
  .have:t=[]:=TV hz;subst this;exact⟨DRep.nil _,.inl ⟨rfl,rfl⟩⟩
  .refine⟨?_,.inr ⟨g,lc t,rfl,rfl,fun r hr=>by obtain⟨c,-,rfl⟩:=List.mem_map.1 hr;rfl,by rw[gL];exact hrow,fun o x hm=>?_⟩⟩
   .have e:t.length=(dbs t).length:=(gL t).symm;rw[e]at hnc ⊢;refine sb (k:=1) (fun r hr=>by obtain⟨c,-,rfl⟩:=List.mem_map.1 hr;rfl) (lc t) (by rw[hlen,gL,T7]) (fun j u hu=>by rw[T8];exact hat g rfl j u hu) (fun i j hi hj hv=>?_) hnc hcm;have hi':i<t.length:=by rw[<-gL];exact hi
    have hj0:j=0:=by simp only[dbs,TZ,List.length_cons,List.length_nil]at hj;omega
    subst hj0;simp only[dbs,lc,TZ,TW,T7,T9];have:=t[i].toNat_lt;exact .lit _ ⟨by show(0:Int)≤_;omega,by show _≤(255:Int);omega⟩
   .rw[gL,T7];rw[hM']at hm;simp only[Value.ownBlock,true_and]at hm;split at hm
    .assumption
    .have:=(List.getElem?_eq_some_iff.1 (hmd g rfl o x hm)).1;rw[hlen]at this;exact this
 refine⟨M',tk',⟨hhold,by simp[hI.len],fun i' b' cs hi hc=>?_,fun c hc=>⟨fun o=>by rw[hother' c (fun e=>(hgb c e).1 hc)];exact(hI.free c hc).1 o,(hI.free c hc).2⟩,hI.bmnd,fun x y g hg=>?_,fun x y x' y' g h1 h2=>?_,fun c hc=>T6 (hI.prlt c hc) hsz⟩,
  ⟨hle,⟨[],by simp⟩,fun c hc=>hother c (hI.prlt c hc) (fun e=>(hI.free b hbm).2 (e▸hc)) (fun e=>(hgb c e).2 hc),fun c hc=>hother' c (fun e=>(hgb c e).2 hc),hos,htape,hout,hsz⟩⟩
 .by_cases e:i'=i
  .subst e;rw[hb0]at hi;cases hi;rw[T4 hilt]at hc;cases hc;refine .inl ⟨_,T,hnew,rfl,fun j hj hj'=>?_⟩
   match j,hj with
   | 0,_=>exact⟨⟨.ptr hb0,fun _ _ _ e=>by cases e⟩,rfl⟩
   | 1,_=>
    refine⟨⟨.own hrepr.1,fun T2 k2 rows2 e=>?_⟩,hrepr.1.one⟩;simp only[pgu,T3,TW,V.own.injEq]at e;obtain⟨rfl,rfl,rfl⟩:=e;have:tk' (some i') 1=v'.ownBlock:=by rw[htk];simp
    rw[this];exact hrepr.2
   | 2,_=>exact⟨⟨.d (.lit _ hfit),fun _ _ _ e=>by cases e⟩,rfl⟩
  .rw[T5 (Ne.symm e)]at hc;have hb':=TX hi
   have hne:b'≠b:=fun eb=>by
    subst eb;exact e ((List.getElem?_inj (List.getElem?_eq_some_iff.1 hi).1 hI.bmnd).1 (hi.trans hb0.symm))
   have hh:=hother b' (hI.bm_lt b' hb') hne (fun e=>(hgb b' e).1 hb');rcases hI.box i' b' cs hi hc with⟨vs,T',k1,k2,k3⟩|k1;case inr=>exact .inr (k1.mono hle (fun _ _ h=>h) hh)
   refine .inl ⟨vs,T',by rw[hh];exact k1,k2,fun j hj hj'=>⟨?_,(k3 j hj hj').2⟩⟩;have ne:¬(some i'=some i/\j=1):=fun h=>e (Option.some.inj h.1);rw[htok _ _ ne];exact hcell (hsafe _ _ ne) (k3 j hj hj').1
 .rcases htks x y g hg with⟨-,-,h1⟩|⟨-,h1,-⟩
  .exact⟨(hrow.lt g h1).2,hgb g h1⟩
  .exact⟨T6 (hI.tok _ _ _ h1).1 hsz,(hI.tok _ _ _ h1).2⟩
 .rcases htks x y g h1 with⟨rfl,rfl,e1⟩|⟨n1,k1,k2⟩<;>rcases htks x' y' _ h2 with⟨rfl,rfl,e2⟩|⟨n2,k3,k4⟩
  .exact⟨rfl,rfl⟩
  .exact absurd e1 k4
  .exact absurd e2 k2
  .exact hI.inj _ _ _ _ _ k1 k3
theorem Inv.lose{M:am}{bm:List Nat}{σ:LLV}{tk:bA}{pr:Nat->Prop}{w w':World}(hI:Inv M bm σ tk pr w){U i:Nat}{k:Int}{t:List UInt8}(hs:σ[i]? = some (pgu U i t k))
 (h1:∀c,c<w.heap.size->tk (some i) 1≠some c->w'.heap[c]? = w.heap[c]?)(h2:∀p v,w.cell? p=some v->w'.cell? p=some v)(hsz:w.heap.size≤w'.heap.size)(hos:w'.os=w.os)(htape:w'.tape=w.tape)(hout:w'.output=w.output):
 Inv M bm (σ.set i [.ptr i 0,.junk,.d (.lit (.int .i64 k))]) tk pr w'/\Later M bm pr w M bm w':=by
 have hilt:=(List.getElem?_eq_some_iff.1 hs).1;have hkeep:∀b,b∈bm->w'.heap[b]? = w.heap[b]? := fun b hb=>h1 b (hI.bm_lt b hb) fun e=>(hI.tok _ _ _ e).2.1 hb
 have hcell:∀{x:V} {u:Value} {i':Option Nat} {j:Nat},¬(i'=some i/\j=1)->CellOK M bm w x u (tk i' j)->CellOK M bm w' x u (tk i' j):=fun hn hok=>
  ⟨hok.rep,fun T k rows e=>(hok.own T k rows e).keep fun g hg=>⟨h1 g (hI.tok _ _ _ hg).1 fun e=>hn (hI.inj _ _ _ _ _ hg e),fun _=>rfl⟩⟩
 refine⟨⟨fun c o x hm=>h2 _ _ (hI.facts c o x hm),by simp[hI.len],fun i' b' cs hi hc=>?_,hI.free,hI.bmnd,fun x y g hg=>⟨T6 (hI.tok _ _ _ hg).1 hsz,(hI.tok _ _ _ hg).2⟩,hI.inj,fun c hc=>T6 (hI.prlt c hc) hsz⟩,
  ⟨am.le.refl _,⟨[],by simp⟩,fun c hc=>h1 c (hI.prlt c hc) fun e=>(hI.tok _ _ _ e).2.2 hc,fun _ _ _=>rfl,hos,htape,hout,hsz⟩⟩
 have hh:=hkeep b' (TX hi);by_cases e:i'=i
 .subst e;rw[T4 hilt]at hc;cases hc;obtain⟨vs,T,k1,k2,k3⟩:=hI.cells hi hs (by simp[pgu]);refine .inl ⟨vs,T,by rw[hh];exact k1,k2,fun j hj hj'=>?_⟩
  match j,hj with
  | 0,_=>exact⟨hcell (by simp) (k3 0 (by simp[pgu]) hj').1,(k3 0 (by simp[pgu]) hj').2⟩
  | 1,_=>exact⟨⟨.junk _,fun _ _ _ e=>by cases e⟩,(k3 1 (by simp[pgu]) hj').2⟩
  | 2,_=>exact⟨hcell (by simp) (k3 2 (by simp[pgu]) hj').1,(k3 2 (by simp[pgu]) hj').2⟩
 .rw[T5 (Ne.symm e)]at hc;rcases hI.box i' b' cs hi hc with⟨vs,T',k1,k2,k3⟩|k1;case inr=>exact .inr (k1.mono (am.le.refl _) (fun _ _ h=>h) hh)
  exact .inl ⟨vs,T',by rw[hh];exact k1,k2,fun j hj hj'=>⟨hcell (fun h=>e (Option.some.inj h.1)) (k3 j hj hj').1,(k3 j hj hj').2⟩⟩
theorem Inv.setr{M:am}{bm:List Nat}{σ:LLV}{tk:bA}{pr:Nat->Prop}{w:World}(hI:Inv M bm σ tk pr w):Inv M bm σ tk pr w.drew/\Later M bm pr w M bm w.drew:=hI.ext (dA.drew w)
theorem Inv.pgu_mem{M:am}{bm:List Nat}{σ:LLV}{tk:bA}{pr:Nat->Prop}{w:World}(hI:Inv M bm σ tk pr w){U i b:Nat}{k:Int}{t:List UInt8}(hb0:bm[i]? = some b)(hs:σ[i]? = some (pgu U i t k)):
 ∃T v,w.heap[b]? = some (.cells #[.pointer (some ⟨b,0,none⟩),v,.int .i64 k] T (0,0))/\cV (.int .i64 k)/\w.ownsRow 0 U 1 v t.length (lc t)/\v.ownBlock≠some b/\
  ((v=.slice none 0 0/\t.length=0)\/∃g,tk (some i) 1=some g/\v.ownBlock=some g/\∀o x,M g o=some x->o<t.length):=by
 obtain⟨vs,T,k1,k2,k3⟩:=hI.cells hb0 hs (by simp[pgu])
 match vs,k2 with
 | ⟨[v0,v,v2]⟩,_=>
 have g0:=(k3 0 (by simp[pgu]) (by simp)).1.rep;have g1:=(k3 1 (by simp[pgu]) (by simp)).1;have g2:=(k3 2 (by simp[pgu]) (by simp)).1.rep;simp only[pgu,TW,T3,List.getElem_toArray]at g0 g1 g2;have e0:v0=.pointer (some ⟨b,0,none⟩):=by cases g0 with|ptr h=>rw[hb0]at h;cases h;rfl
 obtain⟨rfl,hf⟩:=Rep.int_inv g2;subst e0;have hd:DRep M (.sl (dbs t)) v:=by cases g1.rep with|own h=>exact h
 refine⟨T,v,k1,hf,?_⟩;rcases g1.own U 1 (dbs t) rfl with⟨rfl,h1⟩|⟨g,xs,h1,h2,h3,h4,h5⟩
 .have ht:t=[]:=List.map_eq_nil_iff.1 h1;subst ht;exact⟨World.ownsRow_nil _ _ _ _,(fun e=>by cases e),.inl ⟨rfl,rfl⟩⟩
 .rw[gL]at h4 h5
  have hne:v.ownBlock≠some b:=by
   rw[h2];intro e;cases e;exact(hI.tok _ _ _ h1).2.1 (TX hb0)
  have hxs:xs=lc t:=by
   by_cases h0:0<t.length
   .obtain⟨q,cp,rfl,-⟩:=eW hd;obtain⟨b1,off1,vs1,rfl,-,hl1,hv1,hd1⟩:=qi hI.facts hd h3 (by rw[gL];exact h0)
    have hob:off1=0:=by
     rcases h4.2 with⟨e,-⟩|⟨g',cap',cur',e,-⟩
     .cases e
     .simp only[Value.slice.injEq]at e;obtain⟨e1,-⟩:=e;cases e1;rfl
    subst hob;have hxl:xs.length=t.length:=by have:=h4.1;omega
    refine List.ext_getElem (by rw[hxl];exact(T0 ..).symm) fun j hj hj'=>?_;have hjt:j<t.length:=by omega
    have hv9:vs1[j]? = some (vs1[j]'(by rw[hl1,gL];omega)):=TY _;have c1:=(hv1 _ _ hv9).2.1;have c2:=h4.cells (g:=b1) rfl _ _ (TY hj);rw[c1]at c2;have d1:=hd1 j 0 (by rw[gL];exact hjt) (by simp[dbs]) (by rw[hl1,gL];omega);rw[<-Option.some.inj c2];simp only[dbs,TZ,TW,T7,T9]at d1;simp only[lc,TZ];generalize vs1[j]'(by rw[hl1,gL];omega)=u at d1;cases d1;rfl
   .have ht:t=[]:=TV (by omega);subst ht;exact TV (by simpa using h4.1)
  subst hxs;exact⟨h4,hne,.inr ⟨g,h1,h2,fun o x hm=>by have:=h5 o x hm;omega⟩⟩
end Go.Proofs.YtnhphlmblenapaaGreatDoor
