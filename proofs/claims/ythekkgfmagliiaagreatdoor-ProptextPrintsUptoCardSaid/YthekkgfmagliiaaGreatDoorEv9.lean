import Derived.Test.YthekkgfmagliiaaGreatDoorEv5
import Derived.Test.YthekkgfmagliiaaGreatDoorQp1
import Derived.Test.YthekkgfmagliiaaGreatDoorTSame
import Derived.Test.YthekkgfmagliiaaGreatDoorTLaw
import Derived.Test.YthekkgfmagliiaaGreatDoorEv1
set_option linter.unusedVariables false
set_option linter.unusedSimpArgs false
set_option linter.unusedSectionVars false
namespace Go.Proofs.YthekkgfmagliiaaGreatDoor
open Go.RowKit
set_option maxRecDepth 100000
abbrev Fct:=Nat×List V×V
def fOp:Fct:=(165,[],.d (.sl [[ak ⟨#[61,62]⟩,an 21,an 2],[ak ⟨#[124,124]⟩,an 20,an 3],[ak ⟨#[38,38]⟩,an 19,an 4],[ak ⟨#[124]⟩,an 11,an 5],[ak ⟨#[94]⟩,an 12,an 6],[ak ⟨#[38]⟩,an 10,an 7],[ak ⟨#[61,61]⟩,an 15,an 8],[ak ⟨#[33,61]⟩,an 16,an 8],[ak ⟨#[60]⟩,an 17,an 9],[ak ⟨#[60,61]⟩,an 18,an 9],[ak ⟨#[60,60]⟩,an 13,an 10],[ak ⟨#[62,62]⟩,an 14,an 10],[ak ⟨#[43]⟩,an 7,an 11],[ak ⟨#[45]⟩,an 8,an 11],[ak ⟨#[42]⟩,an 9,an 12]]))
theorem CI:a7 fOp:=bl (facts:=[]) trivial 200 (by kernel_rfl) (by kernel_rfl) (by kernel_rfl)
def fVd(k n:Int)(s:ByteArray):Fct:=(251,[.agg [.d (an k),.d (an n),.d (ak s),.d (an 1)]],.d (.lit (.bool true)))
theorem IE:a7 (fVd 1 0 ⟨#[97]⟩):=bl (facts:=[]) trivial 1000 (by kernel_rfl) (by kernel_rfl) (by kernel_rfl)
theorem Jk:a7 (fVd 1 0 ⟨#[98]⟩):=bl (facts:=[]) trivial 1000 (by kernel_rfl) (by kernel_rfl) (by kernel_rfl)
theorem Jx:a7 (fVd 1 0 ⟨#[99]⟩):=bl (facts:=[]) trivial 1000 (by kernel_rfl) (by kernel_rfl) (by kernel_rfl)
theorem IK:a7 (fVd 1 0 ⟨#[114,101,113]⟩):=bl (facts:=[]) trivial 1000 (by kernel_rfl) (by kernel_rfl) (by kernel_rfl)
theorem Iw:a7 (fVd 1 0 ⟨#[105,100]⟩):=bl (facts:=[]) trivial 1000 (by kernel_rfl) (by kernel_rfl) (by kernel_rfl)
theorem Ku:a7 (fVd 1 0 ⟨#[97,99,107]⟩):=bl (facts:=[]) trivial 1000 (by kernel_rfl) (by kernel_rfl) (by kernel_rfl)
theorem Ii:a7 (fVd 1 0 ⟨#[120]⟩):=bl (facts:=[]) trivial 1000 (by kernel_rfl) (by kernel_rfl) (by kernel_rfl)
theorem Kr:a7 (fVd 3 1 ⟨#[49]⟩):=bl (facts:=[]) trivial 1000 (by kernel_rfl) (by kernel_rfl) (by kernel_rfl)
theorem KJ:a7 (fVd 4 0 ⟨#[125]⟩):=bl (facts:=[]) trivial 1000 (by kernel_rfl) (by kernel_rfl) (by kernel_rfl)
theorem Io:a7 (fVd 4 0 ⟨#[41]⟩):=bl (facts:=[]) trivial 1000 (by kernel_rfl) (by kernel_rfl) (by kernel_rfl)
theorem Ed:a7 (fVd 4 0 ⟨#[38,38]⟩):=bl (facts:=[]) trivial 1000 (by kernel_rfl) (by kernel_rfl) (by kernel_rfl)
theorem Gn:a7 (fVd 4 0 ⟨#[61,61]⟩):=bl (facts:=[]) trivial 1000 (by kernel_rfl) (by kernel_rfl) (by kernel_rfl)
def fEx(e:Ex):Fct:=(91,[vex e],.d (an 0))
theorem iD{e:Ex}(h1:ba e≤1000000)(h2:bG e≤1000000)(h:bc e=0):a7 (fEx e):=fun σ=>by have:=j7 e h1 h2 σ;rwa[h]at this
def fA:List Fct:=[fOp,fVd 1 0 ⟨#[97]⟩,fVd 1 0 ⟨#[98]⟩,fVd 1 0 ⟨#[99]⟩,fVd 1 0 ⟨#[114,101,113]⟩,fVd 1 0 ⟨#[105,100]⟩,fVd 1 0 ⟨#[97,99,107]⟩,fVd 1 0 ⟨#[120]⟩,fVd 3 1 ⟨#[49]⟩,fVd 4 0 ⟨#[125]⟩,fVd 4 0 ⟨#[41]⟩,fVd 4 0 ⟨#[38,38]⟩,fVd 4 0 ⟨#[61,61]⟩,fEx (.mk 2 0 ⟨#[97]⟩ []),fEx (.mk 2 0 ⟨#[98]⟩ []),fEx (.mk 2 0 ⟨#[99]⟩ []),fEx (.mk 2 0 ⟨#[114,101,113]⟩ []),fEx (.mk 2 0 ⟨#[105,100]⟩ []),fEx (.mk 1 1 ⟨#[]⟩ []),fEx (.mk 19 0 ⟨#[]⟩ [.mk 2 0 ⟨#[97,99,107]⟩ [],.mk 15 0 ⟨#[]⟩ [.mk 2 0 ⟨#[105,100]⟩ [],.mk 2 0 ⟨#[120]⟩ []]])]
theorem iU:iO a7 fA:=⟨CI,⟨IE,⟨Jk,⟨Jx,⟨IK,⟨Iw,⟨Ku,⟨Ii,⟨Kr,⟨KJ,⟨Io,⟨Ed,⟨Gn,⟨iD (by decide +kernel) (by decide +kernel) (by decide +kernel),⟨iD (by decide +kernel) (by decide +kernel) (by decide +kernel),⟨iD (by decide +kernel) (by decide +kernel) (by decide +kernel),⟨iD (by decide +kernel) (by decide +kernel) (by decide +kernel),⟨iD (by decide +kernel) (by decide +kernel) (by decide +kernel),⟨iD (by decide +kernel) (by decide +kernel) (by decide +kernel),⟨iD (by decide +kernel) (by decide +kernel) (by decide +kernel),trivial⟩⟩⟩⟩⟩⟩⟩⟩⟩⟩⟩⟩⟩⟩⟩⟩⟩⟩⟩⟩
def tL0:V:=.d (.sl [[an 4,an 0,ak ⟨#[123]⟩,an 1],[an 1,an 0,ak ⟨#[97]⟩,an 1],[an 4,an 0,ak ⟨#[125]⟩,an 1],[an 4,an 0,ak ⟨#[35,35]⟩,an 1],[an 4,an 0,ak ⟨#[91]⟩,an 1],[an 3,an 1,ak ⟨#[49]⟩,an 1],[an 4,an 0,ak ⟨#[58]⟩,an 1],[an 3,an 3,ak ⟨#[51]⟩,an 1],[an 4,an 0,ak ⟨#[93]⟩,an 1],[an 4,an 0,ak ⟨#[123]⟩,an 1],[an 1,an 0,ak ⟨#[98]⟩,an 1],[an 4,an 0,ak ⟨#[125]⟩,an 1],[an 4,an 0,ak ⟨#[91]⟩,an 1],[an 4,an 0,ak ⟨#[42]⟩,an 1],[an 3,an 2,ak ⟨#[50]⟩,an 1],[an 4,an 0,ak ⟨#[93]⟩,an 1],[an 2,an 0,ak ⟨#[111,114]⟩,an 1],[an 4,an 0,ak ⟨#[123]⟩,an 1],[an 1,an 0,ak ⟨#[99]⟩,an 1],[an 4,an 0,ak ⟨#[125]⟩,an 1]])
def tL1:V:=.d (.sl [[an 4,an 0,ak ⟨#[123]⟩,an 1],[an 1,an 0,ak ⟨#[97]⟩,an 1],[an 4,an 0,ak ⟨#[125]⟩,an 1],[an 4,an 0,ak ⟨#[35,35]⟩,an 1]])
def tL2:V:=.d (.sl [[an 4,an 0,ak ⟨#[123]⟩,an 1],[an 1,an 0,ak ⟨#[97]⟩,an 1],[an 4,an 0,ak ⟨#[125]⟩,an 1],[an 4,an 0,ak ⟨#[91]⟩,an 1],[an 4,an 0,ak ⟨#[42]⟩,an 1],[an 3,an 0,ak ⟨#[48]⟩,an 1],[an 4,an 0,ak ⟨#[58]⟩,an 1],[an 3,an 2,ak ⟨#[50]⟩,an 1],[an 4,an 0,ak ⟨#[93]⟩,an 1]])
def tL3:V:=.d (.sl [[an 2,an 0,ak ⟨#[112,114,111,112,101,114,116,121]⟩,an 1],[an 1,an 0,ak ⟨#[112]⟩,an 1],[an 4,an 0,ak ⟨#[58]⟩,an 1],[an 4,an 0,ak ⟨#[40]⟩,an 1],[an 4,an 0,ak ⟨#[123]⟩,an 1],[an 1,an 0,ak ⟨#[114,101,113]⟩,an 1],[an 4,an 0,ak ⟨#[125]⟩,an 1],[an 4,an 0,ak ⟨#[44]⟩,an 1],[an 1,an 0,ak ⟨#[120]⟩,an 1],[an 4,an 0,ak ⟨#[61]⟩,an 1],[an 1,an 0,ak ⟨#[105,100]⟩,an 1],[an 4,an 0,ak ⟨#[41]⟩,an 1],[an 4,an 0,ak ⟨#[124]⟩,an 1],[an 4,an 0,ak ⟨#[45,62]⟩,an 1],[an 4,an 0,ak ⟨#[123]⟩,an 1],[an 3,an 1,ak ⟨#[49]⟩,an 1],[an 4,an 0,ak ⟨#[125]⟩,an 1],[an 4,an 0,ak ⟨#[35,35]⟩,an 1],[an 3,an 1,ak ⟨#[49]⟩,an 1],[an 4,an 0,ak ⟨#[123]⟩,an 1],[an 1,an 0,ak ⟨#[97,99,107]⟩,an 1],[an 4,an 0,ak ⟨#[38,38]⟩,an 1],[an 1,an 0,ak ⟨#[105,100]⟩,an 1],[an 4,an 0,ak ⟨#[61,61]⟩,an 1],[an 1,an 0,ak ⟨#[120]⟩,an 1],[an 4,an 0,ak ⟨#[125]⟩,an 1],[an 4,an 0,ak ⟨#[59]⟩,an 1]])
def fTk(l:V)(i k:Int)(e:Ex):Fct:=(200,[l,.d (an i)],.tup [vex e,.d (an k),.d (an 0)])
theorem Jh:a7 (fTk tL0 1 2 (.mk 2 0 ⟨#[97]⟩ [])):=bl iU 3000 (by kernel_rfl) (by kernel_rfl) (by kernel_rfl)
theorem JY:a7 (fTk tL0 10 11 (.mk 2 0 ⟨#[98]⟩ [])):=bl iU 3000 (by kernel_rfl) (by kernel_rfl) (by kernel_rfl)
theorem Iz:a7 (fTk tL0 18 19 (.mk 2 0 ⟨#[99]⟩ [])):=bl iU 3000 (by kernel_rfl) (by kernel_rfl) (by kernel_rfl)
theorem Ia:a7 (fTk tL1 1 2 (.mk 2 0 ⟨#[97]⟩ [])):=bl iU 3000 (by kernel_rfl) (by kernel_rfl) (by kernel_rfl)
theorem Jp:a7 (fTk tL2 1 2 (.mk 2 0 ⟨#[97]⟩ [])):=bl iU 3000 (by kernel_rfl) (by kernel_rfl) (by kernel_rfl)
theorem Ie:a7 (fTk tL3 5 6 (.mk 2 0 ⟨#[114,101,113]⟩ [])):=bl iU 3000 (by kernel_rfl) (by kernel_rfl) (by kernel_rfl)
theorem Iu:a7 (fTk tL3 10 11 (.mk 2 0 ⟨#[105,100]⟩ [])):=bl iU 3000 (by kernel_rfl) (by kernel_rfl) (by kernel_rfl)
theorem IO:a7 (fTk tL3 15 16 (.mk 1 1 ⟨#[]⟩ [])):=bl iU 3000 (by kernel_rfl) (by kernel_rfl) (by kernel_rfl)
theorem Kg:a7 (fTk tL3 20 25 (.mk 19 0 ⟨#[]⟩ [.mk 2 0 ⟨#[97,99,107]⟩ [],.mk 15 0 ⟨#[]⟩ [.mk 2 0 ⟨#[105,100]⟩ [],.mk 2 0 ⟨#[120]⟩ []]])):=bl iU 3000 (by kernel_rfl) (by kernel_rfl) (by kernel_rfl)
def fLx(s:Bs)(l:V):Fct:=(43,[.d (ak (bs s))],.tup [l,.d (an 0),.d (an 0)])
theorem Js:a7 (fLx [123,97,125,32,35,35,91,49,58,51,93,32,123,98,125,32,91,42,50,93,32,111,114,32,123,99,125] tL0):=bl (facts:=[]) trivial 5000 (by kernel_rfl) (by kernel_rfl) (by kernel_rfl)
theorem Il:a7 (fLx [123,97,125,32,35,35] tL1):=bl (facts:=[]) trivial 5000 (by kernel_rfl) (by kernel_rfl) (by kernel_rfl)
theorem Ix:a7 (fLx [123,97,125,32,91,42,48,58,50,93] tL2):=bl (facts:=[]) trivial 5000 (by kernel_rfl) (by kernel_rfl) (by kernel_rfl)
theorem Jr:a7 (fLx [112,114,111,112,101,114,116,121,32,112,58,32,40,123,114,101,113,125,44,32,120,32,61,32,105,100,41,32,124,45,62,32,123,49,125,32,35,35,49,32,123,97,99,107,32,38,38,32,105,100,32,61,61,32,120,125,59] tL3):=bl (facts:=[]) trivial 5000 (by kernel_rfl) (by kernel_rfl) (by kernel_rfl)
end Go.Proofs.YthekkgfmagliiaaGreatDoor
namespace Go.Proofs.YthekkgfmagliiaaGreatDoor
open Go.RowKit
set_option maxRecDepth 100000
abbrev zE0:Ex:=.mk 0 0 ⟨#[]⟩ []
def cyc(n:ByteArray):Ts:=.mk 1 0 0 (.mk 2 0 n []) ⟨#[]⟩ []
def aqW:Ts:=.mk 4 0 0 zE0 ⟨#[]⟩ [.mk 2 1 3 zE0 ⟨#[]⟩ [cyc ⟨#[97]⟩,.mk 3 2 2 zE0 ⟨#[]⟩ [cyc ⟨#[98]⟩]],cyc ⟨#[99]⟩]
def aqV:Ts:=.mk 3 0 2 zE0 ⟨#[]⟩ [cyc ⟨#[97]⟩]
def aqP:Pr:=⟨⟨#[112]⟩,false,true,.mk 6 0 0 (.mk 2 0 ⟨#[105,100]⟩ []) ⟨#[120]⟩ [cyc ⟨#[114,101,113]⟩],.mk 2 1 1 zE0 ⟨#[]⟩ [.mk 1 0 0 (.mk 1 1 ⟨#[]⟩ []) ⟨#[]⟩ [],.mk 1 0 0 (.mk 19 0 ⟨#[]⟩ [.mk 2 0 ⟨#[97,99,107]⟩ [],.mk 15 0 ⟨#[]⟩ [.mk 2 0 ⟨#[105,100]⟩ [],.mk 2 0 ⟨#[120]⟩ []]]) ⟨#[]⟩ []]⟩
def aqT:Bs:=[112,114,111,112,101,114,116,121,32,112,58,32,40,123,114,101,113,125,44,32,120,32,61,32,105,100,41,32,124,45,62,32,123,49,125,32,35,35,49,32,123,97,99,107,32,38,38,32,105,100,32,61,61,32,120,125,59]
theorem iQ:bC aqP.cond≤1000000∧bC aqP.then_≤1000000∧bC aqW≤1000000∧bC aqV≤1000000:=by decide +kernel
theorem J1:a7 (33,[vts aqW],.d (an 0)):=fun σ=>by have:=d6 aqW iQ.2.2.1 σ;rwa[show b7 aqW=0 by decide +kernel]at this
theorem Jg:a7 (33,[vts aqV],.d (an 1)):=fun σ=>by have:=d6 aqV iQ.2.2.2 σ;rwa[show b7 aqV=1 by decide +kernel]at this
theorem fVp:a7 (25,[vpr aqP],.d (an 0)):=fun σ=>by have:=ip aqP iQ.1 iQ.2.1 σ;rwa[show c6 aqP=0 by decide +kernel]at this
theorem fSm:a7 (13,[vts aqW,vts aqW],.d (.lit (.bool true))):=fun σ=>by have:=rF aqW aqW iQ.2.2.1 σ;rwa[(jB aqW aqW).2 rfl]at this
theorem aq5:nf aqP=aqT:=by kernel_rfl
theorem fPr:a7 (8,[vpr aqP],.d (ak (bs aqT))):=fun σ=>by have:=kK aqP iQ.1 iQ.2.1 σ;rwa[aq5]at this
def fB:List Fct:=[fTk tL0 1 2 (.mk 2 0 ⟨#[97]⟩ []),fTk tL0 10 11 (.mk 2 0 ⟨#[98]⟩ []),fTk tL0 18 19 (.mk 2 0 ⟨#[99]⟩ []),fTk tL1 1 2 (.mk 2 0 ⟨#[97]⟩ []),fTk tL2 1 2 (.mk 2 0 ⟨#[97]⟩ []),fTk tL3 5 6 (.mk 2 0 ⟨#[114,101,113]⟩ []),fTk tL3 10 11 (.mk 2 0 ⟨#[105,100]⟩ []),fTk tL3 15 16 (.mk 1 1 ⟨#[]⟩ []),fTk tL3 20 25 (.mk 19 0 ⟨#[]⟩ [.mk 2 0 ⟨#[97,99,107]⟩ [],.mk 15 0 ⟨#[]⟩ [.mk 2 0 ⟨#[105,100]⟩ [],.mk 2 0 ⟨#[120]⟩ []]]),fLx [123,97,125,32,35,35,91,49,58,51,93,32,123,98,125,32,91,42,50,93,32,111,114,32,123,99,125] tL0,fLx [123,97,125,32,35,35] tL1,fLx [123,97,125,32,91,42,48,58,50,93] tL2,fLx [112,114,111,112,101,114,116,121,32,112,58,32,40,123,114,101,113,125,44,32,120,32,61,32,105,100,41,32,124,45,62,32,123,49,125,32,35,35,49,32,123,97,99,107,32,38,38,32,105,100,32,61,61,32,120,125,59] tL3,(33,[vts aqW],.d (an 0)),(33,[vts aqV],.d (an 1)),(25,[vpr aqP],.d (an 0))]
theorem tB:iO a7 fB:=⟨Jh,⟨JY,⟨Iz,⟨Ia,⟨Jp,⟨Ie,⟨Iu,⟨IO,⟨Kg,⟨Js,⟨Il,⟨Ix,⟨Jr,⟨J1,⟨Jg,⟨fVp,trivial⟩⟩⟩⟩⟩⟩⟩⟩⟩⟩⟩⟩⟩⟩⟩⟩
def fPs(s:Bs)(v:Ts)(n e:Int):Fct:=(12,[.d (ak (bs s))],.tup [vts v,.d (an n),.d (an e)])
def fPa(s:Bs)(v:Pr):Fct:=(7,[.d (ak (bs s))],.tup [vpr v,.d (an 0),.d (an 0)])
theorem Iy:a7 (fPs [123,97,125,32,35,35,91,49,58,51,93,32,123,98,125,32,91,42,50,93,32,111,114,32,123,99,125] aqW 0 0):=bl tB 3000 (by kernel_rfl) (by kernel_rfl) (by kernel_rfl)
theorem J3:a7 (fPs [123,97,125,32,35,35] zT 1 6):=bl tB 3000 (by kernel_rfl) (by kernel_rfl) (by kernel_rfl)
theorem Id:a7 (fPs [123,97,125,32,91,42,48,58,50,93] zT 0 1):=bl tB 3000 (by kernel_rfl) (by kernel_rfl) (by kernel_rfl)
theorem KE:a7 (fPa aqT aqP):=bl tB 3000 (by kernel_rfl) (by kernel_rfl) (by kernel_rfl)
def fC:List Fct:=[fPs [123,97,125,32,35,35,91,49,58,51,93,32,123,98,125,32,91,42,50,93,32,111,114,32,123,99,125] aqW 0 0,fPs [123,97,125,32,35,35] zT 1 6,fPs [123,97,125,32,91,42,48,58,50,93] zT 0 1,fPa aqT aqP,(13,[vts aqW,vts aqW],.d (.lit (.bool true))),(8,[vpr aqP],.d (ak (bs aqT)))]
theorem EJ:iO a7 fC:=⟨Iy,⟨J3,⟨Id,⟨KE,⟨fSm,⟨fPr,trivial⟩⟩⟩⟩⟩⟩
theorem vg(σ:List (List V)):Fun G 14 [] σ (aB (aD true) σ):=bl EJ 1000 (f:=14) (a:=[]) (v:=aD true) (by kernel_rfl) (by kernel_rfl) (by kernel_rfl) σ
end Go.Proofs.YthekkgfmagliiaaGreatDoor
