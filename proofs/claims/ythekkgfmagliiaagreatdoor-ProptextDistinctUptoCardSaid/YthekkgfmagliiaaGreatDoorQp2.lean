import Derived.Test.YthekkgfmagliiaaGreatDoorEv5
import Derived.Test.YthekkgfmagliiaaGreatDoorQp1
import Derived.Test.YthekkgfmagliiaaGreatDoorTSame
import Derived.Test.YthekkgfmagliiaaGreatDoorTProp
import Derived.Test.YthekkgfmagliiaaGreatDoorEv1
set_option linter.unusedVariables false
set_option linter.unusedSimpArgs false
set_option linter.unusedSectionVars false
namespace Go.Proofs.YthekkgfmagliiaaGreatDoor
open Go.RowKit
set_option maxRecDepth 100000
abbrev Fct:=Nat×List V×V
def fOp:Fct:=(165,[],.d (.sl [[an ⟨#[61,62]⟩,ao 21,ao 2],[an ⟨#[124,124]⟩,ao 20,ao 3],[an ⟨#[38,38]⟩,ao 19,ao 4],[an ⟨#[124]⟩,ao 11,ao 5],[an ⟨#[94]⟩,ao 12,ao 6],[an ⟨#[38]⟩,ao 10,ao 7],[an ⟨#[61,61]⟩,ao 15,ao 8],[an ⟨#[33,61]⟩,ao 16,ao 8],[an ⟨#[60]⟩,ao 17,ao 9],[an ⟨#[60,61]⟩,ao 18,ao 9],[an ⟨#[60,60]⟩,ao 13,ao 10],[an ⟨#[62,62]⟩,ao 14,ao 10],[an ⟨#[43]⟩,ao 7,ao 11],[an ⟨#[45]⟩,ao 8,ao 11],[an ⟨#[42]⟩,ao 9,ao 12]]))
theorem IM:bc fOp:=bu (facts:=[]) trivial 200 (by kernel_rfl) (by kernel_rfl) (by kernel_rfl)
def fVd(k n:Int)(s:ByteArray):Fct:=(251,[.agg [.d (ao k),.d (ao n),.d (an s),.d (ao 1)]],.d (.lit (.bool true)))
theorem NM:bc (fVd 1 0 ⟨#[97]⟩):=bu (facts:=[]) trivial 1000 (by kernel_rfl) (by kernel_rfl) (by kernel_rfl)
theorem NG:bc (fVd 1 0 ⟨#[98]⟩):=bu (facts:=[]) trivial 1000 (by kernel_rfl) (by kernel_rfl) (by kernel_rfl)
theorem MV:bc (fVd 1 0 ⟨#[99]⟩):=bu (facts:=[]) trivial 1000 (by kernel_rfl) (by kernel_rfl) (by kernel_rfl)
theorem OQ:bc (fVd 1 0 ⟨#[114,101,113]⟩):=bu (facts:=[]) trivial 1000 (by kernel_rfl) (by kernel_rfl) (by kernel_rfl)
theorem Pa:bc (fVd 1 0 ⟨#[105,100]⟩):=bu (facts:=[]) trivial 1000 (by kernel_rfl) (by kernel_rfl) (by kernel_rfl)
theorem OR:bc (fVd 1 0 ⟨#[97,99,107]⟩):=bu (facts:=[]) trivial 1000 (by kernel_rfl) (by kernel_rfl) (by kernel_rfl)
theorem MU:bc (fVd 1 0 ⟨#[120]⟩):=bu (facts:=[]) trivial 1000 (by kernel_rfl) (by kernel_rfl) (by kernel_rfl)
theorem Ou:bc (fVd 3 1 ⟨#[49]⟩):=bu (facts:=[]) trivial 1000 (by kernel_rfl) (by kernel_rfl) (by kernel_rfl)
theorem Nl:bc (fVd 4 0 ⟨#[125]⟩):=bu (facts:=[]) trivial 1000 (by kernel_rfl) (by kernel_rfl) (by kernel_rfl)
theorem NT:bc (fVd 4 0 ⟨#[41]⟩):=bu (facts:=[]) trivial 1000 (by kernel_rfl) (by kernel_rfl) (by kernel_rfl)
theorem MJ:bc (fVd 4 0 ⟨#[38,38]⟩):=bu (facts:=[]) trivial 1000 (by kernel_rfl) (by kernel_rfl) (by kernel_rfl)
theorem LN:bc (fVd 4 0 ⟨#[61,61]⟩):=bu (facts:=[]) trivial 1000 (by kernel_rfl) (by kernel_rfl) (by kernel_rfl)
def fEx(e:Ex):Fct:=(91,[vex e],.d (ao 0))
theorem kZ{e:Ex}(h1:aQ e≤1000000)(h2:bN e≤1000000)(h:bd e=0):bc (fEx e):=fun σ=>by have:=mz e h1 h2 σ;rwa[h]at this
def fA:List Fct:=[fOp,fVd 1 0 ⟨#[97]⟩,fVd 1 0 ⟨#[98]⟩,fVd 1 0 ⟨#[99]⟩,fVd 1 0 ⟨#[114,101,113]⟩,fVd 1 0 ⟨#[105,100]⟩,fVd 1 0 ⟨#[97,99,107]⟩,fVd 1 0 ⟨#[120]⟩,fVd 3 1 ⟨#[49]⟩,fVd 4 0 ⟨#[125]⟩,fVd 4 0 ⟨#[41]⟩,fVd 4 0 ⟨#[38,38]⟩,fVd 4 0 ⟨#[61,61]⟩,fEx (.mk 2 0 ⟨#[97]⟩ []),fEx (.mk 2 0 ⟨#[98]⟩ []),fEx (.mk 2 0 ⟨#[99]⟩ []),fEx (.mk 2 0 ⟨#[114,101,113]⟩ []),fEx (.mk 2 0 ⟨#[105,100]⟩ []),fEx (.mk 1 1 ⟨#[]⟩ []),fEx (.mk 19 0 ⟨#[]⟩ [.mk 2 0 ⟨#[97,99,107]⟩ [],.mk 15 0 ⟨#[]⟩ [.mk 2 0 ⟨#[105,100]⟩ [],.mk 2 0 ⟨#[120]⟩ []]])]
theorem lV:kJ bc fA:=⟨IM,⟨NM,⟨NG,⟨MV,⟨OQ,⟨Pa,⟨OR,⟨MU,⟨Ou,⟨Nl,⟨NT,⟨MJ,⟨LN,⟨kZ (by decide +kernel) (by decide +kernel) (by decide +kernel),⟨kZ (by decide +kernel) (by decide +kernel) (by decide +kernel),⟨kZ (by decide +kernel) (by decide +kernel) (by decide +kernel),⟨kZ (by decide +kernel) (by decide +kernel) (by decide +kernel),⟨kZ (by decide +kernel) (by decide +kernel) (by decide +kernel),⟨kZ (by decide +kernel) (by decide +kernel) (by decide +kernel),⟨kZ (by decide +kernel) (by decide +kernel) (by decide +kernel),trivial⟩⟩⟩⟩⟩⟩⟩⟩⟩⟩⟩⟩⟩⟩⟩⟩⟩⟩⟩⟩
def tL0:V:=.d (.sl [[ao 4,ao 0,an ⟨#[123]⟩,ao 1],[ao 1,ao 0,an ⟨#[97]⟩,ao 1],[ao 4,ao 0,an ⟨#[125]⟩,ao 1],[ao 4,ao 0,an ⟨#[35,35]⟩,ao 1],[ao 4,ao 0,an ⟨#[91]⟩,ao 1],[ao 3,ao 1,an ⟨#[49]⟩,ao 1],[ao 4,ao 0,an ⟨#[58]⟩,ao 1],[ao 3,ao 3,an ⟨#[51]⟩,ao 1],[ao 4,ao 0,an ⟨#[93]⟩,ao 1],[ao 4,ao 0,an ⟨#[123]⟩,ao 1],[ao 1,ao 0,an ⟨#[98]⟩,ao 1],[ao 4,ao 0,an ⟨#[125]⟩,ao 1],[ao 4,ao 0,an ⟨#[91]⟩,ao 1],[ao 4,ao 0,an ⟨#[42]⟩,ao 1],[ao 3,ao 2,an ⟨#[50]⟩,ao 1],[ao 4,ao 0,an ⟨#[93]⟩,ao 1],[ao 2,ao 0,an ⟨#[111,114]⟩,ao 1],[ao 4,ao 0,an ⟨#[123]⟩,ao 1],[ao 1,ao 0,an ⟨#[99]⟩,ao 1],[ao 4,ao 0,an ⟨#[125]⟩,ao 1]])
def tL1:V:=.d (.sl [[ao 4,ao 0,an ⟨#[123]⟩,ao 1],[ao 1,ao 0,an ⟨#[97]⟩,ao 1],[ao 4,ao 0,an ⟨#[125]⟩,ao 1],[ao 4,ao 0,an ⟨#[35,35]⟩,ao 1]])
def tL2:V:=.d (.sl [[ao 4,ao 0,an ⟨#[123]⟩,ao 1],[ao 1,ao 0,an ⟨#[97]⟩,ao 1],[ao 4,ao 0,an ⟨#[125]⟩,ao 1],[ao 4,ao 0,an ⟨#[91]⟩,ao 1],[ao 4,ao 0,an ⟨#[42]⟩,ao 1],[ao 3,ao 0,an ⟨#[48]⟩,ao 1],[ao 4,ao 0,an ⟨#[58]⟩,ao 1],[ao 3,ao 2,an ⟨#[50]⟩,ao 1],[ao 4,ao 0,an ⟨#[93]⟩,ao 1]])
def tL3:V:=.d (.sl [[ao 2,ao 0,an ⟨#[112,114,111,112,101,114,116,121]⟩,ao 1],[ao 1,ao 0,an ⟨#[112]⟩,ao 1],[ao 4,ao 0,an ⟨#[58]⟩,ao 1],[ao 4,ao 0,an ⟨#[40]⟩,ao 1],[ao 4,ao 0,an ⟨#[123]⟩,ao 1],[ao 1,ao 0,an ⟨#[114,101,113]⟩,ao 1],[ao 4,ao 0,an ⟨#[125]⟩,ao 1],[ao 4,ao 0,an ⟨#[44]⟩,ao 1],[ao 1,ao 0,an ⟨#[120]⟩,ao 1],[ao 4,ao 0,an ⟨#[61]⟩,ao 1],[ao 1,ao 0,an ⟨#[105,100]⟩,ao 1],[ao 4,ao 0,an ⟨#[41]⟩,ao 1],[ao 4,ao 0,an ⟨#[124]⟩,ao 1],[ao 4,ao 0,an ⟨#[45,62]⟩,ao 1],[ao 4,ao 0,an ⟨#[123]⟩,ao 1],[ao 3,ao 1,an ⟨#[49]⟩,ao 1],[ao 4,ao 0,an ⟨#[125]⟩,ao 1],[ao 4,ao 0,an ⟨#[35,35]⟩,ao 1],[ao 3,ao 1,an ⟨#[49]⟩,ao 1],[ao 4,ao 0,an ⟨#[123]⟩,ao 1],[ao 1,ao 0,an ⟨#[97,99,107]⟩,ao 1],[ao 4,ao 0,an ⟨#[38,38]⟩,ao 1],[ao 1,ao 0,an ⟨#[105,100]⟩,ao 1],[ao 4,ao 0,an ⟨#[61,61]⟩,ao 1],[ao 1,ao 0,an ⟨#[120]⟩,ao 1],[ao 4,ao 0,an ⟨#[125]⟩,ao 1],[ao 4,ao 0,an ⟨#[59]⟩,ao 1]])
def fTk(l:V)(i k:Int)(e:Ex):Fct:=(200,[l,.d (ao i)],.tup [vex e,.d (ao k),.d (ao 0)])
theorem Np:bc (fTk tL0 1 2 (.mk 2 0 ⟨#[97]⟩ [])):=bu lV 3000 (by kernel_rfl) (by kernel_rfl) (by kernel_rfl)
theorem NQ:bc (fTk tL0 10 11 (.mk 2 0 ⟨#[98]⟩ [])):=bu lV 3000 (by kernel_rfl) (by kernel_rfl) (by kernel_rfl)
theorem Oe:bc (fTk tL0 18 19 (.mk 2 0 ⟨#[99]⟩ [])):=bu lV 3000 (by kernel_rfl) (by kernel_rfl) (by kernel_rfl)
theorem NL:bc (fTk tL1 1 2 (.mk 2 0 ⟨#[97]⟩ [])):=bu lV 3000 (by kernel_rfl) (by kernel_rfl) (by kernel_rfl)
theorem OK:bc (fTk tL2 1 2 (.mk 2 0 ⟨#[97]⟩ [])):=bu lV 3000 (by kernel_rfl) (by kernel_rfl) (by kernel_rfl)
theorem Nt:bc (fTk tL3 5 6 (.mk 2 0 ⟨#[114,101,113]⟩ [])):=bu lV 3000 (by kernel_rfl) (by kernel_rfl) (by kernel_rfl)
theorem MW:bc (fTk tL3 10 11 (.mk 2 0 ⟨#[105,100]⟩ [])):=bu lV 3000 (by kernel_rfl) (by kernel_rfl) (by kernel_rfl)
theorem Nh:bc (fTk tL3 15 16 (.mk 1 1 ⟨#[]⟩ [])):=bu lV 3000 (by kernel_rfl) (by kernel_rfl) (by kernel_rfl)
theorem Oq:bc (fTk tL3 20 25 (.mk 19 0 ⟨#[]⟩ [.mk 2 0 ⟨#[97,99,107]⟩ [],.mk 15 0 ⟨#[]⟩ [.mk 2 0 ⟨#[105,100]⟩ [],.mk 2 0 ⟨#[120]⟩ []]])):=bu lV 3000 (by kernel_rfl) (by kernel_rfl) (by kernel_rfl)
def fLx(s:Bs)(l:V):Fct:=(43,[.d (an (bs s))],.tup [l,.d (ao 0),.d (ao 0)])
theorem MS:bc (fLx [123,97,125,32,35,35,91,49,58,51,93,32,123,98,125,32,91,42,50,93,32,111,114,32,123,99,125] tL0):=bu (facts:=[]) trivial 5000 (by kernel_rfl) (by kernel_rfl) (by kernel_rfl)
theorem M6:bc (fLx [123,97,125,32,35,35] tL1):=bu (facts:=[]) trivial 5000 (by kernel_rfl) (by kernel_rfl) (by kernel_rfl)
theorem Nq:bc (fLx [123,97,125,32,91,42,48,58,50,93] tL2):=bu (facts:=[]) trivial 5000 (by kernel_rfl) (by kernel_rfl) (by kernel_rfl)
theorem NP:bc (fLx [112,114,111,112,101,114,116,121,32,112,58,32,40,123,114,101,113,125,44,32,120,32,61,32,105,100,41,32,124,45,62,32,123,49,125,32,35,35,49,32,123,97,99,107,32,38,38,32,105,100,32,61,61,32,120,125,59] tL3):=bu (facts:=[]) trivial 5000 (by kernel_rfl) (by kernel_rfl) (by kernel_rfl)
end Go.Proofs.YthekkgfmagliiaaGreatDoor
namespace Go.Proofs.YthekkgfmagliiaaGreatDoor
open Go.RowKit
set_option maxRecDepth 100000
abbrev zE0:Ex:=.mk 0 0 ⟨#[]⟩ []
def cyc(n:ByteArray):Ts:=.mk 1 0 0 (.mk 2 0 n []) ⟨#[]⟩ []
def aqW:Ts:=.mk 4 0 0 zE0 ⟨#[]⟩ [.mk 2 1 3 zE0 ⟨#[]⟩ [cyc ⟨#[97]⟩,.mk 3 2 2 zE0 ⟨#[]⟩ [cyc ⟨#[98]⟩]],cyc ⟨#[99]⟩]
def aqV:Ts:=.mk 3 0 2 zE0 ⟨#[]⟩ [cyc ⟨#[97]⟩]
def aqP:Pr:=⟨⟨#[112]⟩,false,true,.mk 6 0 0 (.mk 2 0 ⟨#[105,100]⟩ []) ⟨#[120]⟩ [cyc ⟨#[114,101,113]⟩],.mk 2 1 1 zE0 ⟨#[]⟩ [.mk 1 0 0 (.mk 1 1 ⟨#[]⟩ []) ⟨#[]⟩ [],.mk 1 0 0 (.mk 19 0 ⟨#[]⟩ [.mk 2 0 ⟨#[97,99,107]⟩ [],.mk 15 0 ⟨#[]⟩ [.mk 2 0 ⟨#[105,100]⟩ [],.mk 2 0 ⟨#[120]⟩ []]]) ⟨#[]⟩ []]⟩
def aqT:Bs:=[112,114,111,112,101,114,116,121,32,112,58,32,40,123,114,101,113,125,44,32,120,32,61,32,105,100,41,32,124,45,62,32,123,49,125,32,35,35,49,32,123,97,99,107,32,38,38,32,105,100,32,61,61,32,120,125,59]
theorem ld:bq aqP.cond≤1000000∧bq aqP.then_≤1000000∧bq aqW≤1000000∧bq aqV≤1000000:=by decide +kernel
theorem N2:bc (33,[vts aqW],.d (ao 0)):=fun σ=>by have:=fj aqW ld.2.2.1 σ;rwa[show cq aqW=0 by decide +kernel]at this
theorem OC:bc (33,[vts aqV],.d (ao 1)):=fun σ=>by have:=fj aqV ld.2.2.2 σ;rwa[show cq aqV=1 by decide +kernel]at this
theorem fVp:bc (25,[vpr aqP],.d (ao 0)):=fun σ=>by have:=ky aqP ld.1 ld.2.1 σ;rwa[show cB aqP=0 by decide +kernel]at this
theorem fSm:bc (13,[vts aqW,vts aqW],.d (.lit (.bool true))):=fun σ=>by have:=iQ aqW aqW ld.2.2.1 σ;rwa[(iw aqW aqW).2 rfl]at this
theorem aq5:mZ aqP=aqT:=by kernel_rfl
theorem fPr:bc (8,[vpr aqP],.d (an (bs aqT))):=fun σ=>by have:=jz aqP ld.1 ld.2.1 σ;rwa[aq5]at this
def fB:List Fct:=[fTk tL0 1 2 (.mk 2 0 ⟨#[97]⟩ []),fTk tL0 10 11 (.mk 2 0 ⟨#[98]⟩ []),fTk tL0 18 19 (.mk 2 0 ⟨#[99]⟩ []),fTk tL1 1 2 (.mk 2 0 ⟨#[97]⟩ []),fTk tL2 1 2 (.mk 2 0 ⟨#[97]⟩ []),fTk tL3 5 6 (.mk 2 0 ⟨#[114,101,113]⟩ []),fTk tL3 10 11 (.mk 2 0 ⟨#[105,100]⟩ []),fTk tL3 15 16 (.mk 1 1 ⟨#[]⟩ []),fTk tL3 20 25 (.mk 19 0 ⟨#[]⟩ [.mk 2 0 ⟨#[97,99,107]⟩ [],.mk 15 0 ⟨#[]⟩ [.mk 2 0 ⟨#[105,100]⟩ [],.mk 2 0 ⟨#[120]⟩ []]]),fLx [123,97,125,32,35,35,91,49,58,51,93,32,123,98,125,32,91,42,50,93,32,111,114,32,123,99,125] tL0,fLx [123,97,125,32,35,35] tL1,fLx [123,97,125,32,91,42,48,58,50,93] tL2,fLx [112,114,111,112,101,114,116,121,32,112,58,32,40,123,114,101,113,125,44,32,120,32,61,32,105,100,41,32,124,45,62,32,123,49,125,32,35,35,49,32,123,97,99,107,32,38,38,32,105,100,32,61,61,32,120,125,59] tL3,(33,[vts aqW],.d (ao 0)),(33,[vts aqV],.d (ao 1)),(25,[vpr aqP],.d (ao 0))]
theorem xO:kJ bc fB:=⟨Np,⟨NQ,⟨Oe,⟨NL,⟨OK,⟨Nt,⟨MW,⟨Nh,⟨Oq,⟨MS,⟨M6,⟨Nq,⟨NP,⟨N2,⟨OC,⟨fVp,trivial⟩⟩⟩⟩⟩⟩⟩⟩⟩⟩⟩⟩⟩⟩⟩⟩
def fPs(s:Bs)(v:Ts)(n e:Int):Fct:=(12,[.d (an (bs s))],.tup [vts v,.d (ao n),.d (ao e)])
def fPa(s:Bs)(v:Pr):Fct:=(7,[.d (an (bs s))],.tup [vpr v,.d (ao 0),.d (ao 0)])
theorem M4:bc (fPs [123,97,125,32,35,35,91,49,58,51,93,32,123,98,125,32,91,42,50,93,32,111,114,32,123,99,125] aqW 0 0):=bu xO 3000 (by kernel_rfl) (by kernel_rfl) (by kernel_rfl)
theorem OY:bc (fPs [123,97,125,32,35,35] zT 1 6):=bu xO 3000 (by kernel_rfl) (by kernel_rfl) (by kernel_rfl)
theorem Oh:bc (fPs [123,97,125,32,91,42,48,58,50,93] zT 0 1):=bu xO 3000 (by kernel_rfl) (by kernel_rfl) (by kernel_rfl)
theorem NK:bc (fPa aqT aqP):=bu xO 3000 (by kernel_rfl) (by kernel_rfl) (by kernel_rfl)
def fC:List Fct:=[fPs [123,97,125,32,35,35,91,49,58,51,93,32,123,98,125,32,91,42,50,93,32,111,114,32,123,99,125] aqW 0 0,fPs [123,97,125,32,35,35] zT 1 6,fPs [123,97,125,32,91,42,48,58,50,93] zT 0 1,fPa aqT aqP,(13,[vts aqW,vts aqW],.d (.lit (.bool true))),(8,[vpr aqP],.d (an (bs aqT)))]
theorem LA:kJ bc fC:=⟨M4,⟨OY,⟨Oh,⟨NK,⟨fSm,⟨fPr,trivial⟩⟩⟩⟩⟩⟩
theorem mi(σ:List (List V)):Fun G 14 [] σ (aG (aA true) σ):=bu LA 1000 (f:=14) (a:=[]) (v:=aA true) (by kernel_rfl) (by kernel_rfl) (by kernel_rfl) σ
end Go.Proofs.YthekkgfmagliiaaGreatDoor
namespace Go.Proofs.YthekkgfmagliiaaGreatDoor
open Go.RowKit
end Go.Proofs.YthekkgfmagliiaaGreatDoor
