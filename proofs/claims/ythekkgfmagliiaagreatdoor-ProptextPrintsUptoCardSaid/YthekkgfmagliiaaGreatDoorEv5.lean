import Derived.Test.YthekkgfmagliiaaGreatDoorEv4
import Derived.Test.YthekkgfmagliiaaGreatDoorK3
import Derived.Test.YthekkgfmagliiaaGreatDoorLib7
import Derived.Test.YthekkgfmagliiaaGreatDoorJoin7
import Derived.Test.YthekkgfmagliiaaGreatDoorNames
import Derived.Test.YthekkgfmagliiaaGreatDoorTProp
import Derived.Test.YthekkgfmagliiaaGreatDoorEt2
import Derived.Test.YthekkgfmagliiaaGreatDoorEv7
set_option linter.unusedVariables false
set_option linter.unusedSimpArgs false
set_option linter.unusedSectionVars false
namespace Go.Proofs.YthekkgfmagliiaaGreatDoor
open Go.RowKit
def oB{α:Type}:List (Nat×α)→Nat→Option α
 | [],_=>none
 | p::r,f=>if f=p.1 then some p.2 else oB r f
theorem jb{α:Type}:∀{l:List (Nat×α)} {f:Nat} {e:α},oB l f=some e→(f,e)∈l
 | [],_,_,h=>by cases h
 | p::r,f,e,h=>by
  unfold oB at h;split at h
  ·rename_i hf;cases h;rw[hf];exact List.mem_cons_self
  ·exact List.mem_cons_of_mem _ (jb h)
def zy:Nat×Ent→Prop
 | (f,.cd c rs k)=>∃fn,G.P.funcs[f]? = some fn∧aK G.tab fn k c rs=true
 | (f,.dd c rs k)=>∃fn,G.P.funcs[f]? = some fn∧m8 G.tab fn k c rs=true
def iO{α:Type}(P:α→Prop):List α→Prop
 | []=>True
 | a::r=>P a∧iO P r
theorem iO.mem{α:Type}{P:α→Prop}:∀{l:List α} {a:α},iO P l→a∈l→P a
 | a::r,b,h,hb=>by
  rcases List.mem_cons.1 hb with rfl|hb
  ·exact h.1
  ·exact h.2.mem hb
def nD:List (Nat×Ent):=[(7,.cd c7 rs7 1),(12,.cd c12 Hf 1),(14,.cd c14 FV 0),(22,.dd c22 FF 2),(23,.cd c23 Ga 2),(24,.cd c24 Hj 1),(31,.cd c31 D7 2),(32,.cd c32 EP 1),(35,.cd c35 Hm 1),(43,.cd c43 ET 1),(45,.cd c45 HA 1),(46,.cd c46 GC 2),(47,.cd c47 G7 2),(48,.cd c48 EX 2),(49,.cd c49 Ei 1),(64,.cd c64 Gu 4),(65,.cd c65 Ho 1),(80,.cd c80 Fj 1),(81,.cd c81 GX 1),(82,.cd c82 EL 1),(83,.cd c83 Es 3),(100,.cd x7 BV 1),(111,.cd GP BL 2),(113,.cd F1 BI 1),(115,.cd Gb B3 1),(116,.cd Gv B8 1),(117,.cd GS Cp 1),(118,.cd Fx Ck 1),(119,.cd GG BH 1),(120,.cd Gm BQ 1),(121,.cd D6 B5 2),(134,.cd DB B7 1),(135,.cd DT Cs 1),(138,.cd D8 Ce 1),(157,.cd HU Cc 2),(165,.cd CV BJ 0),(169,.cd Fi Cg 1),(170,.cd FS BN 1),(198,.cd F9 Cj 1),(199,.cd EI Cy 1),(200,.cd EY BZ 2),(201,.cd Hr Cb 2),(223,.dd HM BT 2),(224,.cd Fd Cl 2),(225,.cd Hk Ci 2),(226,.cd EZ Cf 3),(237,.cd Gk B6 1),(239,.cd EE B4 1),(240,.cd Hg BK 2),(241,.cd EV Cw 2),(242,.cd FO BO 2),(243,.cd EU BU 2),(244,.cd Ek Ch 2),(245,.cd Gt BS 1),(246,.cd Fr Cu 1),(247,.cd GY Cn 2),(248,.cd GB Ca 2),(249,.cd EM BP 1),(250,.cd Eh Cq 1),(251,.cd GZ Co 1),(252,.cd Gp B9 1),(253,.cd Hd Cr 1),(254,.cd E9 Ct 1),(255,.cd Ft B0 1),(256,.cd FP BW 1)]
theorem pP:iO zy nD:=⟨⟨_,Tryz.func7,k7⟩,⟨⟨_,Tryz.func12,k12⟩,⟨⟨_,Tryz.func14,k14⟩,⟨⟨_,Tryz.func22,k22⟩,⟨⟨_,Tryz.func23,k23⟩,⟨⟨_,Tryz.func24,k24⟩,⟨⟨_,Tryz.func31,k31⟩,⟨⟨_,Tryz.func32,k32⟩,⟨⟨_,Tryz.func35,k35⟩,⟨⟨_,Tryz.func43,k43⟩,⟨⟨_,Tryz.func45,k45⟩,⟨⟨_,Tryz.func46,k46⟩,⟨⟨_,Tryz.func47,k47⟩,⟨⟨_,Tryz.func48,k48⟩,⟨⟨_,Tryz.func49,k49⟩,⟨⟨_,Tryz.func64,k64⟩,⟨⟨_,Tryz.func65,k65⟩,⟨⟨_,Tryz.func80,k80⟩,⟨⟨_,Tryz.func81,k81⟩,⟨⟨_,Tryz.func82,k82⟩,⟨⟨_,Tryz.func83,k83⟩,⟨⟨_,Tryz.func100,IJ⟩,⟨⟨_,Tryz.func111,J9⟩,⟨⟨_,Tryz.func113,I2⟩,⟨⟨_,Tryz.func115,Kx⟩,⟨⟨_,Tryz.func116,KF⟩,⟨⟨_,Tryz.func117,IX⟩,⟨⟨_,Tryz.func118,Iv⟩,⟨⟨_,Tryz.func119,KI⟩,⟨⟨_,Tryz.func120,JZ⟩,⟨⟨_,Tryz.func121,JX⟩,⟨⟨_,Tryz.func134,GJ⟩,⟨⟨_,Tryz.func135,FN⟩,⟨⟨_,Tryz.func138,Ke⟩,⟨⟨_,Tryz.func157,JM⟩,⟨⟨_,Tryz.func165,H5⟩,⟨⟨_,Tryz.func169,Jm⟩,⟨⟨_,Tryz.func170,JV⟩,⟨⟨_,Tryz.func198,H8⟩,⟨⟨_,Tryz.func199,Ik⟩,⟨⟨_,Tryz.func200,Kt⟩,⟨⟨_,Tryz.func201,IW⟩,⟨⟨_,Tryz.func223,Im⟩,⟨⟨_,Tryz.func224,Kw⟩,⟨⟨_,Tryz.func225,JE⟩,⟨⟨_,Tryz.func226,Kv⟩,⟨⟨_,Tryz.func237,JW⟩,⟨⟨_,Tryz.func239,J2⟩,⟨⟨_,Tryz.func240,Kn⟩,⟨⟨_,Tryz.func241,I9⟩,⟨⟨_,Tryz.func242,Ig⟩,⟨⟨_,Tryz.func243,Jd⟩,⟨⟨_,Tryz.func244,JL⟩,⟨⟨_,Tryz.func245,Ja⟩,⟨⟨_,Tryz.func246,JS⟩,⟨⟨_,Tryz.func247,Km⟩,⟨⟨_,Tryz.func248,Jj⟩,⟨⟨_,Tryz.func249,Ib⟩,⟨⟨_,Tryz.func250,Ic⟩,⟨⟨_,Tryz.func251,Kc⟩,⟨⟨_,Tryz.func252,IY⟩,⟨⟨_,Tryz.func253,KB⟩,⟨⟨_,Tryz.func254,Ko⟩,⟨⟨_,Tryz.func255,JT⟩,⟨⟨_,Tryz.func256,I6⟩,trivial⟩⟩⟩⟩⟩⟩⟩⟩⟩⟩⟩⟩⟩⟩⟩⟩⟩⟩⟩⟩⟩⟩⟩⟩⟩⟩⟩⟩⟩⟩⟩⟩⟩⟩⟩⟩⟩⟩⟩⟩⟩⟩⟩⟩⟩⟩⟩⟩⟩⟩⟩⟩⟩⟩⟩⟩⟩⟩⟩⟩⟩⟩⟩⟩⟩
def pA:List (Nat×(CdR×Nat)):=[(44,(c44,2)),(236,(Fv,3))]
theorem yr:iO (fun p:Nat×(CdR×Nat)=>∃fn,G.P.funcs[p.1]? = some fn∧nL G.tab fn p.2.2 p.2.1=true) pA:=⟨⟨_,Tryz.func44,k44⟩,⟨⟨_,Tryz.func236,JH⟩,trivial⟩⟩
def lB:List V→Option V
 | [.d (.lit (.string s)),.d (.lit (.string t))]=>if t=⟨#[10]⟩∧s.data.toList.length≤1000000 then some (.d (an (s.data.toList.count 10:Nat)))else none
 | _=>none
def mo:List V→Option V
 | [.d (.lit (.string s)),.d (.lit (.int .i64 a)),.d (.lit (.int .i64 b))]=>if a=10∧b=64∧s.data.toList.length≤1000000 then(match Lib.parseIntB 64 s.data.toList with
  | .ok v=>if -9223372036854775808≤v∧v≤9223372036854775807 then some (.tup [.d (an v),.d (.lit .nilIface)])else none
  | _=>none)else none
 | _=>none
def oc:List V→Option V
 | [.d (.lit (.string s)),.fn f []]=>if s.data.toList.length≤1000000 then(if f=120 then some (.d (an (s.data.toList.takeWhile inn).length))else if f=117 then some (.d (an (s.data.toList.takeWhile dig).length))else if f=113 then some (.d (an (s.data.toList.takeWhile (· != 10)).length))else none)else none
 | _=>none
def mC:List V→Option V
 | [.d (.lit (.string s)),.d (.lit (.int .i32 c))]=>if s=⟨#[32,9,10]⟩∧0≤c∧c<256 then some (.d (.lit (.bool (c.toNat==32||c.toNat==9||c.toNat==10))))else none
 | _=>none
def oj:List V→Option V
 | [.d (.lit (.string s))]=>if s.data.toList.length≤1000000 then some (.d (.lit (.bool (dQ s))))else none
 | _=>none
def oT:List V→Option V
 | [.d (.lit (.int .i64 n))]=>if 0≤n∧n≤1000000∧(Lib.itoa n).length≤100 then some (.d (ak (bs (Lib.itoa n))))else none
 | _=>none
def sN:List V→Option V
 | [.d (.lit (.string s)),.d (.lit (.string t))]=>some (.d (.lit (.bool (t.data.toList.isPrefixOf s.data.toList))))
 | _=>none
def yB:List V→Option V
 | [.d (.lit (.string s))]=>some (.d (.lit (.bool (inB s cm))))
 | _=>none
def ma:List (List D)→Option (List ByteArray)
 | []=>some []
 | [.lit (.string s)]::r=>(ma r).map (s :: ·)
 | _=>none
def oY:List V→Option V
 | [.d (.sl l),.d (.lit (.string t))]=>(match ma l with
  | some ss=>if t=⟨#[32]⟩∧ss.length≤1000000∧(Lib.join (ss.map (·.data.toList)) [32]).length≤1000000 then some (.d (ak (bs (Lib.join (ss.map (·.data.toList)) [32]))))else none
  | none=>none)
 | _=>none
def uH:List V→List V→Bool
 | [],[]=>true
 | a::r,b::s=>eqV a b&&uH r s
 | _,_=>false
theorem tq:∀{a b:List V},uH a b=true→a=b
 | [],[],_=>rfl
 | a::r,b::s,h=>by
  simp only[uH,Bool.and_eq_true]at h;rw[rW h.1,tq h.2]
 | [],_::_,h=>by simp[uH]at h
 | _::_,[],h=>by simp[uH]at h
def k6:List (Nat×List V×V)→Nat→List V→Option V
 | [],_,_=>none
 | p::r,f,a=>if f=p.1∧uH a p.2.1=true then some p.2.2 else k6 r f a
def a7(p:Nat×List V×V):Prop:=∀σ,Fun G p.1 p.2.1 σ (aB p.2.2 σ)
theorem l6:∀{l:List (Nat×List V×V)},iO a7 l→∀{f:Nat} {a:List V} {v:V},k6 l f a=some v→∀σ,Fun G f a σ (aB v σ)
 | [],_,_,_,_,h,_=>by cases h
 | p::r,hl,f,a,v,h,σ=>by
  unfold k6 at h;split at h
  ·rename_i hc;cases h;rw[hc.1,tq hc.2];exact hl.1 σ
  ·exact l6 hl.2 h σ
def mB(facts:List (Nat×List V×V))(f:Nat)(a:List V):Option V:=
 if f=154 then lB a else if f=156 then mo a else if f=112 then oc a else if f=114 then mC a else if f=84 then oj a
 else if f=110 then sN a else if f=85 then yB a else if f=89 then oT a else if f=88 then oY a else k6 facts f a
theorem tP(s:ByteArray):s.size=s.data.toList.length:=rfl
theorem qu{a:List V}{v:V}(h:lB a=some v)(σ:Sg):Fun G 154 a σ (aB v σ):=by
 unfold lB at h;split at h
 ·split at h
  ·rename_i s t hc;cases h;rw[hc.1];have:=vI s.data.toList (by omega) σ;rwa[bZ]at this
  ·cases h
 ·cases h
theorem qz{a:List V}{v:V}(h:mo a=some v)(σ:Sg):Fun G 156 a σ (aB v σ):=by
 unfold mo at h;split at h
 ·split at h
  ·rename_i s x y hc;split at h
   ·rename_i n hn;split at h
    ·rename_i hb;cases h;rw[hc.1,hc.2.1];have:=od s.data.toList n (by omega) hn (show IntKind.min .i64≤n∧n≤IntKind.max .i64 by rw[show IntKind.min .i64 = -9223372036854775808 from rfl,show IntKind.max .i64=9223372036854775807 from rfl];exact hb) σ;rwa[bZ]at this
    ·cases h
   ·cases h
  ·cases h
 ·cases h
theorem qR{a:List V}{v:V}(h:oc a=some v)(σ:Sg):Fun G 112 a σ (aB v σ):=by
 unfold oc at h;split at h
 ·rename_i s f;split at h
  ·rename_i hc;have h1:=yp s.data.toList (by omega) σ;have h2:=xU s.data.toList (by omega) σ;have h3:=vG s.data.toList (by omega) σ;rw[bZ]at h1 h2 h3;split at h
   ·rename_i e;cases h;rw[e];exact h1
   ·split at h
    ·rename_i e;cases h;rw[e];exact h2
    ·split at h
     ·rename_i e;cases h;rw[e];exact h3
     ·cases h
  ·cases h
 ·cases h
theorem qO{a:List V}{v:V}(h:mC a=some v)(σ:Sg):Fun G 114 a σ (aB v σ):=by
 unfold mC at h;split at h
 ·split at h
  ·rename_i s c hc;cases h;obtain⟨rfl,h0,h1⟩:=hc;have:=qv c.toNat (by omega) σ;rwa[show((c.toNat:Nat):Int)=c by omega]at this
  ·cases h
 ·cases h
theorem qX{a:List V}{v:V}(h:oj a=some v)(σ:Sg):Fun G 84 a σ (aB v σ):=by
 unfold oj at h;split at h
 ·split at h
  ·rename_i s hc;cases h;exact qG Tryz.func84 (by kernel_rfl) (by kernel_rfl) trivial fun pr w _=>jz s w (by rw[tP];omega)
  ·cases h
 ·cases h
theorem sw{a:List V}{v:V}(h:oT a=some v)(σ:Sg):Fun G 89 a σ (aB v σ):=by
 unfold oT at h;split at h
 ·split at h
  ·rename_i n hc;cases h;exact lr n (by omega) (by omega) (by have:=hc.2.2;unfold maxLen;omega) σ
  ·cases h
 ·cases h
theorem ub{a:List V}{v:V}(h:sN a=some v)(σ:Sg):Fun G 110 a σ (aB v σ):=by
 unfold sN at h;split at h
 ·rename_i s t;cases h;have:=mK s.data.toList t.data.toList σ;rwa[bZ,bZ]at this
 ·cases h
theorem yY{a:List V}{v:V}(h:yB a=some v)(σ:Sg):Fun G 85 a σ (aB v σ):=by
 unfold yB at h;split at h
 ·rename_i s;cases h;have:=yd s.data.toList σ;rwa[bZ]at this
 ·cases h
theorem nE:∀{l:List (List D)} {ss:List ByteArray},ma l=some ss→l=ss.map fun s=>[ak s]
 | [],_,h=>by cases h;rfl
 | [.lit (.string s)]::r,ss,h=>by
  simp only[ma]at h;cases hr:ma r with
  | none=>rw[hr]at h;cases h
  | some t=>rw[hr]at h;cases h;rw[nE hr];rfl
theorem sy{a:List V}{v:V}(h:oY a=some v)(σ:Sg):Fun G 88 a σ (aB v σ):=by
 unfold oY at h;split at h
 ·split at h
  ·rename_i ss hs;split at h
   ·rename_i hc;cases h;rw[nE hs,hc.1];exact xF ss (by omega) (by omega) σ
   ·cases h
  ·cases h
 ·cases h
theorem wJ{facts:List (Nat×List V×V)}(hf:iO a7 facts){f:Nat}{a:List V}{v:V}(h:mB facts f a=some v)(σ:Sg):Fun G f a σ (aB v σ):=by
 unfold mB at h;repeat' split at h
 ·rename_i e;rw[e];exact qu h σ
 ·rename_i e;rw[e];exact qz h σ
 ·rename_i e;rw[e];exact qR h σ
 ·rename_i e;rw[e];exact qO h σ
 ·rename_i e;rw[e];exact qX h σ
 ·rename_i e;rw[e];exact ub h σ
 ·rename_i e;rw[e];exact yY h σ
 ·rename_i e;rw[e];exact sw h σ
 ·rename_i e;rw[e];exact sy h σ
 ·exact l6 hf h σ
theorem uB{facts:List (Nat×List V×V)}(hf:iO a7 facts):m5 G (oB nD) (oB pA) (mB facts):=
 ⟨fun f c rs k h=>@iO.mem _ zy nD (f,.cd c rs k) pP (jb h),fun f c rs k h=>@iO.mem _ zy nD (f,.dd c rs k) pP (jb h),fun f c k h=>@iO.mem _ _ pA (f,(c,k)) yr (jb h),fun f a v h σ=>wJ hf h σ⟩
noncomputable def E4(facts:List (Nat×List V×V))(n:Nat)(f:Nat)(a:List V):Option (Out×Sg):=evF G (xz G (oB nD) (oB pA) (mB facts) n) (oB nD) (oB pA) (mB facts) 0 f a []
theorem bl{facts:List (Nat×List V×V)}(hf:iO a7 facts)(n:Nat){f:Nat}{a:List V}{v:V}(h:E4 facts n f a=some (.ret v,[]))(ha:a.all (V.under 0)=true)(hx:v.isOwn=false):a7 (f,a,v):=fun σ=>uV ha hx (zR (uB hf) h) σ
end Go.Proofs.YthekkgfmagliiaaGreatDoor
