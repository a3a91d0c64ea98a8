import Derived.Test.YthekkgfmagliiaaGreatDoorEv4
import Derived.Test.YthekkgfmagliiaaGreatDoorK3
import Derived.Test.YthekkgfmagliiaaGreatDoorJoin7
import Derived.Test.YthekkgfmagliiaaGreatDoorNames
import Derived.Test.YthekkgfmagliiaaGreatDoorTProp
import Derived.Test.YthekkgfmagliiaaGreatDoorEt2
import Derived.Test.YthekkgfmagliiaaGreatDoorEv7
set_option linter.unusedVariables false
set_option linter.unusedSimpArgs false
set_option linter.unusedSectionVars false
namespace Go.Proofs.YthekkgfmagliiaaGreatDoor
open Go.RowKit
def sT{α:Type}:List (Nat×α)→Nat→Option α
 | [],_=>none
 | p::r,f=>if f=p.1 then some p.2 else sT r f
theorem ll{α:Type}:∀{l:List (Nat×α)} {f:Nat} {e:α},sT l f=some e→(f,e)∈l
 | [],_,_,h=>by cases h
 | p::r,f,e,h=>by
  unfold sT at h;split at h
  ·rename_i hf;cases h;rw[hf];exact List.mem_cons_self
  ·exact List.mem_cons_of_mem _ (ll h)
def CU:Nat×Ent→Prop
 | (f,.cd c rs k)=>∃fn,G.P.funcs[f]? = some fn∧aM G.tab fn k c rs=true
 | (f,.dd c rs k)=>∃fn,G.P.funcs[f]? = some fn∧qV G.tab fn k c rs=true
def kJ{α:Type}(P:α→Prop):List α→Prop
 | []=>True
 | a::r=>P a∧kJ P r
theorem kJ.mem{α:Type}{P:α→Prop}:∀{l:List α} {a:α},kJ P l→a∈l→P a
 | a::r,b,h,hb=>by
  rcases List.mem_cons.1 hb with rfl|hb
  ·exact h.1
  ·exact h.2.mem hb
def rk:List (Nat×Ent):=[(7,.cd c7 rs7 1),(12,.cd c12 My 1),(14,.cd c14 Kz 0),(22,.dd c22 Ly 2),(23,.cd c23 JL 2),(24,.cd c24 MD 1),(31,.cd c31 Ml 2),(32,.cd c32 KL 1),(35,.cd c35 LL 1),(43,.cd c43 Lr 1),(45,.cd c45 JV 1),(46,.cd c46 K4 2),(47,.cd c47 Kx 2),(48,.cd c48 JY 2),(49,.cd c49 JI 1),(64,.cd c64 Mt 4),(65,.cd c65 J5 1),(80,.cd c80 Le 1),(81,.cd c81 Li 1),(82,.cd c82 KO 1),(83,.cd c83 JA 3),(100,.cd C0 Hi 1),(111,.cd L4 G0 2),(113,.cd Kp GP 1),(115,.cd Mi Ha 1),(116,.cd LZ GA 1),(117,.cd Mp GO 1),(118,.cd Mv Gy 1),(119,.cd KW Gn 1),(120,.cd LV Gt 1),(121,.cd L5 GL 2),(134,.cd I5 Hj 1),(135,.cd Ih Hm 1),(138,.cd JJ Gw 1),(157,.cd Ki He 2),(165,.cd I0 GQ 0),(169,.cd JM GZ 1),(170,.cd JS GS 1),(198,.cd Mx Hb 1),(199,.cd LU G9 1),(200,.cd Ls Hg 2),(201,.cd Mk Gr 2),(223,.dd KV GC 2),(224,.cd J9 Ho 2),(225,.cd KD GR 2),(226,.cd Lz Gv 3),(237,.cd Mo Hh 1),(239,.cd KE GI 1),(240,.cd KR GW 2),(241,.cd Lc G2 2),(242,.cd MG Gp 2),(243,.cd Mm GF 2),(244,.cd LC Hf 2),(245,.cd LS Hl 1),(246,.cd JQ GU 1),(247,.cd L7 GX 2),(248,.cd JB GE 2),(249,.cd Lb G7 1),(250,.cd Kb Gu 1),(251,.cd K8 GB 1),(252,.cd KZ Gq 1),(253,.cd Ms G8 1),(254,.cd Lg G6 1),(255,.cd JP GH 1),(256,.cd Kf Gm 1)]
theorem ua:kJ CU rk:=⟨⟨_,Tryz.func7,k7⟩,⟨⟨_,Tryz.func12,k12⟩,⟨⟨_,Tryz.func14,k14⟩,⟨⟨_,Tryz.func22,k22⟩,⟨⟨_,Tryz.func23,k23⟩,⟨⟨_,Tryz.func24,k24⟩,⟨⟨_,Tryz.func31,k31⟩,⟨⟨_,Tryz.func32,k32⟩,⟨⟨_,Tryz.func35,k35⟩,⟨⟨_,Tryz.func43,k43⟩,⟨⟨_,Tryz.func45,k45⟩,⟨⟨_,Tryz.func46,k46⟩,⟨⟨_,Tryz.func47,k47⟩,⟨⟨_,Tryz.func48,k48⟩,⟨⟨_,Tryz.func49,k49⟩,⟨⟨_,Tryz.func64,k64⟩,⟨⟨_,Tryz.func65,k65⟩,⟨⟨_,Tryz.func80,k80⟩,⟨⟨_,Tryz.func81,k81⟩,⟨⟨_,Tryz.func82,k82⟩,⟨⟨_,Tryz.func83,k83⟩,⟨⟨_,Tryz.func100,N6⟩,⟨⟨_,Tryz.func111,OM⟩,⟨⟨_,Tryz.func113,Ox⟩,⟨⟨_,Tryz.func115,Od⟩,⟨⟨_,Tryz.func116,OZ⟩,⟨⟨_,Tryz.func117,Nw⟩,⟨⟨_,Tryz.func118,NE⟩,⟨⟨_,Tryz.func119,NF⟩,⟨⟨_,Tryz.func120,Og⟩,⟨⟨_,Tryz.func121,OX⟩,⟨⟨_,Tryz.func134,Mh⟩,⟨⟨_,Tryz.func135,Jy⟩,⟨⟨_,Tryz.func138,MY⟩,⟨⟨_,Tryz.func157,On⟩,⟨⟨_,Tryz.func165,LW⟩,⟨⟨_,Tryz.func169,Pd⟩,⟨⟨_,Tryz.func170,MO⟩,⟨⟨_,Tryz.func198,Om⟩,⟨⟨_,Tryz.func199,Pb⟩,⟨⟨_,Tryz.func200,Oj⟩,⟨⟨_,Tryz.func201,Oy⟩,⟨⟨_,Tryz.func223,NV⟩,⟨⟨_,Tryz.func224,OJ⟩,⟨⟨_,Tryz.func225,OW⟩,⟨⟨_,Tryz.func226,MZ⟩,⟨⟨_,Tryz.func237,Ok⟩,⟨⟨_,Tryz.func239,N1⟩,⟨⟨_,Tryz.func240,ON⟩,⟨⟨_,Tryz.func241,NR⟩,⟨⟨_,Tryz.func242,N8⟩,⟨⟨_,Tryz.func243,OD⟩,⟨⟨_,Tryz.func244,MX⟩,⟨⟨_,Tryz.func245,Nc⟩,⟨⟨_,Tryz.func246,Ob⟩,⟨⟨_,Tryz.func247,NN⟩,⟨⟨_,Tryz.func248,Oc⟩,⟨⟨_,Tryz.func249,N0⟩,⟨⟨_,Tryz.func250,Ny⟩,⟨⟨_,Tryz.func251,Nn⟩,⟨⟨_,Tryz.func252,MP⟩,⟨⟨_,Tryz.func253,Nf⟩,⟨⟨_,Tryz.func254,NA⟩,⟨⟨_,Tryz.func255,Ni⟩,⟨⟨_,Tryz.func256,NJ⟩,trivial⟩⟩⟩⟩⟩⟩⟩⟩⟩⟩⟩⟩⟩⟩⟩⟩⟩⟩⟩⟩⟩⟩⟩⟩⟩⟩⟩⟩⟩⟩⟩⟩⟩⟩⟩⟩⟩⟩⟩⟩⟩⟩⟩⟩⟩⟩⟩⟩⟩⟩⟩⟩⟩⟩⟩⟩⟩⟩⟩⟩⟩⟩⟩⟩⟩
def sZ:List (Nat×(CdR×Nat)):=[(44,(c44,2)),(236,(Kv,3))]
theorem CB:kJ (fun p:Nat×(CdR×Nat)=>∃fn,G.P.funcs[p.1]? = some fn∧qy G.tab fn p.2.2 p.2.1=true) sZ:=⟨⟨_,Tryz.func44,k44⟩,⟨⟨_,Tryz.func236,NS⟩,trivial⟩⟩
def o9:List V→Option V
 | [.d (.lit (.string s)),.d (.lit (.string t))]=>if t=⟨#[10]⟩∧s.data.toList.length≤1000000 then some (.d (ao (s.data.toList.count 10:Nat)))else none
 | _=>none
def pt:List V→Option V
 | [.d (.lit (.string s)),.d (.lit (.int .i64 a)),.d (.lit (.int .i64 b))]=>if a=10∧b=64∧s.data.toList.length≤1000000 then(match Lib.parseIntB 64 s.data.toList with
  | .ok v=>if -9223372036854775808≤v∧v≤9223372036854775807 then some (.tup [.d (ao v),.d (.lit .nilIface)])else none
  | _=>none)else none
 | _=>none
def sx:List V→Option V
 | [.d (.lit (.string s)),.fn f []]=>if s.data.toList.length≤1000000 then(if f=120 then some (.d (ao (s.data.toList.takeWhile inn).length))else if f=117 then some (.d (ao (s.data.toList.takeWhile dig).length))else if f=113 then some (.d (ao (s.data.toList.takeWhile (· != 10)).length))else none)else none
 | _=>none
def ph:List V→Option V
 | [.d (.lit (.string s)),.d (.lit (.int .i32 c))]=>if s=⟨#[32,9,10]⟩∧0≤c∧c<256 then some (.d (.lit (.bool (c.toNat==32||c.toNat==9||c.toNat==10))))else none
 | _=>none
def rK:List V→Option V
 | [.d (.lit (.string s))]=>if s.data.toList.length≤1000000 then some (.d (.lit (.bool (eq s))))else none
 | _=>none
def sn:List V→Option V
 | [.d (.lit (.int .i64 n))]=>if 0≤n∧n≤1000000∧(Lib.itoa n).length≤100 then some (.d (an (bs (Lib.itoa n))))else none
 | _=>none
def xl:List V→Option V
 | [.d (.lit (.string s)),.d (.lit (.string t))]=>some (.d (.lit (.bool (t.data.toList.isPrefixOf s.data.toList))))
 | _=>none
def Cy:List V→Option V
 | [.d (.lit (.string s))]=>some (.d (.lit (.bool (inB s dx))))
 | _=>none
def oL:List (List D)→Option (List ByteArray)
 | []=>some []
 | [.lit (.string s)]::r=>(oL r).map (s :: ·)
 | _=>none
def rR:List V→Option V
 | [.d (.sl l),.d (.lit (.string t))]=>(match oL l with
  | some ss=>if t=⟨#[32]⟩∧ss.length≤1000000∧(Lib.join (ss.map (·.data.toList)) [32]).length≤1000000 then some (.d (an (bs (Lib.join (ss.map (·.data.toList)) [32]))))else none
  | none=>none)
 | _=>none
def A2:List V→List V→Bool
 | [],[]=>true
 | a::r,b::s=>eqV a b&&A2 r s
 | _,_=>false
theorem xE:∀{a b:List V},A2 a b=true→a=b
 | [],[],_=>rfl
 | a::r,b::s,h=>by
  simp only[A2,Bool.and_eq_true]at h;rw[vB h.1,xE h.2]
 | [],_::_,h=>by simp[A2]at h
 | _::_,[],h=>by simp[A2]at h
def nz:List (Nat×List V×V)→Nat→List V→Option V
 | [],_,_=>none
 | p::r,f,a=>if f=p.1∧A2 a p.2.1=true then some p.2.2 else nz r f a
def bc(p:Nat×List V×V):Prop:=∀σ,Fun G p.1 p.2.1 σ (aG p.2.2 σ)
theorem oT:∀{l:List (Nat×List V×V)},kJ bc l→∀{f:Nat} {a:List V} {v:V},nz l f a=some v→∀σ,Fun G f a σ (aG v σ)
 | [],_,_,_,_,h,_=>by cases h
 | p::r,hl,f,a,v,h,σ=>by
  unfold nz at h;split at h
  ·rename_i hc;cases h;rw[hc.1,xE hc.2];exact hl.1 σ
  ·exact oT hl.2 h σ
def nW(facts:List (Nat×List V×V))(f:Nat)(a:List V):Option V:=
 if f=154 then o9 a else if f=156 then pt a else if f=112 then sx a else if f=114 then ph a else if f=84 then rK a
 else if f=110 then xl a else if f=85 then Cy a else if f=89 then sn a else if f=88 then rR a else nz facts f a
theorem A8(s:ByteArray):s.size=s.data.toList.length:=rfl
theorem u0{a:List V}{v:V}(h:o9 a=some v)(σ:Sg):Fun G 154 a σ (aG v σ):=by
 unfold o9 at h;split at h
 ·split at h
  ·rename_i s t hc;cases h;rw[hc.1];have:=zl s.data.toList (by omega) σ;rwa[ef]at this
  ·cases h
 ·cases h
theorem uv{a:List V}{v:V}(h:pt a=some v)(σ:Sg):Fun G 156 a σ (aG v σ):=by
 unfold pt at h;split at h
 ·split at h
  ·rename_i s x y hc;split at h
   ·rename_i n hn;split at h
    ·rename_i hb;cases h;rw[hc.1,hc.2.1];have:=sc s.data.toList n (by omega) hn (show IntKind.min .i64≤n∧n≤IntKind.max .i64 by rw[show IntKind.min .i64 = -9223372036854775808 from rfl,show IntKind.max .i64=9223372036854775807 from rfl];exact hb) σ;rwa[ef]at this
    ·cases h
   ·cases h
  ·cases h
 ·cases h
theorem wu{a:List V}{v:V}(h:sx a=some v)(σ:Sg):Fun G 112 a σ (aG v σ):=by
 unfold sx at h;split at h
 ·rename_i s f;split at h
  ·rename_i hc;have h1:=Dn s.data.toList (by omega) σ;have h2:=Ct s.data.toList (by omega) σ;have h3:=yI s.data.toList (by omega) σ;rw[ef]at h1 h2 h3;split at h
   ·rename_i e;cases h;rw[e];exact h1
   ·split at h
    ·rename_i e;cases h;rw[e];exact h2
    ·split at h
     ·rename_i e;cases h;rw[e];exact h3
     ·cases h
  ·cases h
 ·cases h
theorem uJ{a:List V}{v:V}(h:ph a=some v)(σ:Sg):Fun G 114 a σ (aG v σ):=by
 unfold ph at h;split at h
 ·split at h
  ·rename_i s c hc;cases h;obtain⟨rfl,h0,h1⟩:=hc;have:=sW c.toNat (by omega) σ;rwa[show((c.toNat:Nat):Int)=c by omega]at this
  ·cases h
 ·cases h
theorem ww{a:List V}{v:V}(h:rK a=some v)(σ:Sg):Fun G 84 a σ (aG v σ):=by
 unfold rK at h;split at h
 ·split at h
  ·rename_i s hc;cases h;exact tW Tryz.func84 (by kernel_rfl) (by kernel_rfl) trivial fun pr w _=>li s w (by rw[A8];omega)
  ·cases h
 ·cases h
theorem vJ{a:List V}{v:V}(h:sn a=some v)(σ:Sg):Fun G 89 a σ (aG v σ):=by
 unfold sn at h;split at h
 ·split at h
  ·rename_i n hc;cases h;exact oP n (by omega) (by omega) (by have:=hc.2.2;unfold maxLen;omega) σ
  ·cases h
 ·cases h
theorem yL{a:List V}{v:V}(h:xl a=some v)(σ:Sg):Fun G 110 a σ (aG v σ):=by
 unfold xl at h;split at h
 ·rename_i s t;cases h;have:=qf s.data.toList t.data.toList σ;rwa[ef,ef]at this
 ·cases h
theorem Dx{a:List V}{v:V}(h:Cy a=some v)(σ:Sg):Fun G 85 a σ (aG v σ):=by
 unfold Cy at h;split at h
 ·rename_i s;cases h;have:=Eb s.data.toList σ;rwa[ef]at this
 ·cases h
theorem qN:∀{l:List (List D)} {ss:List ByteArray},oL l=some ss→l=ss.map fun s=>[an s]
 | [],_,h=>by cases h;rfl
 | [.lit (.string s)]::r,ss,h=>by
  simp only[oL]at h;cases hr:oL r with
  | none=>rw[hr]at h;cases h
  | some t=>rw[hr]at h;cases h;rw[qN hr];rfl
theorem xp{a:List V}{v:V}(h:rR a=some v)(σ:Sg):Fun G 88 a σ (aG v σ):=by
 unfold rR at h;split at h
 ·split at h
  ·rename_i ss hs;split at h
   ·rename_i hc;cases h;rw[qN hs,hc.1];exact C3 ss (by omega) (by omega) σ
   ·cases h
  ·cases h
 ·cases h
theorem A6{facts:List (Nat×List V×V)}(hf:kJ bc facts){f:Nat}{a:List V}{v:V}(h:nW facts f a=some v)(σ:Sg):Fun G f a σ (aG v σ):=by
 unfold nW at h;repeat' split at h
 ·rename_i e;rw[e];exact u0 h σ
 ·rename_i e;rw[e];exact uv h σ
 ·rename_i e;rw[e];exact wu h σ
 ·rename_i e;rw[e];exact uJ h σ
 ·rename_i e;rw[e];exact ww h σ
 ·rename_i e;rw[e];exact yL h σ
 ·rename_i e;rw[e];exact Dx h σ
 ·rename_i e;rw[e];exact vJ h σ
 ·rename_i e;rw[e];exact xp h σ
 ·exact oT hf h σ
theorem zb{facts:List (Nat×List V×V)}(hf:kJ bc facts):qR G (sT rk) (sT sZ) (nW facts):=
 ⟨fun f c rs k h=>@kJ.mem _ CU rk (f,.cd c rs k) ua (ll h),fun f c rs k h=>@kJ.mem _ CU rk (f,.dd c rs k) ua (ll h),fun f c k h=>@kJ.mem _ _ sZ (f,(c,k)) CB (ll h),fun f a v h σ=>A6 hf h σ⟩
noncomputable def Lm(facts:List (Nat×List V×V))(n:Nat)(f:Nat)(a:List V):Option (Out×Sg):=evF G (Cw G (sT rk) (sT sZ) (nW facts) n) (sT rk) (sT sZ) (nW facts) 0 f a []
theorem bu{facts:List (Nat×List V×V)}(hf:kJ bc facts)(n:Nat){f:Nat}{a:List V}{v:V}(h:Lm facts n f a=some (.ret v,[]))(ha:a.all (V.under 0)=true)(hx:v.isOwn=false):bc (f,a,v):=fun σ=>yR ha hx (E9 (zb hf) h) σ
end Go.Proofs.YthekkgfmagliiaaGreatDoor
