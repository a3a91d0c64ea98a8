import Derived.Test.YthoebpnbhgmoiaaGreatDoorRows
import Derived.Test.YthoebpnbhgmoiaaGreatDoorData
import Derived.WalkKit
import Derived.WalkSpells
import Derived.WalkLawsBesides
import Derived.Deep.QuietTactic
import Derived.BigQuiet
import Derived.Lib.Strings
import Derived.Lib.Bytealg
import Derived.Deep.RegionHeld3
import Derived.BigRegion
import Derived.Laws.Externs
import Derived.Deep.Light
import Derived.Lib.IndexLaws
set_option linter.unusedVariables false
set_option linter.unusedSimpArgs false
set_option linter.unusedSectionVars false
open Bool renaming eq_iff_iff→JH,and_eq_true→JI
open List renaming drop_eq_getElem_cons→JJ,eq_nil_of_length_eq_zero→JK,getElem_mem→JL,length_nil→JM,mem_cons→JO
open Nat renaming zero_le→JP
namespace Go.Proofs.YthoebpnbhgmoiaaGreatDoor
open Go.RowKit
def cD:List ByteArray:=[⟨#[99,108,97,115,115]⟩,⟨#[101,120,116,101,110,100,115]⟩,⟨#[114,97,110,100]⟩,⟨#[114,97,110,100,99]⟩,⟨#[115,116,97,116,101]⟩,⟨#[99,111,110,115,116,114,97,105,110,116]⟩,⟨#[115,111,102,116]⟩,⟨#[100,105,115,116]⟩,⟨#[105,102]⟩,⟨#[101,108,115,101]⟩,⟨#[101,97,99,104]⟩,⟨#[105,110]⟩,⟨#[115,111,108,118,101]⟩,⟨#[98,101,102,111,114,101]⟩,⟨#[105,110,115,105,100,101]⟩,⟨#[112,114,111,112,101,114,116,121]⟩,⟨#[115,101,113]⟩,⟨#[97,110,100]⟩,⟨#[111,114]⟩,⟨#[110,111,116]⟩,⟨#[115,101,116]⟩,⟨#[104,111,108,100]⟩,⟨#[112,108,97,105,110]⟩,⟨#[114,101,112,101,97,116]⟩]
def gi(c:Int):Bool:=decide (97≤c)&&decide (c≤122)
def lU(c:Int):Bool:=decide (48≤c)&&decide (c≤57)
def rF(c:Int):Bool:=decide (65≤c)&&decide (c≤90)
def fu(c:Int):Bool:=gi c||lU c||rF c||decide (c=95)
theorem dJ(c:Int)(w:World):
 Calls Tryz.prog 159 #[.int .i32 c] w fun e w'=>e=.returned (.bool (gi c))∧w=w':=by
 by_cases h:97≤c
 ·go_enter Tryz.func159,Tryz.ntmps159;go_wp2_with fail;go_ret;exact⟨aR (by simp[gi,h]),rfl⟩
 ·go_enter Tryz.func159,Tryz.ntmps159;go_wp2_with fail;go_ret;exact⟨aR (by simp[gi];omega),rfl⟩
theorem gC(c:Int)(w:World):
 Calls Tryz.prog 168 #[.int .i32 c] w fun e w'=>e=.returned (.bool (lU c))∧w=w':=by
 by_cases h:48≤c
 ·go_enter Tryz.func168,Tryz.ntmps168;go_wp2_with fail;go_ret;exact⟨aR (by simp[lU,h]),rfl⟩
 ·go_enter Tryz.func168,Tryz.ntmps168;go_wp2_with fail;go_ret;exact⟨aR (by simp[lU];omega),rfl⟩
theorem fX(c:Int)(w:World):
 Calls Tryz.prog 160 #[.int .i32 c] w fun e w'=>e=.returned (.bool (fu c))∧w=w':=by
 by_cases hl:gi c=true
 ·go_enter Tryz.func160,Tryz.ntmps160;go_wp2_with (first|(go_at_call 159;refine(dJ _ _).mono ?_;rintro e w' ⟨rfl,rfl⟩)|(go_at_call 168;refine(gC _ _).mono ?_;rintro e w' ⟨rfl,rfl⟩));go_ret;exact⟨aR (by simp[fu,hl]),rfl⟩
 ·have hl':gi c=false:=by simpa using hl
  clear hl;by_cases hd:lU c=true
  ·go_enter Tryz.func160,Tryz.ntmps160;go_wp2_with (first|(go_at_call 159;refine(dJ _ _).mono ?_;rintro e w' ⟨rfl,rfl⟩)|(go_at_call 168;refine(gC _ _).mono ?_;rintro e w' ⟨rfl,rfl⟩));go_ret;exact⟨aR (by simp[fu,hd]),rfl⟩
  ·have hd':lU c=false:=by simpa using hd
   clear hd;by_cases hu:65≤c
   ·by_cases hu2:c≤90
    ·go_enter Tryz.func160,Tryz.ntmps160;go_wp2_with (first|(go_at_call 159;refine(dJ _ _).mono ?_;rintro e w' ⟨rfl,rfl⟩)|(go_at_call 168;refine(gC _ _).mono ?_;rintro e w' ⟨rfl,rfl⟩));go_ret;exact⟨aR (by simp[fu,rF,hu,hu2]),rfl⟩
    ·go_enter Tryz.func160,Tryz.ntmps160;go_wp2_with (first|(go_at_call 159;refine(dJ _ _).mono ?_;rintro e w' ⟨rfl,rfl⟩)|(go_at_call 168;refine(gC _ _).mono ?_;rintro e w' ⟨rfl,rfl⟩));go_ret;exact⟨aR (by rw[fu,hl',hd',rF,JH];simp;omega),rfl⟩
   ·go_enter Tryz.func160,Tryz.ntmps160;go_wp2_with (first|(go_at_call 159;refine(dJ _ _).mono ?_;rintro e w' ⟨rfl,rfl⟩)|(go_at_call 168;refine(gC _ _).mono ?_;rintro e w' ⟨rfl,rfl⟩));go_ret;exact⟨aR (by rw[fu,hl',hd',rF,JH];simp;omega),rfl⟩
theorem dI(c:Int)(w:World):
 Calls Tryz.prog 65 #[.int .u8 c] w fun e w'=>e=.returned (.bool (gi c))∧w=w':=by
 by_cases h:97≤c
 ·go_enter Tryz.func65,Tryz.ntmps65;go_wp2_with fail;go_ret;exact⟨aR (by simp[gi,h]),rfl⟩
 ·go_enter Tryz.func65,Tryz.ntmps65;go_wp2_with fail;go_ret;exact⟨aR (by simp[gi];omega),rfl⟩
theorem fL(c:Int)(w:World):
 Calls Tryz.prog 110 #[.int .u8 c] w fun e w'=>e=.returned (.bool (lU c))∧w=w':=by
 by_cases h:48≤c
 ·go_enter Tryz.func110,Tryz.ntmps110;go_wp2_with fail;go_ret;exact⟨aR (by simp[lU,h]),rfl⟩
 ·go_enter Tryz.func110,Tryz.ntmps110;go_wp2_with fail;go_ret;exact⟨aR (by simp[lU];omega),rfl⟩
theorem o6(c:Int)(w:World):
 Calls Tryz.prog 67 #[.int .u8 c] w fun e w'=>e=.returned (.bool (fu c))∧w=w':=by
 by_cases hl:gi c=true
 ·go_enter Tryz.func67,Tryz.ntmps67;go_wp2_with (first|(go_at_call 65;refine(dI _ _).mono ?_;rintro e w' ⟨rfl,rfl⟩)|(go_at_call 110;refine(fL _ _).mono ?_;rintro e w' ⟨rfl,rfl⟩));go_ret;exact⟨aR (by simp[fu,hl]),rfl⟩
 ·have hl':gi c=false:=by simpa using hl
  clear hl;by_cases hd:lU c=true
  ·go_enter Tryz.func67,Tryz.ntmps67;go_wp2_with (first|(go_at_call 65;refine(dI _ _).mono ?_;rintro e w' ⟨rfl,rfl⟩)|(go_at_call 110;refine(fL _ _).mono ?_;rintro e w' ⟨rfl,rfl⟩));go_ret;exact⟨aR (by simp[fu,hd]),rfl⟩
  ·have hd':lU c=false:=by simpa using hd
   clear hd;by_cases hu:65≤c
   ·by_cases hu2:c≤90
    ·go_enter Tryz.func67,Tryz.ntmps67;go_wp2_with (first|(go_at_call 65;refine(dI _ _).mono ?_;rintro e w' ⟨rfl,rfl⟩)|(go_at_call 110;refine(fL _ _).mono ?_;rintro e w' ⟨rfl,rfl⟩));go_ret;exact⟨aR (by simp[fu,rF,hu,hu2]),rfl⟩
    ·go_enter Tryz.func67,Tryz.ntmps67;go_wp2_with (first|(go_at_call 65;refine(dI _ _).mono ?_;rintro e w' ⟨rfl,rfl⟩)|(go_at_call 110;refine(fL _ _).mono ?_;rintro e w' ⟨rfl,rfl⟩));go_ret;exact⟨aR (by rw[fu,hl',hd',rF,JH];simp;omega),rfl⟩
   ·go_enter Tryz.func67,Tryz.ntmps67;go_wp2_with (first|(go_at_call 65;refine(dI _ _).mono ?_;rintro e w' ⟨rfl,rfl⟩)|(go_at_call 110;refine(fL _ _).mono ?_;rintro e w' ⟨rfl,rfl⟩));go_ret;exact⟨aR (by rw[fu,hl',hd',rF,JH];simp;omega),rfl⟩
theorem qn{P:Program}(w:World)(s:ByteArray)(pos:Nat)(ty:TypeId)(h:pos<s.size):
 (Instr.next (.pointer (some ⟨w.heap.size,0,none⟩)) true ty).run P (w.iter s pos)=
   .ok (.tuple #[.bool true,.int .i64 pos,.int .i32 (Utf8.decode s pos).1]) (w.iter s (pos+(Utf8.decode s pos).2)):=by
 simp only[Instr.next,getObj,setObj,Sem.run_bind,Sem.run,World.iter_heap,Result.andThen,h,if_true,World.iter_set];simp[goInt]
theorem lz(s:ByteArray)(pos:Nat)(h:pos<s.size)(ha:128≤(s[pos]'h).toNat):128≤(Utf8.decode s pos).1:=by
 have e:s.get! (pos+0)=s[pos]'h:=by
  show s.get! pos=_;simp[ByteArray.get!,getElem!_pos,h];rfl
 have e2:¬(s[pos]'h).toNat<128:=by omega
 simp only[Utf8.decode,e,e2,if_false];split
 ·split<;>(try simp only[Utf8.runeError])<;>omega
 ·split
  ·split
   ·rename_i h2;simp only[JI,decide_eq_true_eq]at h2;omega
   ·simp only[Utf8.runeError];omega
  ·split
   ·split
    ·rename_i h2;simp only[JI,decide_eq_true_eq]at h2;omega
    ·simp only[Utf8.runeError];omega
   ·simp only[Utf8.runeError];omega
def nE:List UInt8→Bool
 | []=>false
 | c::r=>gi c.toNat&&(c::r).all fun c=>fu c.toNat
def fc(s:ByteArray):Bool:=nE s.data.toList
theorem Ext.iter{a w:World}(h:Ext a w)(s:ByteArray)(pos:Nat):Ext a (w.iter s pos):=h.alloc _
def xK(s:ByteArray)(pos:Nat):Prop:=(∀k (h:k<s.size),k<pos→fu (s[k]'h).toNat=true)∧(∀h:0<s.size,0<pos→gi (s[0]'h).toNat=true)
theorem mr{s:ByteArray}(h:xK s s.size)(h0:0<s.size):fc s=true:=by
 have hl:=h.2 h0 h0;have hf:=h.1;unfold fc
 match e:s.data.toList with
 | []=>
  have:s.data.toList.length=s.size:=by simp
  rw[e]at this;simp at this;omega
 | c::r=>
  have hlen:(c::r).length=s.size:=by rw[←e];simp
  have hget:∀k (hk:k<(c::r).length),(c::r)[k]=s[k]'(by omega):=by
   intro k hk;simp only[←e];simp;rfl
  have h00:=hget 0 (by simp);simp only[List.getElem_cons_zero]at h00;simp only[nE,JI];refine⟨by rw[h00];exact hl,List.all_eq_true.2 fun x hx=>?_⟩;obtain⟨k,hk,rfl⟩:=List.getElem_of_mem hx;rw[hget k hk];exact hf k (by omega) (by omega)
theorem i9{s:ByteArray}{k:Nat}(hk:k<s.size)(h:fu (s[k]'hk).toNat=false):fc s=false:=by
 unfold fc
 have hm:s[k]'hk∈s.data.toList:=by
  have:s[k]'hk=s.data.toList[k]'(by simpa using hk):=by simp;rfl
  rw[this];exact JL _
 match e:s.data.toList with
 | []=>rfl
 | c::r=>
  rw[e]at hm;simp only[nE,Bool.and_eq_false_iff];right;exact List.all_eq_false.2 ⟨_,hm,by simp[h]⟩
theorem kP{s:ByteArray}(hk:0<s.size)(h:gi (s[0]'hk).toNat=false):fc s=false:=by
 unfold fc
 match e:s.data.toList with
 | []=>rfl
 | c::r=>
  have:c=s[0]'hk:=by
   have h1:s[0]'hk=s.data.toList[0]'(by simpa using hk):=by simp;rfl
   rw[h1];simp[e]
  simp[nE,this,h]
theorem oZ{c:Int}(h:128≤c):fu c=false:=by
 simp[fu,gi,lU,rF];omega
theorem ou{c:Int}(h:128≤c):gi c=false:=by
 simp[gi];omega
set_option maxRecDepth 100000 in
theorem nG(s:ByteArray)(w:World)(hs:s.size≤9223372036854775807):
 Calls Tryz.prog 136 #[.string s] w fun e w'=>e=.returned (.bool (fc s))∧Ext w w':=by
 go_enter Tryz.func136,Tryz.ntmps136;go_wp2_with fail;go_loopw [3,4] (fun _ _ wr=>∃pos:Nat,pos≤s.size∧wr=w.iter s pos∧xK s pos) (fun _ _ wr=>match wr.heap[w.heap.size]? with|some (.stringIter _ p)=>s.size-p|_=>0);case atStart=>exact⟨0,JP _,rfl,fun k _ h=>by omega,fun _ h=>by omega⟩
 case round=>
  obtain⟨pos,hp,rfl,hb⟩:=hrel;have HB:=Lib.hid hb;clear hb;by_cases hlt:pos<s.size
  ·have hnx:=fun ty=>qn (P:=Tryz.prog) w s pos ty hlt;by_cases h0:pos=0
   ·subst h0;by_cases hl:gi (Utf8.decode s 0).1=true
    ·have ha:(s[0]'hlt).toNat<128:=by
      apply Classical.byContradiction;intro hn;rw[ou (by have:=lz s 0 hlt (by omega);omega)]at hl;cases hl
     have hd:=decode_ascii s 0 hlt ha;have HD:=Lib.hid hd;clear hd;have hd1:(Utf8.decode s 0).2=1:=by rw[HD.out]
     have hf:fu (Utf8.decode s 0).1=true:=by simp[fu,hl]
     go_wp2_with (first|(go_at_call 159;refine(dJ _ _).mono ?_;rintro e w' ⟨rfl,rfl⟩)|(go_at_call 160;refine(fX _ _).mono ?_;rintro e w' ⟨rfl,rfl⟩));go_roundw
     case rel=>
      refine⟨1,hlt,by simp,?_,?_⟩
      ·intro k hk hk1;have:k=0:=by omega
       subst this;rw[HD.out]at hf;exact hf
      ·intro h _;rw[HD.out]at hl;exact hl
     case measure=>simp[World.iter_heap];omega
    ·have hl':gi (Utf8.decode s 0).1=false:=by simpa using hl
     clear hl;go_wp2_with (first|(go_at_call 159;refine(dJ _ _).mono ?_;rintro e w' ⟨rfl,rfl⟩)|(go_at_call 160;refine(fX _ _).mono ?_;rintro e w' ⟨rfl,rfl⟩));go_ret;refine⟨aR ?_,(Ext.refl w).iter _ _⟩;by_cases ha:(s[0]'hlt).toNat<128
     ·exact(kP hlt (by rw[decode_ascii s 0 hlt ha]at hl';exact hl')).symm
     ·exact(kP hlt (ou (by omega))).symm
   ·have h0':((pos:Int)==0)=false:=by rw[beq_eq_false_iff_ne];omega
    by_cases hf:fu (Utf8.decode s pos).1=true
    ·have ha:(s[pos]'hlt).toNat<128:=by
      apply Classical.byContradiction;intro hn;rw[oZ (by have:=lz s pos hlt (by omega);omega)]at hf;cases hf
     have hd:=decode_ascii s pos hlt ha;have HD:=Lib.hid hd;clear hd;have hd1:(Utf8.decode s pos).2=1:=by rw[HD.out]
     go_wp2_with (first|(go_at_call 159;refine(dJ _ _).mono ?_;rintro e w' ⟨rfl,rfl⟩)|(go_at_call 160;refine(fX _ _).mono ?_;rintro e w' ⟨rfl,rfl⟩));go_roundw
     case rel=>
      refine⟨pos+1,hlt,by simp,?_,?_⟩
      ·intro k hk hk1;by_cases hkp:k=pos
       ·subst hkp;rw[HD.out]at hf;exact hf
       ·exact HB.out.1 k hk (by omega)
      ·intro h _;exact HB.out.2 h (by omega)
     case measure=>simp[World.iter_heap];omega
    ·have hf':fu (Utf8.decode s pos).1=false:=by simpa using hf
     clear hf;go_wp2_with (first|(go_at_call 159;refine(dJ _ _).mono ?_;rintro e w' ⟨rfl,rfl⟩)|(go_at_call 160;refine(fX _ _).mono ?_;rintro e w' ⟨rfl,rfl⟩));go_ret;refine⟨aR ?_,(Ext.refl w).iter _ _⟩;by_cases ha:(s[pos]'hlt).toNat<128
     ·exact(i9 hlt (by rw[decode_ascii s pos hlt ha]at hf';exact hf')).symm
     ·exact(i9 hlt (oZ (by omega))).symm
  ·have:pos=s.size:=by omega
   subst this;have hnx:=fun ty=>run_next_end (P:=Tryz.prog) w s s.size ty (by omega);go_wp2_with fail;go_ret;refine⟨aR ?_,(Ext.refl w).iter _ _⟩;by_cases h0:0<s.size
   ·rw[mr HB.out h0]
    match e:s.toList with
    | []=>rw[ByteArray.toList_eq]at e;have h9:=Lib.size_eq s;rw[e]at h9;simp only[JM]at h9;omega
    | _::_=>rfl
   ·have:s.data.toList=[]:=JK (by have:=Lib.size_eq s;omega);simp[fc,this,ByteArray.toList_eq,nE]
def oa:List ByteArray→ByteArray→Nat→Int
 | [],_,_=>-1
 | a::r,s,i=>if s=a then i else oa r s (i+1)
theorem Cs(l:List ByteArray)(s:ByteArray):∀i:Nat,(0≤oa l s i↔s∈l):=by
 induction l with
 | nil=>intro i;simp[oa]
 | cons a r ih=>
  intro i;simp only[oa,JO];split
  ·rename_i h;simp[h]
  ·rename_i h;rw[ih];simp[h]
set_option maxRecDepth 100000 in
theorem xt(l:List ByteArray)(s:ByteArray)(v:Value)(w:World)(hv:dq w l v):
 Calls Tryz.prog 100 #[v,.string s] w fun e w'=>e=.returned (.int .i64 (oa l s 0))∧w=w':=by
 have hv':=hv;obtain⟨p,cap,rfl,h1,h2,h3⟩:=hv';have H3:=Lib.hid h3;clear h3;have HV:=Lib.hid hv;clear hv;go_enter Tryz.func100,Tryz.ntmps100;go_wp2_with fail;go_loop [8,5] (fun i _=>∃j:Nat,i=.int .i64 j∧j≤l.length∧oa (l.drop j) s j=oa l s 0) (fun i _=>l.length-(intOf i).toNat);case atStart=>exact⟨0,rfl,JP _,rfl⟩
 case round=>
  obtain⟨j,rfl,hj,hrec⟩:=hrel;have HR:=Lib.hid hrec;clear hrec;by_cases hlt:j<l.length
  ·obtain⟨b,off,rfl,hc⟩:=qe HV.out hlt;by_cases he:s=l[j]
   ·have he':(s.toList==(l[j]).toList)=true:=by rw[gO];simpa using he
    have HE:=Lib.hid he;clear he;go_wp2_with fail;go_ret;exact⟨ch (by rw[←HR.out,JJ hlt,oa,if_pos HE.out]),rfl⟩
   ·have he':(s.toList==(l[j]).toList)=false:=by rw[gO];simpa using he
    go_wp2_with fail;go_round;case rel=>exact⟨j+1,by go_num,by omega,by rw[←HR.out,JJ hlt,oa,if_neg he]⟩
    case measure=>simp[intOf];omega
  ·have:j=l.length:=by omega
   subst this;go_wp2_with fail;go_ret;exact⟨ch (by rw[←HR.out];simp[oa]),rfl⟩
theorem jO(l:List ByteArray)(s:ByteArray)(v:Value)(w:World)(hv:dq w l v):
 Calls Tryz.prog 60 #[v,.string s] w fun e w'=>e=.returned (.bool (inB s l))∧w=w':=by
 have hi:=Cs l s 0;have HI:=Lib.hid hi;clear hi;go_enter Tryz.func60,Tryz.ntmps60;go_wp2_with (go_at_call 100;refine(xt _ _ _ _ hv).mono ?_;rintro e w' ⟨rfl,rfl⟩);go_ret;exact⟨aR (by rw[JH,md];simpa using HI.out),rfl⟩
def jf(w:World):Prop:=∃v,w.cell? ⟨0,0,none⟩=some v∧dq w cD v
theorem jf.ext{w w':World}(h:Ext w w'):jf w→jf w'
 | ⟨v,h1,h2⟩=>⟨v,h.cell h1,h2.ext h⟩
theorem gk(s:ByteArray)(w:World)(hk:jf w):
 Calls Tryz.prog 137 #[.string s] w fun e w'=>e=.returned (.bool (inB s cD))∧w=w':=by
 obtain⟨v,h1,h2⟩:=hk;go_enter Tryz.func137,Tryz.ntmps137;go_wp2_with (go_at_call 60;refine(jO _ _ _ _ h2).mono ?_;rintro e w' ⟨rfl,rfl⟩);go_ret;exact⟨rfl,rfl⟩
def bH(s:ByteArray):Bool:=fc s&&decide (s.size≤16) && !inB s cD
theorem fP(s:ByteArray)(w:World)(hs:s.size≤9223372036854775807)(hk:jf w):
 Calls Tryz.prog 106 #[.string s] w fun e w'=>e=.returned (.bool (bH s))∧Ext w w':=by
 have HK:=Lib.hid hk;clear hk;by_cases hw:fc s=true
 ·by_cases hz:s.size≤16
  ·go_enter Tryz.func106,Tryz.ntmps106;go_wp2_with (first|(go_at_call 136;refine(nG _ _ hs).mono ?_;rintro e w' ⟨rfl,hx⟩)|(go_at_call 137;refine(gk _ _ (HK.out.ext (by assumption))).mono ?_;rintro e w' ⟨rfl,rfl⟩));go_ret;exact⟨aR (by simp[bH,hw,hz]),by assumption⟩
  ·go_enter Tryz.func106,Tryz.ntmps106;go_wp2_with (first|(go_at_call 136;refine(nG _ _ hs).mono ?_;rintro e w' ⟨rfl,hx⟩)|(go_at_call 137;refine(gk _ _ (HK.out.ext (by assumption))).mono ?_;rintro e w' ⟨rfl,rfl⟩));go_ret;exact⟨aR (by rw[bH,hw,decide_eq_false (by omega)];rfl),by assumption⟩
 ·have hw':fc s=false:=by simpa using hw
  clear hw;go_enter Tryz.func106,Tryz.ntmps106;go_wp2_with (first|(go_at_call 136;refine(nG _ _ hs).mono ?_;rintro e w' ⟨rfl,hx⟩)|(go_at_call 137;refine(gk _ _ (HK.out.ext (by assumption))).mono ?_;rintro e w' ⟨rfl,rfl⟩));go_ret;exact⟨aR (by simp[bH,hw']),by assumption⟩
theorem AZ(l:List ByteArray)(s:ByteArray)(v:Value)(w:World)(hv:dq w l v):
 Calls Tryz.prog 108 #[v,.string s] w fun e w'=>e=.returned (.bool (inB s l))∧w=w':=by
 have hv':=hv;obtain⟨p,cap,rfl,h1,h2,h3⟩:=hv';have H3:=Lib.hid h3;clear h3;have HV:=Lib.hid hv;clear hv;go_enter Tryz.func108,Tryz.ntmps108;go_wp2_with fail;go_loop [5] (fun i=>∃j:Nat,i=.int .i64 j∧j≤l.length∧(s∈l.drop j↔s∈l)) (fun i=>l.length-(intOf i).toNat);case atStart=>exact⟨0,rfl,JP _,by simp⟩
 case round=>
  obtain⟨j,rfl,hj,hrec⟩:=hrel;have HR:=Lib.hid hrec;clear hrec;by_cases hlt:j<l.length
  ·obtain⟨b,off,rfl,hc⟩:=qe HV.out hlt;by_cases he:l[j]=s
   ·have he':((l[j]).toList==s.toList)=true:=by rw[gO];simpa using he
    have HE:=Lib.hid he;clear he;go_wp2_with fail;go_ret;exact⟨aR (by rw[←HE.out];exact(md.2 (JL _)).symm),rfl⟩
   ·have he':((l[j]).toList==s.toList)=false:=by rw[gO];simpa using he
    have HE:=Lib.hid he;clear he;go_wp2_with fail;go_round;case rel=>exact⟨j+1,by go_num,by omega,by rw[←HR.out,JJ hlt,JO];exact⟨.inr,fun h=>h.resolve_left fun e=>HE.out e.symm⟩⟩
    case measure=>simp[intOf];omega
  ·have:j=l.length:=by omega
   subst this;have hn:s∉l:=fun h=>by have:=HR.out.2 h;simp at this
   have HN:=Lib.hid hn;clear hn;go_wp2_with fail;go_ret;exact⟨aR (i4.2 HN.out).symm,rfl⟩
theorem pP(w:World):Calls Tryz.prog 109 #[] w (A7 cD w):=by
 go_enter Tryz.func109,Tryz.ntmps109;go_wp2_with fail;go_ret;exact⟨_,rfl,tC w cD _ (by decide),(Ext.refl w).alloc _⟩
theorem eu(s:ByteArray)(w:World):
 Calls Tryz.prog 66 #[.string s] w fun e w'=>e=.returned (.bool (inB s cD))∧Ext w w':=by
 go_enter Tryz.func66,Tryz.ntmps66;go_wp2_with (first|(go_at_call 109;refine(pP _).mono ?_;rintro e w' ⟨v,rfl,hv,hx⟩)|(go_at_call 108;refine(AZ _ _ _ _ (by assumption)).mono ?_;rintro e w' ⟨rfl,rfl⟩));go_ret;exact⟨rfl,by assumption⟩
set_option maxRecDepth 100000 in
theorem gf(s:ByteArray)(w:World)(hs:s.size≤9223372036854775807):
 Calls Tryz.prog 34 #[.string s] w fun e w'=>e=.returned (.bool (bH s))∧Ext w w':=by
 by_cases hz:s.size=0
 ·have e1:s.toList=[]:=by rw[ByteArray.toList_eq];exact JK (by have:=Lib.size_eq s;omega)
  have e2:fc s=false:=by rw[ByteArray.toList_eq]at e1;simp[fc,e1,nE]
  have E2:=Lib.hid e2;clear e2;clear hz;go_enter Tryz.func34,Tryz.ntmps34;go_wp2_with fail;go_ret;exact⟨aR (by simp[bH,E2.out]),Ext.refl _⟩
 ·have e1:s.toList.isEmpty=false:=by
   match e:s.toList with
   | []=>rw[ByteArray.toList_eq]at e;have h9:=Lib.size_eq s;rw[e]at h9;simp only[JM]at h9;omega
   | _::_=>rfl
  have hp:0<s.size:=by omega
  clear hz;by_cases hz2:s.size≤16
  ·by_cases hl:gi (s[0]'hp).toNat=true
   ·by_cases hk:inB s cD=true
    ·go_enter Tryz.func34,Tryz.ntmps34;go_wp2_with (first|(go_at_call 65;refine(dI _ _).mono ?_;rintro e w' ⟨rfl,rfl⟩)|(go_at_call 66;refine(eu _ _).mono ?_;rintro e w' ⟨rfl,hx⟩));go_ret;exact⟨aR (by simp[bH,hk]),by assumption⟩
    ·have hk':inB s cD=false:=by simpa using hk
     clear hk;go_enter Tryz.func34,Tryz.ntmps34;go_wp2_with (first|(go_at_call 65;refine(dI _ _).mono ?_;rintro e w' ⟨rfl,rfl⟩)|(go_at_call 66;refine(eu _ _).mono ?_;rintro e w' ⟨rfl,hx⟩));have HX:=Lib.hid hx;clear hx;go_loop [3] (fun i=>∃j:Nat,i=.int .i64 j∧j≤s.size∧xK s j) (fun i=>s.size-(intOf i).toNat);case atStart=>exact⟨0,rfl,JP _,fun k _ h=>by omega,fun _ h=>by omega⟩
     case round=>
      obtain⟨j,rfl,hj,hb⟩:=hrel;have HB:=Lib.hid hb;clear hb;by_cases hlt:j<s.size
      ·by_cases hf:fu (s[j]'hlt).toNat=true
       ·go_wp2_with (go_at_call 67;refine(o6 _ _).mono ?_;rintro e w' ⟨rfl,rfl⟩);go_round
        case rel=>
         refine⟨j+1,by go_num,hlt,fun k hk hk1=>?_,fun h _=>hl⟩;by_cases hkj:k=j
         ·subst hkj;exact hf
         ·exact HB.out.1 k hk (by omega)
        case measure=>simp[intOf];omega
       ·have hf':fu (s[j]'hlt).toNat=false:=by simpa using hf
        clear hf;go_wp2_with (go_at_call 67;refine(o6 _ _).mono ?_;rintro e w' ⟨rfl,rfl⟩);go_ret;exact⟨aR (by simp[bH,i9 hlt hf']),HX.out⟩
      ·have:j=s.size:=by omega
       subst this;go_wp2_with fail;go_ret;exact⟨aR (by simp[bH,mr HB.out hp,hz2,hk']),HX.out⟩
   ·have hl':gi (s[0]'hp).toNat=false:=by simpa using hl
    clear hl;go_enter Tryz.func34,Tryz.ntmps34;go_wp2_with (first|(go_at_call 65;refine(dI _ _).mono ?_;rintro e w' ⟨rfl,rfl⟩)|(go_at_call 66;refine(eu _ _).mono ?_;rintro e w' ⟨rfl,hx⟩));go_ret;exact⟨aR (by simp[bH,kP hp hl']),Ext.refl _⟩
  ·go_enter Tryz.func34,Tryz.ntmps34;go_wp2_with (first|(go_at_call 65;refine(dI _ _).mono ?_;rintro e w' ⟨rfl,rfl⟩)|(go_at_call 66;refine(eu _ _).mono ?_;rintro e w' ⟨rfl,hx⟩));go_ret;exact⟨aR (by rw[bH,decide_eq_false (p:=s.size≤16) (by omega)];simp),Ext.refl _⟩
set_option maxRecDepth 100000 in
theorem jn(s:ByteArray)(c:Int)(w:World):
 Calls Tryz.prog 169 #[.string s,.int .u8 c] w fun e w'=>e=.returned (.int .i64 (Lib.indexByte s.data.toList c.toNat.toUInt8))∧w=w':=by
 have hx:∀w,(callFunc 173 #[.string s,.int .u8 c]).run Tryz.prog w=.ok (.value (.int .i64 (Lib.indexByte s.data.toList c.toNat.toUInt8))) w:=fun w=>by
  rw[run_callFunc_extern Tryz.func173 (by kernel_rfl) (by kernel_rfl) (by kernel_rfl) (e:=Extern.BytealgIndexByte.indexByte) (by kernel_rfl),Lib.run_indexByteString];rfl
 go_enter Tryz.func169,Tryz.ntmps169;go_wp2_with fail;go_ret;exact⟨rfl,rfl⟩
theorem Aw{s:ByteArray}{c:UInt8}(h:([c]==s.toList)=true):Lib.indexByte s.data.toList c=0:=by
 rw[ByteArray.toList_eq]at h;rw[←(beq_iff_eq.1 h)];simp[Lib.indexByte]
set_option maxRecDepth 100000 in
theorem uL(s:ByteArray)(c:UInt8)(w:World):
 Calls Tryz.prog 164 #[.string s,.string ⟨#[c]⟩] w fun e w'=>e=.returned (.int .i64 (Lib.indexByte s.data.toList c))∧w=w':=by
 by_cases he:([c]==s.toList)=true
 ·have h0:=Aw he;have H0:=Lib.hid h0;clear h0;go_enter Tryz.func164,Tryz.ntmps164;go_wp2_with (go_at_call 169;refine(jn _ _ _).mono ?_;rintro e w' ⟨rfl,rfl⟩);go_ret;exact⟨ch H0.out.symm,rfl⟩
 ·have he':([c]==s.toList)=false:=by simpa using he
  clear he;go_enter Tryz.func164,Tryz.ntmps164;go_wp2_with (go_at_call 169;refine(jn _ _ _).mono ?_;rintro e w' ⟨rfl,rfl⟩);go_ret;exact⟨ch (congrArg (Lib.indexByte s.data.toList) (by rfl)),rfl⟩
def fo(s:ByteArray)(c:UInt8):ByteArray:=if Lib.indexByte s.data.toList c = -1 then s else s.extract 0 (Lib.indexByte s.data.toList c).toNat
def dx(s:ByteArray)(c:UInt8):ByteArray:=if Lib.indexByte s.data.toList c = -1 then⟨#[]⟩else s.extract ((Lib.indexByte s.data.toList c).toNat+1) s.size
def ga(s:ByteArray)(c:UInt8):Bool:=decide (0≤Lib.indexByte s.data.toList c)
theorem mf{s:ByteArray}{c:UInt8}{o:Nat}(h:Lib.indexByte s.data.toList c=o):o<s.size:=by
 have:=(Lib.indexByte_some h).1;rw[Lib.size_eq];exact(List.getElem?_eq_some_iff.1 this).1
set_option maxRecDepth 100000 in
theorem y5(s:ByteArray)(c:UInt8)(w:World)(hs:s.size≤9223372036854775807):
 Calls Tryz.prog 144 #[.string s,.string ⟨#[c]⟩] w fun e w'=>e=.returned (.tuple #[.string (fo s c),.string (dx s c),.bool (ga s c)])∧Ext w w':=by
 have h1:=Lib.indexByte_ge s.data.toList c;unfold fo dx ga;have hc:=uL s c;by_cases hi:Lib.indexByte s.data.toList c = -1
 ·rw[hi]at hc ⊢;have HC:=Lib.hid hc;clear hc;clear h1 hi;go_enter Tryz.func144,Tryz.ntmps144;go_wp2_with (go_at_call 164;refine(HC.out _).mono ?_;rintro e w' ⟨rfl,rfl⟩);go_ret3;exact⟨rfl,Ext.refl _⟩
 ·obtain⟨o,ho⟩:=Int.eq_ofNat_of_zero_le (a:=Lib.indexByte s.data.toList c) (by omega);have hlt:=mf ho;rw[ho]at hc ⊢;have HC:=Lib.hid hc;clear hc;clear h1 hi;have HO:=Lib.hid ho;clear ho;have e1:IntKind.i64.wrap ((o:Int)+1)=(o:Int)+1:=IntWalk.i64_in _ (by omega);have e2:((o:Int)+1).toNat=o+1:=by omega
  go_enter Tryz.func144,Tryz.ntmps144;go_wp2_with (go_at_call 164;refine(HC.out _).mono ?_;rintro e w' ⟨rfl,rfl⟩);go_quiet (fail);go_wp2_with fail;go_ret3;exact⟨rfl,(Ext.refl w).drewN _⟩
theorem uC(s:ByteArray)(c:UInt8)(w:World)(hs:s.size≤9223372036854775807):
 Calls Tryz.prog 123 #[.string s,.string ⟨#[c]⟩] w fun e w'=>e=.returned (.tuple #[.string (fo s c),.string (dx s c),.bool (ga s c)])∧Ext w w':=by
 go_enter Tryz.func123,Tryz.ntmps123;go_wp2_with (go_at_call 144;refine(y5 _ _ _ hs).mono ?_;rintro e w' ⟨rfl,hx⟩);go_ret3;exact⟨rfl,by assumption⟩
theorem ue(s:ByteArray)(c:UInt8):(fo s c).size≤s.size:=by
 unfold fo;split
 ·exact Nat.le_refl _
 ·simp;omega
theorem ug(s:ByteArray)(c:UInt8):(dx s c).size≤s.size:=by
 unfold dx;split
 ·exact JP _
 ·simp
def jy(t:ByteArray):Bool:=if h:t.size=2 then decide ((t[1]'(by omega)).toNat=93)&&decide (48≤(t[0]'(by omega)).toNat)&&decide ((t[0]'(by omega)).toNat<56)else false
def dm(s:ByteArray):Bool:=ga s 91&&bH (fo s 91)&&jy (dx s 91)
def qt(eb:Bool)(w:World)(e:Ending)(w':World):Prop:=∃a i,e=.returned (.tuple #[.string a,.int .i64 i,.bool eb])∧Ext w w'
theorem ja{eb b:Bool}{w w':World}{a:ByteArray}{i:Int}(h:b=eb)(hx:Ext w w'):qt eb w (.returned (.tuple #[.string a,.int .i64 i,.bool b])) w':=⟨a,i,by rw[h],hx⟩
theorem jb{t:ByteArray}(h:¬t.size=2):jy t=false:=by unfold jy;rw[dif_neg h]
theorem gA{t:ByteArray}(h:t.size=2):jy t=(decide ((t[1]'(by omega)).toNat=93)&&decide (48≤(t[0]'(by omega)).toNat)&&decide ((t[0]'(by omega)).toNat<56)):=by unfold jy;rw[dif_pos h]
set_option maxRecDepth 100000 in
theorem qF(s:ByteArray)(w:World)(hs:s.size≤9223372036854775807)(hk:jf w):
 Calls Tryz.prog 143 #[.string s] w (qt (dm s) w):=by
 have hA:=ue s 91;have hB:=ug s 91;have hcut:=fun w=>uC s 91 w hs;have hq:dm s=(ga s 91&&bH (fo s 91)&&jy (dx s 91)):=rfl;generalize dm s=eb at hq ⊢;generalize fo s 91=a at *;generalize dx s 91=b at *;generalize ga s 91=ok at *;have HQ:=Lib.hid hq;clear hq;have HK:=Lib.hid hk;clear hk;have HC:=Lib.hid hcut;clear hcut;by_cases hz:b.size=2
 ·have k1:1<b.size:=by omega
  have k0:0<b.size:=by omega
  have HZ:=Lib.hid hz;clear hz;have hz2:((b.size:Int) != 2)=false:=by rw[HZ.out];rfl
  go_enter Tryz.func143,Tryz.ntmps143;go_wp2_with (first|(go_at_call 123;refine(HC.out _).mono ?_;rintro e w' ⟨rfl,hx⟩)|(go_at_call 106;refine(fP _ _ (by omega) (HK.out.ext (by assumption))).mono ?_;rintro e w' ⟨rfl,hy⟩));all_goals (try (go_quiet (fail);go_wp2_with fail))
  all_goals go_ret3
  all_goals (go_light;refine ja ?_ (by first|exact(hx.trans hy).drewN _|exact hx.trans hy|exact hx);rw[HQ.out];first|(simp[*];done)|(rw[gA HZ.out];simp[*];done)|(rw[gA HZ.out,JH];simp[*];omega))
 ·have hc:=jb hz;have HH:=Lib.hid hc;clear hc;have hz2:((b.size:Int) != 2)=true:=by rw[bne_iff_ne];omega
  clear hz;go_enter Tryz.func143,Tryz.ntmps143;go_wp2_with (first|(go_at_call 123;refine(HC.out _).mono ?_;rintro e w' ⟨rfl,hx⟩)|(go_at_call 106;refine(fP _ _ (by omega) (HK.out.ext (by assumption))).mono ?_;rintro e w' ⟨rfl,hy⟩));all_goals go_ret3
  all_goals (go_light;refine ja ?_ (by first|exact hx.trans hy|exact hx);rw[HQ.out];first|(simp[*];done)|(rw[HH.out];simp;done))
end Go.Proofs.YthoebpnbhgmoiaaGreatDoor
