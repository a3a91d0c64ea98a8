import Derived.Test.YthekkgfmagliiaaGreatDoorRows
import Derived.Test.YthekkgfmagliiaaGreatDoorData
import Derived.WalkKit
import Derived.WalkSpells
import Derived.WalkLawsBesides
import Derived.Deep.QuietTactic
import Derived.BigQuiet
import Derived.Lib.Strings
set_option linter.unusedVariables false
set_option linter.unusedSimpArgs false
set_option linter.unusedSectionVars false
namespace Go.Proofs.YthekkgfmagliiaaGreatDoor
open Go.RowKit
def dx:List ByteArray:=[⟨#[99,108,97,115,115]⟩,⟨#[101,120,116,101,110,100,115]⟩,⟨#[114,97,110,100]⟩,⟨#[114,97,110,100,99]⟩,⟨#[115,116,97,116,101]⟩,⟨#[99,111,110,115,116,114,97,105,110,116]⟩,⟨#[115,111,102,116]⟩,⟨#[100,105,115,116]⟩,⟨#[105,102]⟩,⟨#[101,108,115,101]⟩,⟨#[101,97,99,104]⟩,⟨#[105,110]⟩,⟨#[115,111,108,118,101]⟩,⟨#[98,101,102,111,114,101]⟩,⟨#[105,110,115,105,100,101]⟩,⟨#[112,114,111,112,101,114,116,121]⟩,⟨#[115,101,113]⟩,⟨#[97,110,100]⟩,⟨#[111,114]⟩,⟨#[110,111,116]⟩,⟨#[115,101,116]⟩,⟨#[104,111,108,100]⟩,⟨#[112,108,97,105,110]⟩,⟨#[114,101,112,101,97,116]⟩]
def eo(c:Int):Bool:=decide (97≤c)&&decide (c≤122)
def d6(c:Int):Bool:=decide (48≤c)&&decide (c≤57)
def ug(c:Int):Bool:=decide (65≤c)&&decide (c≤90)
def eu(c:Int):Bool:=eo c||d6 c||ug c||decide (c=95)
theorem ed(c:Int)(w:World):
 Calls Tryz.prog 115 #[.int .i32 c] w fun e w'=>e=.returned (.bool (eo c))∧w=w':=by
 by_cases h:97≤c
 ·go_enter Tryz.func115,Tryz.ntmps115;go_wp2_with fail;go_ret;exact⟨aK (by simp[eo,h]),rfl⟩
 ·go_enter Tryz.func115,Tryz.ntmps115;go_wp2_with fail;go_ret;exact⟨aK (by simp[eo];omega),rfl⟩
theorem gh(c:Int)(w:World):
 Calls Tryz.prog 117 #[.int .i32 c] w fun e w'=>e=.returned (.bool (d6 c))∧w=w':=by
 by_cases h:48≤c
 ·go_enter Tryz.func117,Tryz.ntmps117;go_wp2_with fail;go_ret;exact⟨aK (by simp[d6,h]),rfl⟩
 ·go_enter Tryz.func117,Tryz.ntmps117;go_wp2_with fail;go_ret;exact⟨aK (by simp[d6];omega),rfl⟩
theorem fz(c:Int)(w:World):
 Calls Tryz.prog 120 #[.int .i32 c] w fun e w'=>e=.returned (.bool (eu c))∧w=w':=by
 by_cases hl:eo c=true
 ·go_enter Tryz.func120,Tryz.ntmps120;go_wp2_with (first|(go_at_call 115;refine(ed _ _).mono ?_;rintro e w' ⟨rfl,rfl⟩)|(go_at_call 117;refine(gh _ _).mono ?_;rintro e w' ⟨rfl,rfl⟩));go_ret;exact⟨aK (by simp[eu,hl]),rfl⟩
 ·have hl':eo c=false:=by simpa using hl
  clear hl;by_cases hd:d6 c=true
  ·go_enter Tryz.func120,Tryz.ntmps120;go_wp2_with (first|(go_at_call 115;refine(ed _ _).mono ?_;rintro e w' ⟨rfl,rfl⟩)|(go_at_call 117;refine(gh _ _).mono ?_;rintro e w' ⟨rfl,rfl⟩));go_ret;exact⟨aK (by simp[eu,hd]),rfl⟩
  ·have hd':d6 c=false:=by simpa using hd
   clear hd;by_cases hu:65≤c
   ·by_cases hu2:c≤90
    ·go_enter Tryz.func120,Tryz.ntmps120;go_wp2_with (first|(go_at_call 115;refine(ed _ _).mono ?_;rintro e w' ⟨rfl,rfl⟩)|(go_at_call 117;refine(gh _ _).mono ?_;rintro e w' ⟨rfl,rfl⟩));go_ret;exact⟨aK (by simp[eu,ug,hu,hu2]),rfl⟩
    ·go_enter Tryz.func120,Tryz.ntmps120;go_wp2_with (first|(go_at_call 115;refine(ed _ _).mono ?_;rintro e w' ⟨rfl,rfl⟩)|(go_at_call 117;refine(gh _ _).mono ?_;rintro e w' ⟨rfl,rfl⟩));go_ret;exact⟨aK (by rw[eu,hl',hd',ug,Bool.eq_iff_iff];simp;omega),rfl⟩
   ·go_enter Tryz.func120,Tryz.ntmps120;go_wp2_with (first|(go_at_call 115;refine(ed _ _).mono ?_;rintro e w' ⟨rfl,rfl⟩)|(go_at_call 117;refine(gh _ _).mono ?_;rintro e w' ⟨rfl,rfl⟩));go_ret;exact⟨aK (by rw[eu,hl',hd',ug,Bool.eq_iff_iff];simp;omega),rfl⟩
theorem d9(c:Int)(w:World):
 Calls Tryz.prog 56 #[.int .u8 c] w fun e w'=>e=.returned (.bool (eo c))∧w=w':=by
 by_cases h:97≤c
 ·go_enter Tryz.func56,Tryz.ntmps56;go_wp2_with fail;go_ret;exact⟨aK (by simp[eo,h]),rfl⟩
 ·go_enter Tryz.func56,Tryz.ntmps56;go_wp2_with fail;go_ret;exact⟨aK (by simp[eo];omega),rfl⟩
theorem gF(c:Int)(w:World):
 Calls Tryz.prog 59 #[.int .u8 c] w fun e w'=>e=.returned (.bool (d6 c))∧w=w':=by
 by_cases h:48≤c
 ·go_enter Tryz.func59,Tryz.ntmps59;go_wp2_with fail;go_ret;exact⟨aK (by simp[d6,h]),rfl⟩
 ·go_enter Tryz.func59,Tryz.ntmps59;go_wp2_with fail;go_ret;exact⟨aK (by simp[d6];omega),rfl⟩
theorem qB(c:Int)(w:World):
 Calls Tryz.prog 73 #[.int .u8 c] w fun e w'=>e=.returned (.bool (eu c))∧w=w':=by
 by_cases hl:eo c=true
 ·go_enter Tryz.func73,Tryz.ntmps73;go_wp2_with (first|(go_at_call 56;refine(d9 _ _).mono ?_;rintro e w' ⟨rfl,rfl⟩)|(go_at_call 59;refine(gF _ _).mono ?_;rintro e w' ⟨rfl,rfl⟩));go_ret;exact⟨aK (by simp[eu,hl]),rfl⟩
 ·have hl':eo c=false:=by simpa using hl
  clear hl;by_cases hd:d6 c=true
  ·go_enter Tryz.func73,Tryz.ntmps73;go_wp2_with (first|(go_at_call 56;refine(d9 _ _).mono ?_;rintro e w' ⟨rfl,rfl⟩)|(go_at_call 59;refine(gF _ _).mono ?_;rintro e w' ⟨rfl,rfl⟩));go_ret;exact⟨aK (by simp[eu,hd]),rfl⟩
  ·have hd':d6 c=false:=by simpa using hd
   clear hd;by_cases hu:65≤c
   ·by_cases hu2:c≤90
    ·go_enter Tryz.func73,Tryz.ntmps73;go_wp2_with (first|(go_at_call 56;refine(d9 _ _).mono ?_;rintro e w' ⟨rfl,rfl⟩)|(go_at_call 59;refine(gF _ _).mono ?_;rintro e w' ⟨rfl,rfl⟩));go_ret;exact⟨aK (by simp[eu,ug,hu,hu2]),rfl⟩
    ·go_enter Tryz.func73,Tryz.ntmps73;go_wp2_with (first|(go_at_call 56;refine(d9 _ _).mono ?_;rintro e w' ⟨rfl,rfl⟩)|(go_at_call 59;refine(gF _ _).mono ?_;rintro e w' ⟨rfl,rfl⟩));go_ret;exact⟨aK (by rw[eu,hl',hd',ug,Bool.eq_iff_iff];simp;omega),rfl⟩
   ·go_enter Tryz.func73,Tryz.ntmps73;go_wp2_with (first|(go_at_call 56;refine(d9 _ _).mono ?_;rintro e w' ⟨rfl,rfl⟩)|(go_at_call 59;refine(gF _ _).mono ?_;rintro e w' ⟨rfl,rfl⟩));go_ret;exact⟨aK (by rw[eu,hl',hd',ug,Bool.eq_iff_iff];simp;omega),rfl⟩
theorem lA{P:Program}(w:World)(s:ByteArray)(pos:Nat)(ty:TypeId)(h:pos<s.size):
 (Instr.next (.pointer (some ⟨w.heap.size,0,none⟩)) true ty).run P (w.iter s pos)=
   .ok (.tuple #[.bool true,.int .i64 pos,.int .i32 (Utf8.decode s pos).1]) (w.iter s (pos+(Utf8.decode s pos).2)):=by
 simp only[Instr.next,getObj,setObj,Sem.run_bind,Sem.run,World.iter_heap,Result.andThen,h,if_true,World.iter_set];simp[goInt]
theorem ju(s:ByteArray)(pos:Nat)(h:pos<s.size)(ha:128≤(s[pos]'h).toNat):128≤(Utf8.decode s pos).1:=by
 have e:s.get! (pos+0)=s[pos]'h:=by
  show s.get! pos=_;simp[ByteArray.get!,getElem!_pos,h];rfl
 have e2:¬(s[pos]'h).toNat<128:=by omega
 simp only[Utf8.decode,e,e2,if_false];split
 ·split<;>(try simp only[Utf8.runeError])<;>omega
 ·split
  ·split
   ·rename_i h2;simp only[Bool.and_eq_true,decide_eq_true_eq]at h2;omega
   ·simp only[Utf8.runeError];omega
  ·split
   ·split
    ·rename_i h2;simp only[Bool.and_eq_true,decide_eq_true_eq]at h2;omega
    ·simp only[Utf8.runeError];omega
   ·simp only[Utf8.runeError];omega
def iq:List UInt8→Bool
 | []=>false
 | c::r=>eo c.toNat&&(c::r).all fun c=>eu c.toNat
def eq(s:ByteArray):Bool:=iq s.data.toList
theorem Ext.iter{a w:World}(h:Ext a w)(s:ByteArray)(pos:Nat):Ext a (w.iter s pos):=h.alloc _
def DG(s:ByteArray)(pos:Nat):Prop:=(∀k (h:k<s.size),k<pos→eu (s[k]'h).toNat=true)∧(∀h:0<s.size,0<pos→eo (s[0]'h).toNat=true)
theorem oN{s:ByteArray}(h:DG s s.size)(h0:0<s.size):eq s=true:=by
 have hl:=h.2 h0 h0;have hf:=h.1;unfold eq
 match e:s.data.toList with
 | []=>
  have:s.data.toList.length=s.size:=by simp
  rw[e]at this;simp at this;omega
 | c::r=>
  have hlen:(c::r).length=s.size:=by rw[←e];simp
  have hget:∀k (hk:k<(c::r).length),(c::r)[k]=s[k]'(by omega):=by
   intro k hk;simp only[←e];simp;rfl
  have h00:=hget 0 (by simp);simp only[List.getElem_cons_zero]at h00;simp only[iq,Bool.and_eq_true];refine⟨by rw[h00];exact hl,List.all_eq_true.2 fun x hx=>?_⟩;obtain⟨k,hk,rfl⟩:=List.getElem_of_mem hx;rw[hget k hk];exact hf k (by omega) (by omega)
theorem ke{s:ByteArray}{k:Nat}(hk:k<s.size)(h:eu (s[k]'hk).toNat=false):eq s=false:=by
 unfold eq
 have hm:s[k]'hk∈s.data.toList:=by
  have:s[k]'hk=s.data.toList[k]'(by simpa using hk):=by simp;rfl
  rw[this];exact List.getElem_mem _
 match e:s.data.toList with
 | []=>rfl
 | c::r=>
  rw[e]at hm;simp only[iq,Bool.and_eq_false_iff];right;exact List.all_eq_false.2 ⟨_,hm,by simp[h]⟩
theorem mj{s:ByteArray}(hk:0<s.size)(h:eo (s[0]'hk).toNat=false):eq s=false:=by
 unfold eq
 match e:s.data.toList with
 | []=>rfl
 | c::r=>
  have:c=s[0]'hk:=by
   have h1:s[0]'hk=s.data.toList[0]'(by simpa using hk):=by simp;rfl
   rw[h1];simp[e]
  simp[iq,this,h]
theorem jR{c:Int}(h:128≤c):eu c=false:=by
 simp[eu,eo,d6,ug];omega
theorem rc{c:Int}(h:128≤c):eo c=false:=by
 simp[eo];omega
set_option maxRecDepth 100000 in
theorem li(s:ByteArray)(w:World)(hs:s.size≤9223372036854775807):
 Calls Tryz.prog 84 #[.string s] w fun e w'=>e=.returned (.bool (eq s))∧Ext w w':=by
 go_enter Tryz.func84,Tryz.ntmps84;go_wp2_with fail;go_loopw [3,4] (fun _ _ wr=>∃pos:Nat,pos≤s.size∧wr=w.iter s pos∧DG s pos) (fun _ _ wr=>match wr.heap[w.heap.size]? with|some (.stringIter _ p)=>s.size-p|_=>0);case atStart=>exact⟨0,Nat.zero_le _,rfl,fun k _ h=>by omega,fun _ h=>by omega⟩
 case round=>
  obtain⟨pos,hp,rfl,hb⟩:=hrel;have HB:=Lib.hid hb;clear hb;by_cases hlt:pos<s.size
  ·have hnx:=fun ty=>lA (P:=Tryz.prog) w s pos ty hlt;by_cases h0:pos=0
   ·subst h0;by_cases hl:eo (Utf8.decode s 0).1=true
    ·have ha:(s[0]'hlt).toNat<128:=by
      apply Classical.byContradiction;intro hn;rw[rc (by have:=ju s 0 hlt (by omega);omega)]at hl;cases hl
     have hd:=decode_ascii s 0 hlt ha;have HD:=Lib.hid hd;clear hd;have hd1:(Utf8.decode s 0).2=1:=by rw[HD.out]
     have hf:eu (Utf8.decode s 0).1=true:=by simp[eu,hl]
     go_wp2_with (first|(go_at_call 115;refine(ed _ _).mono ?_;rintro e w' ⟨rfl,rfl⟩)|(go_at_call 120;refine(fz _ _).mono ?_;rintro e w' ⟨rfl,rfl⟩));go_roundw
     case rel=>
      refine⟨1,hlt,by simp,?_,?_⟩
      ·intro k hk hk1;have:k=0:=by omega
       subst this;rw[HD.out]at hf;exact hf
      ·intro h _;rw[HD.out]at hl;exact hl
     case measure=>simp[World.iter_heap];omega
    ·have hl':eo (Utf8.decode s 0).1=false:=by simpa using hl
     clear hl;go_wp2_with (first|(go_at_call 115;refine(ed _ _).mono ?_;rintro e w' ⟨rfl,rfl⟩)|(go_at_call 120;refine(fz _ _).mono ?_;rintro e w' ⟨rfl,rfl⟩));go_ret;refine⟨aK ?_,(Ext.refl w).iter _ _⟩;by_cases ha:(s[0]'hlt).toNat<128
     ·exact(mj hlt (by rw[decode_ascii s 0 hlt ha]at hl';exact hl')).symm
     ·exact(mj hlt (rc (by omega))).symm
   ·have h0':((pos:Int)==0)=false:=by rw[beq_eq_false_iff_ne];omega
    by_cases hf:eu (Utf8.decode s pos).1=true
    ·have ha:(s[pos]'hlt).toNat<128:=by
      apply Classical.byContradiction;intro hn;rw[jR (by have:=ju s pos hlt (by omega);omega)]at hf;cases hf
     have hd:=decode_ascii s pos hlt ha;have HD:=Lib.hid hd;clear hd;have hd1:(Utf8.decode s pos).2=1:=by rw[HD.out]
     go_wp2_with (first|(go_at_call 115;refine(ed _ _).mono ?_;rintro e w' ⟨rfl,rfl⟩)|(go_at_call 120;refine(fz _ _).mono ?_;rintro e w' ⟨rfl,rfl⟩));go_roundw
     case rel=>
      refine⟨pos+1,hlt,by simp,?_,?_⟩
      ·intro k hk hk1;by_cases hkp:k=pos
       ·subst hkp;rw[HD.out]at hf;exact hf
       ·exact HB.out.1 k hk (by omega)
      ·intro h _;exact HB.out.2 h (by omega)
     case measure=>simp[World.iter_heap];omega
    ·have hf':eu (Utf8.decode s pos).1=false:=by simpa using hf
     clear hf;go_wp2_with (first|(go_at_call 115;refine(ed _ _).mono ?_;rintro e w' ⟨rfl,rfl⟩)|(go_at_call 120;refine(fz _ _).mono ?_;rintro e w' ⟨rfl,rfl⟩));go_ret;refine⟨aK ?_,(Ext.refl w).iter _ _⟩;by_cases ha:(s[pos]'hlt).toNat<128
     ·exact(ke hlt (by rw[decode_ascii s pos hlt ha]at hf';exact hf')).symm
     ·exact(ke hlt (jR (by omega))).symm
  ·have:pos=s.size:=by omega
   subst this;have hnx:=fun ty=>run_next_end (P:=Tryz.prog) w s s.size ty (by omega);go_wp2_with fail;go_ret;refine⟨aK ?_,(Ext.refl w).iter _ _⟩;by_cases h0:0<s.size
   ·rw[oN HB.out h0]
    match e:s.toList with
    | []=>rw[ByteArray.toList_eq]at e;have h9:=Lib.size_eq s;rw[e]at h9;simp only[List.length_nil]at h9;omega
    | _::_=>rfl
   ·have:s.data.toList=[]:=List.eq_nil_of_length_eq_zero (by have:=Lib.size_eq s;omega);simp[eq,this,ByteArray.toList_eq,iq]
def pV:List ByteArray→ByteArray→Nat→Int
 | [],_,_=>-1
 | a::r,s,i=>if s=a then i else pV r s (i+1)
theorem FM(l:List ByteArray)(s:ByteArray):∀i:Nat,(0≤pV l s i↔s∈l):=by
 induction l with
 | nil=>intro i;simp[pV]
 | cons a r ih=>
  intro i;simp only[pV,List.mem_cons];split
  ·rename_i h;simp[h]
  ·rename_i h;rw[ih];simp[h]
set_option maxRecDepth 100000 in
theorem zH(l:List ByteArray)(s:ByteArray)(v:Value)(w:World)(hv:cZ w l v):
 Calls Tryz.prog 157 #[v,.string s] w fun e w'=>e=.returned (.int .i64 (pV l s 0))∧w=w':=by
 have hv':=hv;obtain⟨p,cap,rfl,h1,h2,h3⟩:=hv';have H3:=Lib.hid h3;clear h3;have HV:=Lib.hid hv;clear hv;go_enter Tryz.func157,Tryz.ntmps157;go_wp2_with fail;go_loop [8,5] (fun i _=>∃j:Nat,i=.int .i64 j∧j≤l.length∧pV (l.drop j) s j=pV l s 0) (fun i _=>l.length-(intOf i).toNat);case atStart=>exact⟨0,rfl,Nat.zero_le _,rfl⟩
 case round=>
  obtain⟨j,rfl,hj,hrec⟩:=hrel;have HR:=Lib.hid hrec;clear hrec;by_cases hlt:j<l.length
  ·obtain⟨b,off,rfl,hc⟩:=rD HV.out hlt;by_cases he:s=l[j]
   ·have he':(s.toList==(l[j]).toList)=true:=by rw[mA];simpa using he
    have HE:=Lib.hid he;clear he;go_wp2_with fail;go_ret;exact⟨bV (by rw[←HR.out,List.drop_eq_getElem_cons hlt,pV,if_pos HE.out]),rfl⟩
   ·have he':(s.toList==(l[j]).toList)=false:=by rw[mA];simpa using he
    go_wp2_with fail;go_round;case rel=>exact⟨j+1,by go_num,by omega,by rw[←HR.out,List.drop_eq_getElem_cons hlt,pV,if_neg he]⟩
    case measure=>simp[intOf];omega
  ·have:j=l.length:=by omega
   subst this;go_wp2_with fail;go_ret;exact⟨bV (by rw[←HR.out];simp[pV]),rfl⟩
theorem f9(l:List ByteArray)(s:ByteArray)(v:Value)(w:World)(hv:cZ w l v):
 Calls Tryz.prog 121 #[v,.string s] w fun e w'=>e=.returned (.bool (inB s l))∧w=w':=by
 have hi:=FM l s 0;have HI:=Lib.hid hi;clear hi;go_enter Tryz.func121,Tryz.ntmps121;go_wp2_with (go_at_call 157;refine(zH _ _ _ _ hv).mono ?_;rintro e w' ⟨rfl,rfl⟩);go_ret;exact⟨aK (by rw[Bool.eq_iff_iff,nK];simpa using HI.out),rfl⟩
def mw(w:World):Prop:=∃v,w.cell? ⟨0,0,none⟩=some v∧cZ w dx v
theorem mw.ext{w w':World}(h:Ext w w'):mw w→mw w'
 | ⟨v,h1,h2⟩=>⟨v,h.cell h1,h2.ext h⟩
theorem fv(s:ByteArray)(w:World)(hk:mw w):
 Calls Tryz.prog 85 #[.string s] w fun e w'=>e=.returned (.bool (inB s dx))∧w=w':=by
 obtain⟨v,h1,h2⟩:=hk;go_enter Tryz.func85,Tryz.ntmps85;go_wp2_with (go_at_call 121;refine(f9 _ _ _ _ h2).mono ?_;rintro e w' ⟨rfl,rfl⟩);go_ret;exact⟨rfl,rfl⟩
def a8(s:ByteArray):Bool:=eq s&&decide (s.size≤16) && !inB s dx
theorem gy(s:ByteArray)(w:World)(hs:s.size≤9223372036854775807)(hk:mw w):
 Calls Tryz.prog 49 #[.string s] w fun e w'=>e=.returned (.bool (a8 s))∧Ext w w':=by
 have HK:=Lib.hid hk;clear hk;by_cases hw:eq s=true
 ·by_cases hz:s.size≤16
  ·go_enter Tryz.func49,Tryz.ntmps49;go_wp2_with (first|(go_at_call 84;refine(li _ _ hs).mono ?_;rintro e w' ⟨rfl,hx⟩)|(go_at_call 85;refine(fv _ _ (HK.out.ext (by assumption))).mono ?_;rintro e w' ⟨rfl,rfl⟩));go_ret;exact⟨aK (by simp[a8,hw,hz]),by assumption⟩
  ·go_enter Tryz.func49,Tryz.ntmps49;go_wp2_with (first|(go_at_call 84;refine(li _ _ hs).mono ?_;rintro e w' ⟨rfl,hx⟩)|(go_at_call 85;refine(fv _ _ (HK.out.ext (by assumption))).mono ?_;rintro e w' ⟨rfl,rfl⟩));go_ret;exact⟨aK (by rw[a8,hw,decide_eq_false (by omega)];rfl),by assumption⟩
 ·have hw':eq s=false:=by simpa using hw
  clear hw;go_enter Tryz.func49,Tryz.ntmps49;go_wp2_with (first|(go_at_call 84;refine(li _ _ hs).mono ?_;rintro e w' ⟨rfl,hx⟩)|(go_at_call 85;refine(fv _ _ (HK.out.ext (by assumption))).mono ?_;rintro e w' ⟨rfl,rfl⟩));go_ret;exact⟨aK (by simp[a8,hw']),by assumption⟩
theorem ED(l:List ByteArray)(s:ByteArray)(v:Value)(w:World)(hv:cZ w l v):
 Calls Tryz.prog 93 #[v,.string s] w fun e w'=>e=.returned (.bool (inB s l))∧w=w':=by
 have hv':=hv;obtain⟨p,cap,rfl,h1,h2,h3⟩:=hv';have H3:=Lib.hid h3;clear h3;have HV:=Lib.hid hv;clear hv;go_enter Tryz.func93,Tryz.ntmps93;go_wp2_with fail;go_loop [5] (fun i=>∃j:Nat,i=.int .i64 j∧j≤l.length∧(s∈l.drop j↔s∈l)) (fun i=>l.length-(intOf i).toNat);case atStart=>exact⟨0,rfl,Nat.zero_le _,by simp⟩
 case round=>
  obtain⟨j,rfl,hj,hrec⟩:=hrel;have HR:=Lib.hid hrec;clear hrec;by_cases hlt:j<l.length
  ·obtain⟨b,off,rfl,hc⟩:=rD HV.out hlt;by_cases he:l[j]=s
   ·have he':((l[j]).toList==s.toList)=true:=by rw[mA];simpa using he
    have HE:=Lib.hid he;clear he;go_wp2_with fail;go_ret;exact⟨aK (by rw[←HE.out];exact(nK.2 (List.getElem_mem _)).symm),rfl⟩
   ·have he':((l[j]).toList==s.toList)=false:=by rw[mA];simpa using he
    have HE:=Lib.hid he;clear he;go_wp2_with fail;go_round;case rel=>exact⟨j+1,by go_num,by omega,by rw[←HR.out,List.drop_eq_getElem_cons hlt,List.mem_cons];exact⟨.inr,fun h=>h.resolve_left fun e=>HE.out e.symm⟩⟩
    case measure=>simp[intOf];omega
  ·have:j=l.length:=by omega
   subst this;have hn:s∉l:=fun h=>by have:=HR.out.2 h;simp at this
   have HN:=Lib.hid hn;clear hn;go_wp2_with fail;go_ret;exact⟨aK (jY.2 HN.out).symm,rfl⟩
theorem sb(w:World):Calls Tryz.prog 94 #[] w (EK dx w):=by
 go_enter Tryz.func94,Tryz.ntmps94;go_wp2_with fail;go_ret;exact⟨_,rfl,vu w dx _ (by decide),(Ext.refl w).alloc _⟩
theorem eU(s:ByteArray)(w:World):
 Calls Tryz.prog 58 #[.string s] w fun e w'=>e=.returned (.bool (inB s dx))∧Ext w w':=by
 go_enter Tryz.func58,Tryz.ntmps58;go_wp2_with (first|(go_at_call 94;refine(sb _).mono ?_;rintro e w' ⟨v,rfl,hv,hx⟩)|(go_at_call 93;refine(ED _ _ _ _ (by assumption)).mono ?_;rintro e w' ⟨rfl,rfl⟩));go_ret;exact⟨rfl,by assumption⟩
set_option maxRecDepth 100000 in
theorem gS(s:ByteArray)(w:World)(hs:s.size≤9223372036854775807):
 Calls Tryz.prog 37 #[.string s] w fun e w'=>e=.returned (.bool (a8 s))∧Ext w w':=by
 by_cases hz:s.size=0
 ·have e1:s.toList=[]:=by rw[ByteArray.toList_eq];exact List.eq_nil_of_length_eq_zero (by have:=Lib.size_eq s;omega)
  have e2:eq s=false:=by rw[ByteArray.toList_eq]at e1;simp[eq,e1,iq]
  have E2:=Lib.hid e2;clear e2;clear hz;go_enter Tryz.func37,Tryz.ntmps37;go_wp2_with fail;go_ret;exact⟨aK (by simp[a8,E2.out]),Ext.refl _⟩
 ·have e1:s.toList.isEmpty=false:=by
   match e:s.toList with
   | []=>rw[ByteArray.toList_eq]at e;have h9:=Lib.size_eq s;rw[e]at h9;simp only[List.length_nil]at h9;omega
   | _::_=>rfl
  have hp:0<s.size:=by omega
  clear hz;by_cases hz2:s.size≤16
  ·by_cases hl:eo (s[0]'hp).toNat=true
   ·by_cases hk:inB s dx=true
    ·go_enter Tryz.func37,Tryz.ntmps37;go_wp2_with (first|(go_at_call 56;refine(d9 _ _).mono ?_;rintro e w' ⟨rfl,rfl⟩)|(go_at_call 58;refine(eU _ _).mono ?_;rintro e w' ⟨rfl,hx⟩));go_ret;exact⟨aK (by simp[a8,hk]),by assumption⟩
    ·have hk':inB s dx=false:=by simpa using hk
     clear hk;go_enter Tryz.func37,Tryz.ntmps37;go_wp2_with (first|(go_at_call 56;refine(d9 _ _).mono ?_;rintro e w' ⟨rfl,rfl⟩)|(go_at_call 58;refine(eU _ _).mono ?_;rintro e w' ⟨rfl,hx⟩));have HX:=Lib.hid hx;clear hx;go_loop [3] (fun i=>∃j:Nat,i=.int .i64 j∧j≤s.size∧DG s j) (fun i=>s.size-(intOf i).toNat);case atStart=>exact⟨0,rfl,Nat.zero_le _,fun k _ h=>by omega,fun _ h=>by omega⟩
     case round=>
      obtain⟨j,rfl,hj,hb⟩:=hrel;have HB:=Lib.hid hb;clear hb;by_cases hlt:j<s.size
      ·by_cases hf:eu (s[j]'hlt).toNat=true
       ·go_wp2_with (go_at_call 73;refine(qB _ _).mono ?_;rintro e w' ⟨rfl,rfl⟩);go_round
        case rel=>
         refine⟨j+1,by go_num,hlt,fun k hk hk1=>?_,fun h _=>hl⟩;by_cases hkj:k=j
         ·subst hkj;exact hf
         ·exact HB.out.1 k hk (by omega)
        case measure=>simp[intOf];omega
       ·have hf':eu (s[j]'hlt).toNat=false:=by simpa using hf
        clear hf;go_wp2_with (go_at_call 73;refine(qB _ _).mono ?_;rintro e w' ⟨rfl,rfl⟩);go_ret;exact⟨aK (by simp[a8,ke hlt hf']),HX.out⟩
      ·have:j=s.size:=by omega
       subst this;go_wp2_with fail;go_ret;exact⟨aK (by simp[a8,oN HB.out hp,hz2,hk']),HX.out⟩
   ·have hl':eo (s[0]'hp).toNat=false:=by simpa using hl
    clear hl;go_enter Tryz.func37,Tryz.ntmps37;go_wp2_with (first|(go_at_call 56;refine(d9 _ _).mono ?_;rintro e w' ⟨rfl,rfl⟩)|(go_at_call 58;refine(eU _ _).mono ?_;rintro e w' ⟨rfl,hx⟩));go_ret;exact⟨aK (by simp[a8,mj hp hl']),Ext.refl _⟩
  ·go_enter Tryz.func37,Tryz.ntmps37;go_wp2_with (first|(go_at_call 56;refine(d9 _ _).mono ?_;rintro e w' ⟨rfl,rfl⟩)|(go_at_call 58;refine(eU _ _).mono ?_;rintro e w' ⟨rfl,hx⟩));go_ret;exact⟨aK (by rw[a8,decide_eq_false (p:=s.size≤16) (by omega)];simp),Ext.refl _⟩
end Go.Proofs.YthekkgfmagliiaaGreatDoor
