import Derived.Deep.QuietTactic
import Derived.BigQuiet
import Derived.Lib.Strings
import Derived.Lib.ItoaNum
import Derived.Test.YthekkgfmagliiaaGreatDoorData
import Derived.Test.YthekkgfmagliiaaGreatDoorA20
set_option maxRecDepth 100000
set_option linter.unusedVariables false
set_option linter.unusedSimpArgs false
set_option linter.unusedSectionVars false
open Bool renaming and_eq_true->Rs,or_eq_true->Ru,eq_iff_iff->Rv,and_eq_false_iff->Rw,false_eq_true->Rx,not_eq_true'->Ry
open Classical renaming byContradiction->Rz
open List renaming cons_append->RA,eq_nil_of_length_eq_zero->RB,takeWhile_cons_of_pos->RC,takeWhile_cons_of_neg->RD,nil_append->RE,dropWhile_cons_of_pos->RF,dropWhile_cons_of_neg->RG,isPrefixOf->RH,suffix_refl->RI,length_drop->RJ,take_append_of_le_length->RK,drop_eq_getElem_cons->RL,dropWhile_suffix->RM,mem_singleton->RN,count_append->RO,length_cons->RP,foldl_cons->RQ,append_nil->RR,foldl_nil->RS,map_cons->RU
open Nat renaming strongRecOn->RW,le_trans->RX,le_refl->RY,zero_le->RZ
namespace Go.Proofs.YthekkgfmagliiaaGreatDoor
open Go.RowKit
def dk:List ByteArray:=[⟨#[99,108,97,115,115]⟩,⟨#[101,120,116,101,110,100,115]⟩,⟨#[114,97,110,100]⟩,⟨#[114,97,110,100,99]⟩,⟨#[115,116,97,116,101]⟩,⟨#[99,111,110,115,116,114,97,105,110,116]⟩,⟨#[115,111,102,116]⟩,⟨#[100,105,115,116]⟩,⟨#[105,102]⟩,⟨#[101,108,115,101]⟩,⟨#[101,97,99,104]⟩,⟨#[105,110]⟩,⟨#[115,111,108,118,101]⟩,⟨#[98,101,102,111,114,101]⟩,⟨#[105,110,115,105,100,101]⟩,⟨#[112,114,111,112,101,114,116,121]⟩,⟨#[115,101,113]⟩,⟨#[97,110,100]⟩,⟨#[111,114]⟩,⟨#[110,111,116]⟩,⟨#[115,101,116]⟩,⟨#[104,111,108,100]⟩,⟨#[112,108,97,105,110]⟩,⟨#[114,101,112,101,97,116]⟩]
def fh(c:Int):Bool:=decide (97≤c)&&decide (c≤122)
def da(c:Int):Bool:=decide (48≤c)&&decide (c≤57)
def Di(c:Int):Bool:=decide (65≤c)&&decide (c≤90)
def fP(c:Int):Bool:=fh c||da c||Di c||decide (c=95)
theorem eA(c:Int)(w:World):
 Calls Tryz.prog 115 #[.int .i32 c] w fun e w'=>e=.returned (.bool (fh c))/\w=w':=by
 by_cases h:97≤c
 .go_enter Tryz.func115,Tryz.ntmps115;go_wp2_with fail;go_ret;exact⟨cq (by simp[fh,h]),rfl⟩
 .go_enter Tryz.func115,Tryz.ntmps115;go_wp2_with fail;go_ret;exact⟨cq (by simp[fh];omega),rfl⟩
theorem gy(c:Int)(w:World):
 Calls Tryz.prog 117 #[.int .i32 c] w fun e w'=>e=.returned (.bool (da c))/\w=w':=by
 by_cases h:48≤c
 .go_enter Tryz.func117,Tryz.ntmps117;go_wp2_with fail;go_ret;exact⟨cq (by simp[da,h]),rfl⟩
 .go_enter Tryz.func117,Tryz.ntmps117;go_wp2_with fail;go_ret;exact⟨cq (by simp[da];omega),rfl⟩
theorem gQ(c:Int)(w:World):
 Calls Tryz.prog 120 #[.int .i32 c] w fun e w'=>e=.returned (.bool (fP c))/\w=w':=by
 by_cases hl:fh c=true
 .go_enter Tryz.func120,Tryz.ntmps120;go_wp2_with (first|(go_at_call 115;refine(eA _ _).mono ?_;rintro e w' ⟨rfl,rfl⟩)|(go_at_call 117;refine(gy _ _).mono ?_;rintro e w' ⟨rfl,rfl⟩));go_ret;exact⟨cq (by simp[fP,hl]),rfl⟩
 .have hl':fh c=false:=by simpa using hl
  clear hl;by_cases hd:da c=true
  .go_enter Tryz.func120,Tryz.ntmps120;go_wp2_with (first|(go_at_call 115;refine(eA _ _).mono ?_;rintro e w' ⟨rfl,rfl⟩)|(go_at_call 117;refine(gy _ _).mono ?_;rintro e w' ⟨rfl,rfl⟩));go_ret;exact⟨cq (by simp[fP,hd]),rfl⟩
  .have hd':da c=false:=by simpa using hd
   clear hd;by_cases hu:65≤c
   .by_cases hu2:c≤90
    .go_enter Tryz.func120,Tryz.ntmps120;go_wp2_with (first|(go_at_call 115;refine(eA _ _).mono ?_;rintro e w' ⟨rfl,rfl⟩)|(go_at_call 117;refine(gy _ _).mono ?_;rintro e w' ⟨rfl,rfl⟩));go_ret;exact⟨cq (by simp[fP,Di,hu,hu2]),rfl⟩
    .go_enter Tryz.func120,Tryz.ntmps120;go_wp2_with (first|(go_at_call 115;refine(eA _ _).mono ?_;rintro e w' ⟨rfl,rfl⟩)|(go_at_call 117;refine(gy _ _).mono ?_;rintro e w' ⟨rfl,rfl⟩));go_ret;exact⟨cq (by rw[fP,hl',hd',Di,Rv];simp;omega),rfl⟩
   .go_enter Tryz.func120,Tryz.ntmps120;go_wp2_with (first|(go_at_call 115;refine(eA _ _).mono ?_;rintro e w' ⟨rfl,rfl⟩)|(go_at_call 117;refine(gy _ _).mono ?_;rintro e w' ⟨rfl,rfl⟩));go_ret;exact⟨cq (by rw[fP,hl',hd',Di,Rv];simp;omega),rfl⟩
theorem mR{P:Program}(w:World)(s:ByteArray)(pos:Nat)(ty:TypeId)(h:pos<s.size):
 (Instr.next (.pointer (some ⟨w.heap.size,0,none⟩)) true ty).run P (w.iter s pos)=
   .ok (.tuple #[.bool true,.int .i64 pos,.int .i32 (Utf8.decode s pos).1]) (w.iter s (pos+(Utf8.decode s pos).2)):=by
 simp only[Instr.next,getObj,setObj,Sem.run_bind,Sem.run,World.iter_heap,Result.andThen,h,if_true,World.iter_set];simp[goInt]
theorem lq(s:ByteArray)(pos:Nat)(h:pos<s.size)(ha:128≤(s[pos]'h).toNat):128≤(Utf8.decode s pos).1:=by
 have e:s.get! (pos+0)=s[pos]'h:=by
  show s.get! pos=_;simp[ByteArray.get!,getElem!_pos,h];rfl
 have e2:¬(s[pos]'h).toNat<128:=by omega
 simp only[Utf8.decode,e,e2,if_false];split
 .split<;>(try simp only[Utf8.runeError])<;>omega
 .split
  .split
   .rename_i h2;simp only[Rs,decide_eq_true_eq]at h2;omega
   .simp only[Utf8.runeError];omega
  .split
   .split
    .rename_i h2;simp only[Rs,decide_eq_true_eq]at h2;omega
    .simp only[Utf8.runeError];omega
   .simp only[Utf8.runeError];omega
def iM:List UInt8->Bool
 | []=>false
 | c::r=>fh c.toNat&&(c::r).all fun c=>fP c.toNat
def gV(s:ByteArray):Bool:=iM s.data.toList
theorem Ext.iter{a w:World}(h:Ext a w)(s:ByteArray)(pos:Nat):Ext a (w.iter s pos):=h.alloc _
def JG(s:ByteArray)(pos:Nat):Prop:=(∀k (h:k<s.size),k<pos->fP (s[k]'h).toNat=true)/\(∀h:0<s.size,0<pos->fh (s[0]'h).toNat=true)
theorem yU{s:ByteArray}(h:JG s s.size)(h0:0<s.size):gV s=true:=by
 have hl:=h.2 h0 h0;have hf:=h.1;unfold gV
 match e:s.data.toList with
 | []=>
  have:s.data.toList.length=s.size:=by simp
  rw[e]at this;simp at this;omega
 | c::r=>
  have hlen:(c::r).length=s.size:=by rw[<-e];simp
  have hget:∀k (hk:k<(c::r).length),(c::r)[k]=s[k]'(by omega):=by
   intro k hk;simp only[<-e];simp;rfl
  have h00:=hget 0 (by simp);simp only[List.getElem_cons_zero]at h00;simp only[iM,Rs];refine⟨by rw[h00];exact hl,List.all_eq_true.2 fun x hx=>?_⟩;obtain⟨k,hk,rfl⟩:=List.getElem_of_mem hx;rw[hget k hk];exact hf k (by omega) (by omega)
theorem sZ{s:ByteArray}{k:Nat}(hk:k<s.size)(h:fP (s[k]'hk).toNat=false):gV s=false:=by
 unfold gV
 have hm:s[k]'hk∈s.data.toList:=by
  have:s[k]'hk=s.data.toList[k]'(by simpa using hk):=by simp;rfl
  rw[this];exact List.getElem_mem _
 match e:s.data.toList with
 | []=>rfl
 | c::r=>
  rw[e]at hm;simp only[iM,Rw];right;exact List.all_eq_false.2 ⟨_,hm,by simp[h]⟩
theorem tJ{s:ByteArray}(hk:0<s.size)(h:fh (s[0]'hk).toNat=false):gV s=false:=by
 unfold gV
 match e:s.data.toList with
 | []=>rfl
 | c::r=>
  have:c=s[0]'hk:=by
   have h1:s[0]'hk=s.data.toList[0]'(by simpa using hk):=by simp;rfl
   rw[h1];simp[e]
  simp[iM,this,h]
theorem lC{c:Int}(h:128≤c):fP c=false:=by
 simp[fP,fh,da,Di];omega
theorem s9{c:Int}(h:128≤c):fh c=false:=by
 simp[fh];omega
theorem qQ(s:ByteArray)(w:World)(hs:s.size≤9223372036854775807):
 Calls Tryz.prog 84 #[.string s] w fun e w'=>e=.returned (.bool (gV s))/\Ext w w':=by
 go_enter Tryz.func84,Tryz.ntmps84;go_wp2_with fail;go_loopw [3,4] (fun _ _ wr=>∃pos:Nat,pos≤s.size/\wr=w.iter s pos/\JG s pos) (fun _ _ wr=>match wr.heap[w.heap.size]? with|some (.stringIter _ p)=>s.size-p|_=>0);case atStart=>exact⟨0,RZ _,rfl,fun k _ h=>by omega,fun _ h=>by omega⟩
 case round=>
  obtain⟨pos,hp,rfl,hb⟩:=hrel;have HB:=Lib.hid hb;clear hb;by_cases hlt:pos<s.size
  .have hnx:=fun ty=>mR (P:=Tryz.prog) w s pos ty hlt;by_cases h0:pos=0
   .subst h0;by_cases hl:fh (Utf8.decode s 0).1=true
    .have ha:(s[0]'hlt).toNat<128:=by
      apply Rz;intro hn;rw[s9 (by have:=lq s 0 hlt (by omega);omega)]at hl;cases hl
     have hd:=decode_ascii s 0 hlt ha;have HD:=Lib.hid hd;clear hd;have hd1:(Utf8.decode s 0).2=1:=by rw[HD.out]
     have hf:fP (Utf8.decode s 0).1=true:=by simp[fP,hl]
     go_wp2_with (first|(go_at_call 115;refine(eA _ _).mono ?_;rintro e w' ⟨rfl,rfl⟩)|(go_at_call 120;refine(gQ _ _).mono ?_;rintro e w' ⟨rfl,rfl⟩));go_roundw
     case rel=>
      refine⟨1,hlt,by simp,?_,?_⟩
      .intro k hk hk1;have:k=0:=by omega
       subst this;rw[HD.out]at hf;exact hf
      .intro h _;rw[HD.out]at hl;exact hl
     case measure=>simp[World.iter_heap];omega
    .have hl':fh (Utf8.decode s 0).1=false:=by simpa using hl
     clear hl;go_wp2_with (first|(go_at_call 115;refine(eA _ _).mono ?_;rintro e w' ⟨rfl,rfl⟩)|(go_at_call 120;refine(gQ _ _).mono ?_;rintro e w' ⟨rfl,rfl⟩));go_ret;refine⟨cq ?_,(Ext.refl w).iter _ _⟩;by_cases ha:(s[0]'hlt).toNat<128
     .exact(tJ hlt (by rw[decode_ascii s 0 hlt ha]at hl';exact hl')).symm
     .exact(tJ hlt (s9 (by omega))).symm
   .have h0':((pos:Int)==0)=false:=by rw[beq_eq_false_iff_ne];omega
    by_cases hf:fP (Utf8.decode s pos).1=true
    .have ha:(s[pos]'hlt).toNat<128:=by
      apply Rz;intro hn;rw[lC (by have:=lq s pos hlt (by omega);omega)]at hf;cases hf
     have hd:=decode_ascii s pos hlt ha;have HD:=Lib.hid hd;clear hd;have hd1:(Utf8.decode s pos).2=1:=by rw[HD.out]
     go_wp2_with (first|(go_at_call 115;refine(eA _ _).mono ?_;rintro e w' ⟨rfl,rfl⟩)|(go_at_call 120;refine(gQ _ _).mono ?_;rintro e w' ⟨rfl,rfl⟩));go_roundw
     case rel=>
      refine⟨pos+1,hlt,by simp,?_,?_⟩
      .intro k hk hk1;by_cases hkp:k=pos
       .subst hkp;rw[HD.out]at hf;exact hf
       .exact HB.out.1 k hk (by omega)
      .intro h _;exact HB.out.2 h (by omega)
     case measure=>simp[World.iter_heap];omega
    .have hf':fP (Utf8.decode s pos).1=false:=by simpa using hf
     clear hf;go_wp2_with (first|(go_at_call 115;refine(eA _ _).mono ?_;rintro e w' ⟨rfl,rfl⟩)|(go_at_call 120;refine(gQ _ _).mono ?_;rintro e w' ⟨rfl,rfl⟩));go_ret;refine⟨cq ?_,(Ext.refl w).iter _ _⟩;by_cases ha:(s[pos]'hlt).toNat<128
     .exact(sZ hlt (by rw[decode_ascii s pos hlt ha]at hf';exact hf')).symm
     .exact(sZ hlt (lC (by omega))).symm
  .have:pos=s.size:=by omega
   subst this;have hnx:=fun ty=>run_next_end (P:=Tryz.prog) w s s.size ty (by omega);go_wp2_with fail;go_ret;refine⟨cq ?_,(Ext.refl w).iter _ _⟩;by_cases h0:0<s.size
   .rw[yU HB.out h0]
    match e:s.toList with
    | []=>rw[ByteArray.toList_eq]at e;have h9:=Lib.size_eq s;rw[e]at h9;simp only[List.length_nil]at h9;omega
    | _::_=>rfl
   .have:s.data.toList=[]:=RB (by have:=Lib.size_eq s;omega);simp[gV,this,ByteArray.toList_eq,iM]
def sm:List ByteArray->ByteArray->Nat->Int
 | [],_,_=>-1
 | a::r,s,i=>if s=a then i else sm r s (i+1)
theorem Jk(l:List ByteArray)(s:ByteArray):∀i:Nat,(0≤sm l s i↔s∈l):=by
 induction l with
 | nil=>intro i;simp[sm]
 | cons a r ih=>
  intro i;simp only[sm,List.mem_cons];split
  .rename_i h;simp[h]
  .rename_i h;rw[ih];simp[h]
theorem De(l:List ByteArray)(s:ByteArray)(v:Value)(w:World)(hv:fC w l v):
 Calls Tryz.prog 157 #[v,.string s] w fun e w'=>e=.returned (.int .i64 (sm l s 0))/\w=w':=by
 have hv':=hv;obtain⟨p,cap,rfl,h1,h2,h3⟩:=hv';have H3:=Lib.hid h3;clear h3;have HV:=Lib.hid hv;clear hv;go_enter Tryz.func157,Tryz.ntmps157;go_wp2_with fail;go_loop [8,5] (fun i _=>∃j:Nat,i=.int .i64 j/\j≤l.length/\sm (l.drop j) s j=sm l s 0) (fun i _=>l.length-(intOf i).toNat);case atStart=>exact⟨0,rfl,RZ _,rfl⟩
 case round=>
  obtain⟨j,rfl,hj,hrec⟩:=hrel;have HR:=Lib.hid hrec;clear hrec;by_cases hlt:j<l.length
  .obtain⟨b,off,rfl,hc⟩:=IP HV.out hlt;by_cases he:s=l[j]
   .have he':(s.toList==(l[j]).toList)=true:=by rw[Fp];simpa using he
    have HE:=Lib.hid he;clear he;go_wp2_with fail;go_ret;exact⟨dX (by rw[<-HR.out,RL hlt,sm,if_pos HE.out]),rfl⟩
   .have he':(s.toList==(l[j]).toList)=false:=by rw[Fp];simpa using he
    go_wp2_with fail;go_round;case rel=>exact⟨j+1,by go_num,by omega,by rw[<-HR.out,RL hlt,sm,if_neg he]⟩
    case measure=>simp[intOf];omega
  .have:j=l.length:=by omega
   subst this;go_wp2_with fail;go_ret;exact⟨dX (by rw[<-HR.out];simp[sm]),rfl⟩
theorem iC(l:List ByteArray)(s:ByteArray)(v:Value)(w:World)(hv:fC w l v):
 Calls Tryz.prog 121 #[v,.string s] w fun e w'=>e=.returned (.bool (inB s l))/\w=w':=by
 have hi:=Jk l s 0;have HI:=Lib.hid hi;clear hi;go_enter Tryz.func121,Tryz.ntmps121;go_wp2_with (go_at_call 157;refine(De _ _ _ _ hv).mono ?_;rintro e w' ⟨rfl,rfl⟩);go_ret;exact⟨cq (by rw[Rv,A6];simpa using HI.out),rfl⟩
def oE(w:World):Prop:=∃v,w.cell? ⟨0,0,none⟩=some v/\fC w dk v
theorem oE.ext{w w':World}(h:Ext w w'):oE w->oE w'
 | ⟨v,h1,h2⟩=>⟨v,h.cell h1,h2.ext h⟩
theorem gM(s:ByteArray)(w:World)(hk:oE w):
 Calls Tryz.prog 85 #[.string s] w fun e w'=>e=.returned (.bool (inB s dk))/\w=w':=by
 obtain⟨v,h1,h2⟩:=hk;go_enter Tryz.func85,Tryz.ntmps85;go_wp2_with (go_at_call 121;refine(iC _ _ _ _ h2).mono ?_;rintro e w' ⟨rfl,rfl⟩);go_ret;exact⟨rfl,rfl⟩
def cf(s:ByteArray):Bool:=gV s&&decide (s.size≤16) && !inB s dk
theorem gI(s:ByteArray)(w:World)(hs:s.size≤9223372036854775807)(hk:oE w):
 Calls Tryz.prog 49 #[.string s] w fun e w'=>e=.returned (.bool (cf s))/\Ext w w':=by
 have HK:=Lib.hid hk;clear hk;by_cases hw:gV s=true
 .by_cases hz:s.size≤16
  .go_enter Tryz.func49,Tryz.ntmps49;go_wp2_with (first|(go_at_call 84;refine(qQ _ _ hs).mono ?_;rintro e w' ⟨rfl,hx⟩)|(go_at_call 85;refine(gM _ _ (HK.out.ext (by assumption))).mono ?_;rintro e w' ⟨rfl,rfl⟩));go_ret;exact⟨cq (by simp[cf,hw,hz]),by assumption⟩
  .go_enter Tryz.func49,Tryz.ntmps49;go_wp2_with (first|(go_at_call 84;refine(qQ _ _ hs).mono ?_;rintro e w' ⟨rfl,hx⟩)|(go_at_call 85;refine(gM _ _ (HK.out.ext (by assumption))).mono ?_;rintro e w' ⟨rfl,rfl⟩));go_ret;exact⟨cq (by rw[cf,hw,decide_eq_false (by omega)];rfl),by assumption⟩
 .have hw':gV s=false:=by simpa using hw
  clear hw;go_enter Tryz.func49,Tryz.ntmps49;go_wp2_with (first|(go_at_call 84;refine(qQ _ _ hs).mono ?_;rintro e w' ⟨rfl,hx⟩)|(go_at_call 85;refine(gM _ _ (HK.out.ext (by assumption))).mono ?_;rintro e w' ⟨rfl,rfl⟩));go_ret;exact⟨cq (by simp[cf,hw']),by assumption⟩
abbrev Bs:=List UInt8
def inn(c:UInt8):Bool:=fP c.toNat
def ip(c:UInt8):Bool:=c==32||c==9||c==10
def rh:Nat->Bs->Bs
 | 0,l=>l
 | _+1,[]=>[]
 | k+1,c::r=>if ip c=true then rh k r else if c=47/\r.head? = some 47 then rh k ((c::r).dropWhile (· != 10))else c::r
def be(l:Bs):Bs:=rh l.length l
theorem jI{c:UInt8}{r:Bs}(h:c=47):((c::r).dropWhile (· != 10)).length≤r.length:=by
 subst h;rw[RF (by decide)];exact List.IsSuffix.length_le (RM _)
theorem EQ:∀(k:Nat) (l:Bs),l.length≤k->rh k l=be l:=by
 intro k
 induction k using RW with
 | ind k ih=>
 intro l hk
 match l with
 | []=>cases k<;>rfl
 | c::r=>
  match k with
  | 0=>simp at hk
  | k+1=>
   have hr:r.length≤k:=by simpa using hk
   unfold be;simp only[RP,rh];split
   .by_cases e:r.length<k
    .rw[ih k (by omega) r hr];rfl
    .have:r.length=k:=by omega
     rw[this]
   .split
    .rename_i h;have hd:=jI (r:=r) h.1;rw[ih k (by omega) _ (by omega)];by_cases e:r.length<k+1
     .exact(ih r.length e _ hd).symm
     .omega
    .rfl
theorem db:be []=[]:=rfl
theorem cx(c:UInt8)(r:Bs):be (c::r)=if ip c=true then be r else if c=47/\r.head? = some 47 then be ((c::r).dropWhile (· != 10))else c::r:=by
 show rh (r.length+1) (c::r)=_;rw[rh];split
 .rfl
 .split
  .rename_i h;exact EQ _ _ (jI h.1)
  .rfl
theorem vd:∀(k:Nat) (l:Bs),l.length≤k->be l <:+ l:=by
 intro k
 induction k with
 | zero=>intro l h;have:l=[]:=RB (by omega);subst this;exact RI _
 | succ k ih=>
  intro l h
  match l with
  | []=>exact RI _
  | c::r=>
   have hr:r.length≤k:=by simpa using h
   rw[cx];split
   .exact(ih r hr).trans (List.suffix_cons _ _)
   .split
    .rename_i hc;exact(ih _ (RX (jI hc.1) hr)).trans (RM _)
    .exact RI _
theorem dH(l:Bs):be l <:+ l:=vd _ l (RY _)
theorem iD(l:Bs):be (be l)=be l:=by
 suffices H:∀(k:Nat) (l:Bs),l.length≤k->be (be l)=be l from H _ l (RY _)
 intro k
 induction k with
 | zero=>intro l h;have:l=[]:=RB (by omega);subst this;rfl
 | succ k ih=>
  intro l h
  match l with
  | []=>rfl
  | c::r=>
   have hr:r.length≤k:=by simpa using h
   rw[cx];split
   .exact ih r hr
   .split
    .rename_i hc;exact ih _ (RX (jI hc.1) hr)
    .rename_i h1 h2;rw[cx,if_neg h1,if_neg h2]
def aC:List Bs:=[[40],[41],[123],[125],[91],[93],[44],[59],[58],[46,46],[63],[61],[61,61],[33,61],[60],[60,61],[62],[62,61],[60,60],[62,62],[43],[45],[42],[38],[124],[94],[126],[33],[38,38],[124,124],[45,62],[61,62],[58,61],[58,47],[35,35],[64]]
def ef:List Bs->Nat->Bs->Nat
 | [],b,_=>b
 | m::r,b,l=>ef r (if b<m.length/\m.isPrefixOf l=true then m.length else b) l
def ck(l:Bs):Nat:=ef aC 0 l
def ct(l:Bs):Nat:=l.foldl (fun n c=>10*n+(c.toNat-48)) 0
inductive Rd where
 | err (e:Int)
 | tok (kind num:Int) (len:Nat)
def bG:Bs->Rd
 | []=>.err 5
 | c::r=>
  if fh c.toNat=true then
   if 16<((c::r).takeWhile inn).length then .err 2
   else .tok (if inB ⟨((c::r).takeWhile inn).toArray⟩ dk=true then 2 else 1) 0 ((c::r).takeWhile inn).length
  else if da c.toNat=true then
   if(((c::r).takeWhile inn).all fun x=>da x.toNat)=false\/(1<((c::r).takeWhile inn).length/\c=48)then .err 5
   else if 2147483647<ct ((c::r).takeWhile inn)then .err 3
   else .tok 3 (ct ((c::r).takeWhile inn)) ((c::r).takeWhile inn).length
  else if ck (c::r)=0 then .err 5 else .tok 4 0 (ck (c::r))
structure Tok where
 kind:Int
 num:Int
 text:ByteArray
 line:Int
inductive Lx where
 | ok (l:List Tok)
 | err (line e:Int)
def Lx.cons(t:Tok):Lx->Lx
 | .ok l=>.ok (t::l)
 | .err n e=>.err n e
def Lx.app(ts:List Tok):Lx->Lx
 | .ok l=>.ok (ts++l)
 | .err n e=>.err n e
def eG(N:Int)(r:Bs)(kind num:Int)(len:Nat):Tok:=⟨kind,num,⟨(r.take len).toArray⟩,N-(r.count 10:Nat)⟩
def DE:Nat->Int->Bs->Lx
 | 0,_,_=>.ok []
 | k+1,N,l=>match be l with
  | []=>.ok []
  | c::r=>match bG (c::r)with
   | .err e=>.err (N-((c::r).count 10:Nat)) e
   | .tok kind num len=>(DE k N ((c::r).drop len)).cons (eG N (c::r) kind num len)
def dn(N:Int)(l:Bs):Lx:=DE (l.length+1) N l
def cS(l:Bs):Lx:=dn (1+(l.count 10:Nat)) l
theorem lG:∀(ms:List Bs) (b:Nat) (l:Bs),ef ms b l=b\/∃m,m∈ms/\m.isPrefixOf l=true/\ef ms b l=m.length
 | [],b,l=>.inl rfl
 | m::r,b,l=>by
  simp only[ef];split
  .rename_i h;rcases lG r m.length l with h1|⟨m',h1,h2,h3⟩
   .exact .inr ⟨m,by simp,h.2,h1⟩
   .exact .inr ⟨m',by simp[h1],h2,h3⟩
  .rcases lG r b l with h1|⟨m',h1,h2,h3⟩
   .exact .inl h1
   .exact .inr ⟨m',by simp[h1],h2,h3⟩
theorem tT(l:Bs):ck l≤l.length/\ck l≤2:=by
 rcases lG aC 0 l with h|⟨m,h1,h2,h3⟩
 .unfold ck;rw[h];omega
 .have h4:=(List.isPrefixOf_iff_prefix.1 h2).length_le;have h5:m.length≤2:=(by decide:∀m,m∈aC->m.length≤2) m h1;unfold ck;omega
theorem iU{l:Bs}{kind num:Int}{len:Nat}(h:bG l=.tok kind num len):1≤len/\len≤l.length:=by
 match l with
 | []=>cases h
 | c::r=>
  have htw:((c::r).takeWhile inn).length≤(c::r).length:=(List.takeWhile_prefix _).length_le;have h1:inn c=true->1≤((c::r).takeWhile inn).length:=fun hi=>by rw[RC hi];simp
  simp only[bG]at h;split at h
  .rename_i hl;split at h
   .cases h
   .cases h;exact⟨h1 (by unfold inn fP;simp[hl]),htw⟩
  .split at h
   .rename_i hd;split at h
    .cases h
    .split at h
     .cases h
     .cases h;exact⟨h1 (by unfold inn fP;simp[hd]),htw⟩
   .split at h
    .cases h
    .cases h;have:=tT (c::r);omega
theorem IF:∀(k:Nat) (N:Int) (l:Bs),l.length<k->DE k N l=dn N l:=by
 intro k
 induction k using RW with
 | ind k ih=>
 intro N l hk
 match k with
 | 0=>omega
 | k+1=>
  unfold dn;simp only[DE];have hs:=(dH l).length_le;cases hsk:be l with
  | nil=>rfl
  | cons c r=>
   rw[hsk]at hs;simp only;cases hrd:bG (c::r)with
   | err e=>rfl
   | tok kind num len=>
    obtain⟨h1,h2⟩:=iU hrd;have h3:((c::r).drop len).length<l.length:=by rw[RJ];omega
    simp only;rw[ih k (by omega) N _ (by omega)];by_cases e:l.length<k+1
    .rw[ih l.length (by omega) N _ h3]
    .omega
theorem aX(N:Int)(l:Bs):dn N l=match be l with
 | []=>.ok []
 | c::r=>match bG (c::r)with
  | .err e=>.err (N-((c::r).count 10:Nat)) e
  | .tok kind num len=>(dn N ((c::r).drop len)).cons (eG N (c::r) kind num len):=by
 have:dn N l=DE (l.length+1) N l:=rfl;rw[this,DE];have hs:=(dH l).length_le;cases hsk:be l with
 | nil=>rfl
 | cons c r=>
  rw[hsk]at hs;simp only;cases hrd:bG (c::r)with
  | err e=>rfl
  | tok kind num len=>
   obtain⟨h1,h2⟩:=iU hrd;simp only;rw[IF _ N _ (by rw[RJ];omega)]
theorem mG{p:UInt8->Bool}:∀{t q:Bs},(∀x,x∈t->p x=true)->(∀x,q.head? = some x->p x=false)->(t++q).takeWhile p=t
 | [],[],_,_=>rfl
 | [],x::q,_,h=>by rw[RE,RD (by rw[h x rfl];decide)]
 | a::t,q,ht,h=>by
  rw[RA,RC (ht a (by simp)),mG (fun x hx=>ht x (by simp[hx])) h]
theorem At{p:UInt8->Bool}{x:UInt8}(hx:p x=false):∀(l q:Bs),(l++x::q).takeWhile p=l.takeWhile p
 | [],q=>by rw[RE,RD (by rw[hx];decide)];rfl
 | a::l,q=>by
  by_cases h:p a=true
  .rw[RA,RC h,RC h,At hx l q]
  .rw[RA,RD h,RD h]
theorem pw:∀m,m∈aC->∀x,x∈m->x≠10:=by decide
theorem pA:∀m,m∈aC->m.length≤2:=by decide
theorem vC{m l q:Bs}(hm:∀x,x∈m->x≠10):m.isPrefixOf (l++10::q)=m.isPrefixOf l:=by
 induction m generalizing l with
 | nil=>simp
 | cons a m ih=>
  cases l with
  | nil=>
   have:(a==(10:UInt8))=false:=beq_eq_false_iff_ne.2 (hm a (by simp));simp[RH,this]
  | cons b l=>simp only[RA,RH,ih (l:=l) (fun x hx=>hm x (by simp[hx]))]
theorem BV(l q:Bs):ck (l++10::q)=ck l:=by
 suffices H:∀(ms:List Bs),(∀m,m∈ms->m∈aC)->∀b,ef ms b (l++10::q)=ef ms b l from H aC (fun _ h=>h) 0
 intro ms
 induction ms with
 | nil=>intro _ b;rfl
 | cons m ms ih=>
  intro h b;simp only[ef,vC (pw m (h m (by simp)))];exact ih (fun x hx=>h x (by simp[hx])) _
theorem Dt{l:Bs}(h:l≠[])(q:Bs):bG (l++10::q)=bG l:=by
 match l,h with
 | c::r,_=>
  have h1:=At (p:=inn) (x:=10) (by decide) (c::r) q;have h2:=BV (c::r) q;rw[RA]at h1 h2 ⊢;simp only[bG,h1,h2]
theorem Ad{p:UInt8->Bool}{x:UInt8}(hx:p x=false):∀(l q:Bs),(l++x::q).dropWhile p=l.dropWhile p++x::q
 | [],q=>by rw[RE,RG (by rw[hx];decide)];rfl
 | a::l,q=>by
  by_cases h:p a=true
  .rw[RA,RF h,RF h,Ad hx l q]
  .rw[RA,RG h,RG h];rfl
theorem tc:∀(k:Nat) (l q:Bs),l.length≤k->be (l++10::q)=if be l=[]then be q else be l++10::q:=by
 intro k;have nl:∀q,be (10::q)=be q:=fun q=>by rw[cx,if_pos (by decide)]
 induction k with
 | zero=>
  intro l q h;have:l=[]:=RB (by omega);subst this;rw[RE,nl,db,if_pos rfl]
 | succ k ih=>
  intro l q h
  match l with
  | []=>rw[RE,nl,db,if_pos rfl]
  | c::r=>
   have hr:r.length≤k:=by simpa using h
   rw[RA,cx,cx];by_cases hb:ip c=true
   .rw[if_pos hb,if_pos hb];exact ih r q hr
   .rw[if_neg hb,if_neg hb];by_cases hc:c=47/\r.head? = some 47
    .have hc2:c=47/\(r++10::q).head? = some 47:=⟨hc.1,by
      cases r with
      | nil=>simp at hc
      | cons a r=>simpa using hc.2⟩
     rw[if_pos hc,if_pos hc2,<-RA,Ad (by decide)];exact ih _ q (RX (jI hc.1) hr)
    .have hc2:¬(c=47/\(r++10::q).head? = some 47):=by
      rintro⟨h1,h2⟩;cases r with
      | nil=>simp at h2
      | cons a r=>exact hc ⟨h1,by simpa using h2⟩
     rw[if_neg hc,if_neg hc2,if_neg (by simp)];rfl
theorem DR:∀(k:Nat) (N:Int) (s t:Bs) (a:List Tok),s.length≤k->dn (N-((10::t).count 10:Nat)) s=.ok a->dn N (s++10::t)=(dn N t).app a:=by
 intro k
 induction k with
 | zero=>
  intro N s t a h ht;have:s=[]:=RB (by omega);subst this;rw[aX,db]at ht;cases ht;rw[aX,aX N t,tc 0 [] t (by simp),if_pos db];cases be t with
  | nil=>rfl
  | cons c r=>
   simp only;cases bG (c::r)with
   | err e=>rfl
   | tok kd n len=>simp only;cases (dn N ((c::r).drop len)).cons _<;>rfl
 | succ k ih=>
  intro N s t a h ht;rw[aX]at ht;rw[aX,tc _ s t (RY _)];cases hsk:be s with
  | nil=>
   rw[hsk]at ht;cases ht;rw[if_pos rfl,aX N t];cases be t with
   | nil=>rfl
   | cons c r=>
    simp only;cases bG (c::r)with
    | err e=>rfl
    | tok kd n len=>simp only;cases (dn N ((c::r).drop len)).cons _<;>rfl
  | cons c r=>
   rw[hsk]at ht;have hs:=(dH s).length_le;rw[hsk]at hs;rw[if_neg (by simp)];simp only[RA]at ht ⊢;have hrm:=Dt (l:=c::r) (by simp) t;rw[RA]at hrm;rw[hrm];cases hrd:bG (c::r)with
   | err e=>rw[hrd]at ht;cases ht
   | tok kd n len=>
    rw[hrd]at ht;obtain⟨h1,h2⟩:=iU hrd;simp only at ht ⊢
    have hd:(c::(r++10::t)).drop len=(c::r).drop len++10::t:=by
     rw[<-RA,List.drop_append_of_le_length h2]
    have htk:(c::(r++10::t)).take len=(c::r).take len:=by
     rw[<-RA,RK h2]
    have hcnt:((c::(r++10::t)).count 10:Nat)=(c::r).count 10+(10::t).count 10:=by
     rw[<-RA,RO]
    rw[hd];cases hx:dn (N-((10::t).count 10:Nat)) ((c::r).drop len)with
    | err x e=>rw[hx]at ht;cases ht
    | ok ts=>
     rw[hx]at ht;cases ht;rw[ih N _ t ts (by rw[RJ];simp only[RP]at hs h2 ⊢;omega) hx]
     have hcut:eG N (c::(r++10::t)) kd n len=eG (N-((10::t).count 10:Nat)) (c::r) kd n len:=by
      unfold eG;rw[htk,hcnt];congr 1;omega
     rw[hcut];cases dn N t<;>rfl
def bl(t:Tok):Bool:=
 if t.kind=3 then decide (0≤t.num)&&decide (t.num≤2147483647)&&(t.text.data.toList==Lib.decDigits t.num.toNat)
 else if t.kind=1 then decide (t.num=0)&&cf t.text
 else if t.kind=2 then decide (t.num=0)&&inB t.text dk
 else if t.kind=4 then decide (t.num=0)&&aC.contains t.text.data.toList
 else false
theorem CO{x:UInt8}(h:ip x=true):inn x=false:=by
 simp only[ip,Ru,beq_iff_eq]at h;rcases h with(rfl|rfl)|rfl<;>decide
def uY(q:Bs):Prop:=∀x,q.head? = some x->ip x=true
theorem gR(d:Nat)(h:d<10):(UInt8.ofNat (48+d)).toNat=48+d:=by
 have:∀d,d<10->(UInt8.ofNat (48+d)).toNat=48+d:=by decide
 exact this d h
theorem pP(u:Nat):∀x,x∈Lib.decDigits u->da x.toNat=true:=by
 induction u using RW with
 | ind u ih=>
 intro x hx;rw[Lib.decDigits]at hx;split at hx
 .rename_i h;simp only[RN]at hx;subst hx;rw[gR u h];simp only[da,Rs,decide_eq_true_eq];omega
 .rename_i h;rcases List.mem_append.1 hx with h1|h1
  .exact ih (u/10) (by omega) x h1
  .simp only[RN]at h1;subst h1;rw[gR _ (by omega)];simp only[da,Rs,decide_eq_true_eq];omega
theorem Bi(u:Nat):ct (Lib.decDigits u)=u:=by
 induction u using RW with
 | ind u ih=>
 rw[Lib.decDigits];split
 .rename_i h;simp only[ct,RQ,RS,gR u h];omega
 .rename_i h;have:=ih (u/10) (by omega);unfold ct at this ⊢;rw[List.foldl_append,this];simp only[RQ,RS,gR (u%10) (by omega)];omega
theorem rN(u:Nat):∃c r,Lib.decDigits u=c::r/\(1≤u->c≠48)/\(u<10->r=[]):=by
 induction u using RW with
 | ind u ih=>
 rw[Lib.decDigits];split
 .rename_i h;refine⟨_,_,rfl,fun h1 e=>?_,fun _=>rfl⟩;have:=congrArg UInt8.toNat e;rw[gR u h]at this;have h48:(48:UInt8).toNat=48:=rfl;omega
 .rename_i h;obtain⟨c,r,h1,h2,h3⟩:=ih (u/10) (by omega);exact⟨c,r++_,by rw[h1];rfl,fun _=>h2 (by omega),fun hh=>absurd hh h⟩
theorem lI(l:Bs):ck l=ck (l.take 2):=by
 suffices H:∀(ms:List Bs),(∀m,m∈ms->m.length≤2)->∀b,ef ms b l=ef ms b (l.take 2)from H aC pA 0
 have hp:∀(m:Bs),m.length≤2->m.isPrefixOf l=m.isPrefixOf (l.take 2):=by
  intro m hm
  match m,l with
  | [],_=>simp
  | [a],[]=>rfl
  | [a],b::r=>simp[RH]
  | [a,a'],[]=>rfl
  | [a,a'],[b]=>rfl
  | [a,a'],b::b'::r=>simp[RH]
 intro ms
 induction ms with
 | nil=>intro _ b;rfl
 | cons m ms ih=>
  intro h b;simp only[ef,hp m (h m (by simp))];exact ih (fun x hx=>h x (by simp[hx])) _
theorem km:∀m,m∈aC->∀b,b∈[[],[32],[9],[10]]->ck ((m++b).take 2)=m.length/\(match m with | []=>false|c::_=>!(fh c.toNat) && !(da c.toNat) && !(ip c)&&(c != 47))=true:=by decide +kernel
theorem qN:∀s,s∈dk->(match s.data.toList with | []=>false|c::r=>fh c.toNat&&((c::r).all inn)&&decide ((c::r).length≤16))=true:=by decide +kernel
theorem uo{s:ByteArray}{l:List ByteArray}(h:inB s l=true):s∈l:=by
 apply Rz;intro hn;rw[AN.2 hn]at h;cases h
theorem pc{c:UInt8}(h:da c.toNat=true):fh c.toNat=false:=by
 simp only[fh,da,Rs,decide_eq_true_eq,Rw,decide_eq_false_iff_not]at h ⊢;omega
theorem iG{c:UInt8}(h:fh c.toNat=true\/da c.toNat=true):ip c=false/\c≠47:=by
 constructor
 .cases hb:ip c with
  | false=>rfl
  | true=>
   simp only[ip,Ru,beq_iff_eq]at hb;rcases hb with(rfl|rfl)|rfl<;>revert h<;>decide
 .rintro rfl;revert h;decide
theorem dA{c:UInt8}{r:Bs}(h:ip c=false)(h2:c≠47):be (c::r)=c::r:=by
 rw[cx,if_neg (by rw[h];decide),if_neg (fun h=>h2 h.1)]
theorem lA(s:ByteArray):(⟨s.data.toList.toArray⟩:ByteArray)=s:=Lib.mk_data s
theorem Bx{l q:Bs}(hmem:l∈aC)(hq:uY q):l≠[]/\bG (l++q)=.tok 4 0 l.length/\be (l++q)=l++q:=by
 have hbest:ck (l++q)=l.length:=by
  rw[lI]
  match q,hq with
  | [],_=>exact(km l hmem [] (by simp)).1
  | x::q,hq=>
   have hx:=hq x rfl
   have hx2:[x]∈([[],[32],[9],[10]]:List Bs):=by
    simp only[ip,Ru,beq_iff_eq]at hx;rcases hx with(rfl|rfl)|rfl<;>simp
   have h9:=(km l hmem [x] hx2).1
   have hne:1≤l.length:=by
    have:=(km l hmem [] (by simp)).2;cases l with
    | nil=>cases this
    | cons a r=>simp
   have:(l++x::q).take 2=(l++[x]).take 2:=by
    rw[show l++x::q=(l++[x])++q by simp,RK (by simp;omega)]
   rw[this];exact h9
 have hc:=(km l hmem [] (by simp)).2;clear hmem;cases l with
 | nil=>cases hc
 | cons c r=>
  simp only[Rs,Ry,bne_iff_ne,ne_eq]at hc;obtain⟨⟨⟨c1,c2⟩,c3⟩,c4⟩:=hc;rw[RA]at hbest ⊢
  have key:bG (c::(r++q))=if ck (c::(r++q))=0 then .err 5 else .tok 4 0 (ck (c::(r++q))):=by
   simp only[bG,c1,c2,Rx,if_false]
  refine⟨by simp,?_,dA c3 c4⟩;rw[key,hbest];rfl
theorem mJ{t:Tok}(h:bl t=true){q:Bs}(hq:uY q):t.text.data.toList≠[]/\bG (t.text.data.toList++q)=.tok t.kind t.num t.text.data.toList.length/\be (t.text.data.toList++q)=t.text.data.toList++q:=by
 have hqi:∀x,q.head? = some x->inn x=false:=fun x hx=>CO (hq x hx);unfold bl at h;split at h
 .rename_i hk;simp only[Rs,decide_eq_true_eq,beq_iff_eq]at h;obtain⟨⟨h0,h1⟩,h2⟩:=h;obtain⟨c,r,h3,h4,h5⟩:=rN t.num.toNat;have hd:=pP t.num.toNat;have hv:=Bi t.num.toNat;rw[h2,h3]at *;have hin:∀x,x∈c::r->inn x=true:=fun x hx=>by have:=hd x hx;simp[inn,fP,this]
  have htw:=mG hin hqi;have hdc:=hd c (by simp);obtain⟨hb,h47⟩:=iG (.inr hdc);refine⟨by simp,?_,?_⟩
  .rw[RA]at htw ⊢;simp only[bG,htw,pc hdc,hdc,hv,if_true,Rx,if_false];rw[if_neg,if_neg (by omega)]
   .rw[hk];congr 1;omega
   .rintro(ha|⟨ha,rfl⟩)
    .have:((c::r).all fun x=>da x.toNat)=true:=List.all_eq_true.2 hd;rw[this]at ha;cases ha
    .by_cases h10:t.num.toNat<10
     .rw[h5 h10]at ha;simp at ha
     .exact h4 (by omega) rfl
  .rw[RA];exact dA hb h47
 .split at h
  .rename_i hk;simp only[Rs,decide_eq_true_eq]at h;obtain⟨h0,h1⟩:=h;simp only[cf,Rs,decide_eq_true_eq,Ry]at h1;obtain⟨⟨hw,hz⟩,hkw⟩:=h1;unfold gV at hw;have htx:=lA t.text;rw[Lib.size_eq]at hz;generalize hl:t.text.data.toList=l at *
   match l,hw with
   | c::r,hw=>
    simp only[iM,Rs]at hw;have hin:∀x,x∈c::r->inn x=true:=fun x hx=>List.all_eq_true.1 hw.2 x hx;have htw:=mG hin hqi;obtain⟨hb,h47⟩:=iG (.inl hw.1);refine⟨by simp,?_,?_⟩
    .rw[RA]at htw ⊢;simp only[bG,htw,hw.1,if_true];rw[if_neg (by omega),htx,hkw,hk,h0];rfl
    .rw[RA];exact dA hb h47
  .split at h
   .rename_i hk;simp only[Rs,decide_eq_true_eq]at h;obtain⟨h0,h1⟩:=h;have hf:=qN _ (uo h1);have htx:=lA t.text;generalize hl:t.text.data.toList=l at *
    match l,hf with
    | c::r,hf=>
     simp only[Rs,decide_eq_true_eq]at hf;obtain⟨⟨hlow,hall⟩,hz⟩:=hf;have hin:∀x,x∈c::r->inn x=true:=fun x hx=>List.all_eq_true.1 hall x hx;have htw:=mG hin hqi;obtain⟨hb,h47⟩:=iG (.inl hlow);refine⟨by simp,?_,?_⟩
     .rw[RA]at htw ⊢;simp only[bG,htw,hlow,if_true];rw[if_neg (by omega),htx,h1,hk,h0];rfl
     .rw[RA];exact dA hb h47
   .split at h
    .rename_i hk;simp only[Rs,decide_eq_true_eq]at h;obtain⟨h0,h1⟩:=h;have hmem:t.text.data.toList∈aC:=by simpa using h1
     rw[hk,h0];exact Bx hmem hq
    .cases h
def fr:List (Tok×Bs)->Bs
 | []=>[]
 | (t,g)::r=>t.text.data.toList++(g++fr r)
def Gap(g:Bs):Prop:=(∀x,g.head? = some x->ip x=true)/\∀r,be (g++r)=be r
theorem Gap.nil:Gap []:=⟨fun x h=>by simp at h,fun r=>rfl⟩
theorem Gap.blank{c:UInt8}{g:Bs}(hc:ip c=true)(hg:∀r,be (g++r)=be r):Gap (c::g):=
 ⟨fun x h=>by simp at h;exact h▸hc,fun r=>by rw[RA,cx,if_pos hc];exact hg r⟩
theorem xM{c:UInt8}{r:Bs}(hc:ip c=true):be (c::r)=be r:=by rw[cx,if_pos hc]
def CM:List (Tok×Bs)->Prop
 | []=>True
 | [(t,g)]=>bl t=true/\Gap g
 | (t,g)::p::r=>bl t=true/\Gap g/\g≠[]/\CM (p::r)
theorem CM.head{t:Tok}{g:Bs}{r:List (Tok×Bs)}(h:CM ((t,g)::r)):bl t=true/\Gap g/\(g≠[]\/r=[])/\CM r:=by
 match r,h with
 | [],⟨h1,h2⟩=>exact⟨h1,h2,.inr rfl,trivial⟩
 | p::r,⟨h1,h2,h3,h4⟩=>exact⟨h1,h2,.inl h3,h4⟩
def sB(N:Int):List (Tok×Bs)->List Tok
 | []=>[]
 | (t,g)::r=>⟨t.kind,t.num,t.text,N-((fr ((t,g)::r)).count 10:Nat)⟩::sB N r
theorem tA{N:Int}{l:Bs}:dn N (be l)=dn N l:=by
 rw[aX,aX N l,iD]
theorem GN{N:Int}{g l:Bs}(h:Gap g):dn N (g++l)=dn N l:=by
 rw[aX,aX N l,h.2]
theorem pC:∀(l:List (Tok×Bs)) (N:Int),CM l->dn N (fr l)=.ok (sB N l)
 | [],N,_=>by rw[fr,aX,db];rfl
 | (t,g)::r,N,h=>by
  obtain⟨h1,h2,h3,h4⟩:=h.head
  have hq:uY (g++fr r):=by
   intro x hx;rcases h3 with h3|rfl
   .cases g with
    | nil=>exact absurd rfl h3
    | cons a g=>exact h2.1 x (by simpa using hx)
   .simp only[fr,RR]at hx;exact h2.1 x hx
  obtain⟨r1,r2,r3⟩:=mJ h1 hq;have ih:=pC r N h4;rw[aX];simp only[fr,sB]at r2 r3 ⊢;rw[r3];generalize hl:t.text.data.toList=l at *;cases l with
  | nil=>exact absurd rfl r1
  | cons c s=>
   simp only[RA]at r2 ⊢;rw[r2];simp only
   have hd:(c::(s++(g++fr r))).drop (c::s).length=g++fr r:=by
    rw[<-RA,List.drop_left]
   have ht:(c::(s++(g++fr r))).take (c::s).length=c::s:=by
    rw[<-RA,List.take_left]
   rw[hd,GN h2,ih];unfold eG;rw[ht,<-hl,lA];rfl
def cR:List Tok->Bs
 | []=>[]
 | [t]=>t.text.data.toList
 | t::u::r=>t.text.data.toList++32::cR (u::r)
def gF:List Tok->List (Tok×Bs)
 | []=>[]
 | [t]=>[(t,[])]
 | t::u::r=>(t,[32])::gF (u::r)
theorem o9:∀l,cR l=fr (gF l)
 | []=>rfl
 | [t]=>by simp[cR,gF,fr]
 | t::u::r=>by simp only[cR,gF,fr,o9 (u::r)];rfl
theorem JQ:Gap [32]:=.blank (by decide) fun _=>rfl
theorem ph:∀{l:List Tok},(∀t,t∈l->bl t=true)->CM (gF l)
 | [],_=>trivial
 | [t],h=>⟨h t (by simp),.nil⟩
 | [t,u],h=>⟨h t (by simp),JQ,by simp,h u (by simp),.nil⟩
 | t::u::v::r,h=>by
  have:=ph (l:=u::v::r) (fun x hx=>h x (by simp at hx ⊢;exact .inr hx));exact⟨h t (by simp),JQ,by simp,this⟩
theorem FR{x:UInt8}(h:inn x=true):x≠10:=by rintro rfl;revert h;decide
theorem oN{t:Tok}(h:bl t=true):t.text.data.toList.count 10=0:=by
 rw[List.count_eq_zero];intro hx;unfold bl at h;split at h
 .simp only[Rs,beq_iff_eq]at h;have:=pP t.num.toNat 10 (h.2▸hx)
  revert this;decide
 .split at h
  .simp only[Rs]at h;have hw:=h.2;simp only[cf,Rs,gV]at hw;generalize t.text.data.toList=l at *
   match l,hw.1.1 with
   | c::r,hw2=>
    simp only[iM,Rs]at hw2;exact FR (List.all_eq_true.1 hw2.2 10 hx) rfl
  .split at h
   .simp only[Rs]at h;have hf:=qN _ (uo h.2);generalize t.text.data.toList=l at *
    match l,hf with
    | c::r,hf=>
     simp only[Rs]at hf;exact FR (List.all_eq_true.1 hf.1.2 10 hx) rfl
   .split at h
    .simp only[Rs]at h;exact pw _ (by simpa using h.2) 10 hx rfl
    .cases h
theorem lw:∀{l:List Tok},(∀t,t∈l->bl t=true)->(fr (gF l)).count 10=0
 | [],_=>rfl
 | [t],h=>by simp only[gF,fr,RR];exact oN (h t (by simp))
 | t::u::r,h=>by
  have h1:=oN (h t (by simp));have h2:=lw (l:=u::r) (fun x hx=>h x (by simp at hx ⊢;exact .inr hx));simp only[gF,fr,RO,h1,h2];rfl
theorem qi:∀{l:List Tok} (N:Int),(∀t,t∈l->bl t=true)->sB N (gF l)=l.map fun t=>⟨t.kind,t.num,t.text,N⟩
 | [],_,_=>rfl
 | [t],N,h=>by
  have:=lw (l:=[t]) h;simp only[gF]at this;simp only[gF,sB,this,RU,List.map_nil];simp
 | t::u::r,N,h=>by
  have h1:=lw (l:=t::u::r) h;have h2:=qi (l:=u::r) N (fun x hx=>h x (by simp at hx ⊢;exact .inr hx));simp only[gF]at h1;simp only[gF,sB,h1,h2,RU];simp
theorem BW{l:List Tok}(h:∀t,t∈l->bl t=true):cS (cR l)=.ok (l.map fun t=>⟨t.kind,t.num,t.text,1⟩):=by
 have h1:=lw h;unfold cS;rw[o9,h1];rw[pC _ _ (ph h),qi _ h];rfl
def bs(l:Bs):ByteArray:=⟨l.toArray⟩
theorem aV(l:Bs):(bs l).data.toList=l:=by simp[bs]
theorem fl(s:ByteArray):bs s.data.toList=s:=Lib.mk_data s
theorem ay(l:Bs):(bs l).size=l.length:=by rw[Lib.size_eq,aV]
theorem Jo(l:Bs)(n:Nat):(bs l).extract 0 n=bs (l.take n):=by rw[Lib.extract_eq,aV];rfl
theorem IG(l:Bs)(n:Nat):(bs l).extract n (bs l).size=bs (l.drop n):=by
 rw[Lib.extract_eq,aV,ay];unfold bs;rw[List.take_of_length_le (by simp)]
theorem oz{a b:Bs}:bs a=bs b↔a=b:=⟨fun h=>by rw[<-aV a,<-aV b,h],fun h=>by rw[h]⟩
theorem dj:bs []=⟨#[]⟩:=rfl
theorem eB(a b:Bs):bs a++bs b=bs (a++b):=by
 apply ByteArray.ext;apply Array.ext';simp[bs]
theorem qv(a b:Bs):decide (bs a=bs b)=decide (a=b):=by rw[decide_eq_decide];exact oz
end Go.Proofs.YthekkgfmagliiaaGreatDoor
