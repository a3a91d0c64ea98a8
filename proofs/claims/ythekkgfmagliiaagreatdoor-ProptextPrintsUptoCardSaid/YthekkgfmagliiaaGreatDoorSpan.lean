import Derived.Test.YthekkgfmagliiaaGreatDoorBs
import Derived.Lib.ParseIntB
import Derived.Lib.ParseIntBCases
set_option linter.unusedVariables false
set_option linter.unusedSimpArgs false
set_option linter.unusedSectionVars false
namespace Go.Proofs.YthekkgfmagliiaaGreatDoor
open Go.RowKit
def dig(x:UInt8):Bool:=fX x.toNat
structure ByteP(q:UInt8→Bool)(p:Int→Bool):Prop where
 low:∀b:UInt8,b.toNat<128→p b.toNat=q b
 high:∃v,(∀c:Int,128≤c→p c=v)∧∀b:UInt8,128≤b.toNat→q b=v
theorem yz(s:ByteArray)(k:Nat)(h:k<s.size):s.get! k=s[k]'h:=by
 simp[ByteArray.get!,getElem!_pos,h];rfl
theorem fc(s:ByteArray)(k:Nat)(h:k<s.size):s.data.toList[k]? = some (s[k]'h):=by
 have h1:s.data.toList.length=s.size:=Lib.size_eq s;rw[List.getElem?_eq_getElem (by omega)];rfl
theorem pz(s:ByteArray)(pos:Nat)(h:pos<s.size)(ha:128≤(s[pos]'h).toNat):1≤(Utf8.decode s pos).2∧∀k,k<(Utf8.decode s pos).2→∃hk:pos+k<s.size,128≤(s[pos+k]'hk).toNat:=by
 have e0:s.get! (pos+0)=s[pos]'h:=yz s pos h;have e2:¬(s[pos]'h).toNat<128:=by omega
 have one:∀k,k<1→∃hk:pos+k<s.size,128≤(s[pos+k]'hk).toNat:=fun k hk=>by
  have:k=0:=by omega
  subst this;exact⟨h,ha⟩
 have cont:∀k,(decide (pos+k<s.size)&&((s.get! (pos+k)).toNat/64==2))=true→∃hk:pos+k<s.size,128≤(s[pos+k]'hk).toNat:=fun k hk=>by
  simp only[Bool.and_eq_true,decide_eq_true_eq,beq_iff_eq]at hk;refine⟨hk.1,?_⟩;have:=hk.2;rw[yz s _ hk.1]at this;omega
 simp only[Utf8.decode,e0,e2,if_false];split
 ·rename_i h1;simp only[Bool.and_eq_true]at h1;split
  ·refine⟨by omega,fun k hk=>?_⟩;have:k=0∨k=1:=by simp only at hk;omega
   rcases this with rfl|rfl
   ·exact⟨h,ha⟩
   ·exact cont 1 (by simpa using h1.2)
  ·exact⟨by omega,one⟩
 ·split
  ·rename_i h1;simp only[Bool.and_eq_true]at h1;split
   ·refine⟨by omega,fun k hk=>?_⟩;have:k=0∨k=1∨k=2:=by simp only at hk;omega
    rcases this with rfl|rfl|rfl
    ·exact⟨h,ha⟩
    ·exact cont 1 (by simpa using h1.1.2)
    ·exact cont 2 (by simpa using h1.2)
   ·exact⟨by omega,one⟩
  ·split
   ·rename_i h1;simp only[Bool.and_eq_true]at h1;split
    ·refine⟨by omega,fun k hk=>?_⟩;have:k=0∨k=1∨k=2∨k=3:=by simp only at hk;omega
     rcases this with rfl|rfl|rfl|rfl
     ·exact⟨h,ha⟩
     ·exact cont 1 (by simpa using h1.1.1.2)
     ·exact cont 2 (by simpa using h1.1.2)
     ·exact cont 3 (by simpa using h1.2)
    ·exact⟨by omega,one⟩
   ·exact⟨by omega,one⟩
theorem xW(q:UInt8→Bool):∀(n:Nat) (l:Bs),(∀k,k<n→∃b,l[k]? = some b∧q b=true)→(l.takeWhile q).length=n+((l.drop n).takeWhile q).length
 | 0,l,_=>by simp
 | n+1,[],h=>by obtain⟨b,h1,-⟩:=h 0 (by omega);simp at h1
 | n+1,a::l,h=>by
  obtain⟨b,h1,h2⟩:=h 0 (by omega);simp only[List.getElem?_cons_zero,Option.some.injEq]at h1;subst h1;have:=xW q n l (fun k hk=>by obtain⟨b,h3,h4⟩:=h (k+1) (by omega);exact⟨b,by simpa using h3,h4⟩);rw[List.takeWhile_cons_of_pos h2,List.drop_succ_cons,List.length_cons,this];omega
set_option maxRecDepth 100000 in
theorem xT(F:FuncId)(cap:Array Value)(q:UInt8→Bool)(p:Int→Bool)(hq:ByteP q p)(hF:∀args w,(callFunc F args).run Tryz.prog w=.ok (.enter F args) w)
 (H:∀(c:Int) (w:World),Calls Tryz.prog F (#[.int .i32 c]++cap) w fun e w'=>e=.returned (.bool (p c))∧w=w')(s:ByteArray)(w:World)(hs:s.size≤9223372036854775807):
 Calls Tryz.prog 112 #[.string s,.func (.func F) #[] cap] w fun e w'=>e=.returned (.int .i64 (s.data.toList.takeWhile q).length)∧Ext w w':=by
 have HH:=Lib.hid H;clear H;obtain⟨N,hN⟩:∃N,N=(s.data.toList.takeWhile q).length:=⟨_,rfl⟩
 rw[←hN];have HN:=Lib.hid hN;clear hN;have HQ:=Lib.hid hq;clear hq;go_enter Tryz.func112,Tryz.ntmps112;go_wp2_with fail;go_loopw [5,6] (fun _ _ wr=>∃pos:Nat,pos≤s.size∧wr=w.iter s pos∧N=pos+((s.data.toList.drop pos).takeWhile q).length) (fun _ _ wr=>match wr.heap[w.heap.size]? with|some (.stringIter _ p)=>s.size-p|_=>0);case atStart=>exact⟨0,Nat.zero_le _,rfl,by rw[HN.out];simp⟩
 case round=>
  obtain⟨pos,hp,rfl,hb⟩:=hrel;have HB:=Lib.hid hb;clear hb;by_cases hlt:pos<s.size
  ·have hnx:=fun ty=>jt (P:=Tryz.prog) w s pos ty hlt;have hl:s.data.toList[pos]? = some (s[pos]'hlt):=fc s pos hlt
   have hpq:p (Utf8.decode s pos).1=q (s[pos]'hlt)∧(q (s[pos]'hlt)=true→1≤(Utf8.decode s pos).2∧pos+(Utf8.decode s pos).2≤s.size∧N=pos+(Utf8.decode s pos).2+((s.data.toList.drop (pos+(Utf8.decode s pos).2)).takeWhile q).length):=by
    have adv:∀n,(∀k,k<n→∃hk:pos+k<s.size,q (s[pos+k]'hk)=true)→pos+n≤s.size∧N=pos+n+((s.data.toList.drop (pos+n)).takeWhile q).length:=fun n h=>by
     have h1:pos+n≤s.size:=by
      cases n with
      | zero=>omega
      | succ n=>obtain⟨hk,-⟩:=h n (by omega);omega
     refine⟨h1,?_⟩;rw[HB.out,xW q n _ (fun k hk=>?_),List.drop_drop]
     ·omega
     ·obtain⟨hk2,h3⟩:=h k hk;exact⟨_,by rw[List.getElem?_drop];exact fc s _ hk2,h3⟩
    by_cases ha:(s[pos]'hlt).toNat<128
    ·rw[decode_ascii s pos hlt ha];refine⟨HQ.out.low _ ha,fun h=>⟨by omega,adv 1 fun k hk=>?_⟩⟩;have:k=0:=by omega
     subst this;exact⟨hlt,h⟩
    ·obtain⟨v,h1,h2⟩:=HQ.out.high;have hd:=gu s pos hlt (by omega);obtain⟨g1,g2⟩:=pz s pos hlt (by omega);rw[h1 _ (by omega),h2 _ (by omega)];refine⟨rfl,fun h=>⟨g1,adv _ fun k hk=>?_⟩⟩;obtain⟨g3,g4⟩:=g2 k hk;exact⟨g3,by rw[h2 _ g4];exact h⟩
   have HPQ:=Lib.hid hpq;clear hpq;generalize hrd:(Utf8.decode s pos).1=rn at *;generalize hwd:(Utf8.decode s pos).2=wd at *;cases hqv:q (s[pos]'hlt)with
   | true=>
    go_wp2_with fail;refine(HH.out _ _).mono ?_;rintro e2 w2 ⟨rfl,rfl⟩;have hpv:=HPQ.out.1;rw[hqv]at hpv;rw[hpv];obtain⟨g1,g2,g3⟩:=HPQ.out.2 hqv;go_wp2_with fail;go_roundw;case rel=>exact⟨pos+wd,g2,rfl,g3⟩
    case measure=>simp[World.iter_heap];omega
   | false=>
    go_wp2_with fail;refine(HH.out _ _).mono ?_;rintro e2 w2 ⟨rfl,rfl⟩;have hpv:=HPQ.out.1;rw[hqv]at hpv;rw[hpv];go_wp2_with fail;go_ret;refine⟨bP ?_,(Ext.refl w).iter _ _⟩
    have hnil:(s.data.toList.drop pos).takeWhile q=[]:=by
     rw[List.drop_eq_getElem_cons (by have:=Lib.size_eq s;omega)]
     have:s.data.toList[pos]'(by have:=Lib.size_eq s;omega)=s[pos]'hlt:=by
      have h9:=List.getElem?_eq_getElem (l:=s.data.toList) (i:=pos) (by have:=Lib.size_eq s;omega);rw[hl]at h9;exact(Option.some.inj h9).symm
     rw[List.takeWhile_cons_of_neg (by rw[this,hqv];decide)]
    have h8:=HB.out;rw[hnil]at h8;simp only[List.length_nil,Nat.add_zero]at h8;rw[h8]
  ·have:pos=s.size:=by omega
   subst this;have hnx:=fun ty=>run_next_end (P:=Tryz.prog) w s s.size ty (by omega);go_wp2_with fail;go_ret;refine⟨bP ?_,(Ext.refl w).iter _ _⟩;have h8:=HB.out;rw[List.drop_of_length_le (by have:=Lib.size_eq s;omega)]at h8;simp only[List.takeWhile_nil,List.length_nil,Nat.add_zero]at h8;rw[h8]
end Go.Proofs.YthekkgfmagliiaaGreatDoor
