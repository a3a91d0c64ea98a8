import Derived.Test.YtcbahpllcfbkmaaGreatDoorCt2
import Derived.Test.YtcbahpllcfbkmaaGreatDoorClo
set_option linter.unusedVariables false
set_option linter.unusedSimpArgs false
set_option linter.unusedSectionVars false
namespace Go.Proofs.YtcbahpllcfbkmaaGreatDoor
open Go.RowKit
theorem num_len{n:Int}(h0:0≤n)(h1:n≤65535):(numT n).length≤5:=by
 have h:=dec_five n.toNat (by omega);unfold numT Lib.itoa;rw[if_neg (by omega)];exact h
theorem var_len{s:ByteArray}(h:isVarB s=true):(strT s).length≤23:=by
 unfold isVarB at h;rw[Bool.or_eq_true]at h;rcases h with h|h;case inr=>have:=name_len h;unfold strT;omega
 ·obtain⟨g1,g2,g3,g4⟩:=elem_name h;have hl:=name_len g1;have h5:=dec_five (elemDig s).toNat (by omega);have:=congrArg (fun s:ByteArray=>s.data.toList.length) g4;simp only[elemNm,decS]at this;have hsz:(cutA s 91).size=(cutA s 91).data.toList.length:=rfl;unfold strT;rw[←this];simp[mark1];omega
theorem wt_len{w:Wt}(h:wtB w=true):(wtT w).length≤23:=by
 unfold wtB at h;simp only[Bool.and_eq_true,decide_eq_true_eq]at h;have h1:=num_len (n:=w.lo) (by omega) (by omega);have h2:=num_len (n:=w.hi) (by omega) (by omega);have h3:=num_len (n:=w.w) (by omega) (by omega);unfold wtT;split<;>split<;>simp only[List.length_append,List.length_cons,List.length_nil]<;>omega
theorem sep_len(sep:Bs)(m:Nat):∀l:List Bs,(∀a,a∈l→a.length≤m)→(sepT sep l).length≤l.length*(m+sep.length)
 | [],_=>by simp[sepT]
 | [a],h=>by
  have:=h a (by simp);simp only[sepT,List.length_cons,List.length_nil];omega
 | a::b::r,h=>by
  have h1:=h a (by simp);have h2:=sep_len sep m (b::r) fun x hx=>h x (by simp only[List.mem_cons]at hx ⊢;exact .inr hx);rw[sepT,List.length_append,List.length_append];rw[List.length_cons,Nat.add_mul];omega
theorem lnT_len(k:Nat)(x:Ln):(lnT k x).length=4*(k+x.1)+x.2.length+1:=by
 unfold lnT blk;simp only[List.length_append,List.length_replicate,List.length_cons,List.length_nil];omega
theorem lnsT_cons(k:Nat)(x:Ln)(r:List Ln):lnsT k (x::r)=lnT k x++lnsT k r:=rfl
theorem lnsT_nil(k:Nat):lnsT k []=[]:=rfl
theorem strs_len{l:List ByteArray}(h:∀s,s∈l→isVarB s=true):(sepT [44,32] (l.map strT)).length≤l.length*25:=by
 have:=sep_len [44,32] 23 (l.map strT) fun a ha=>by
  obtain⟨s,hs,rfl⟩:=List.mem_map.1 ha;exact var_len (h s hs)
 simpa using this
theorem wts_len{l:List Wt}(h:l.all wtB=true):(wtsT l).length≤l.length*25:=by
 have:=sep_len [44,32] 23 (l.map wtT) fun a ha=>by
  obtain⟨w,hw,rfl⟩:=List.mem_map.1 ha;exact wt_len (List.all_eq_true.1 h w hw)
 simpa[wtsT]using this
theorem mul_own{a b c m:Nat}(h:172≤m)(h2:c+64*a+25*b+172≤64*a+25*b+m+172):64*a+25*b+c≤(1+a+b)*m:=by
 have h3:a*172≤a*m:=Nat.mul_le_mul_left _ h;have h4:b*172≤b*m:=Nat.mul_le_mul_left _ h;rw[Nat.add_mul,Nat.add_mul];omega
theorem lns_len(e:Nat):∀(l:List It) (d:Nat),rvl l d=0→(lnsT (e+d) (lns l)).length≤ibigs l*(12*e+172):=by
 refine its_ind (fun d _=>by rw[lns,lnsT_nil];simp) fun x r h1 h2 h3 d hv=>?_;obtain⟨s1,s2,s3⟩:=vldX_mem hv (List.mem_cons_self ..)
 have hr:=h3 d (by
  rw[rvl]at hv;split at hv
  ·exact hv
  ·rename_i hn;exact absurd hv hn)
 obtain⟨hk,-,hd⟩:=shape_zero s1;rw[lns,lnsT_app,List.length_append,ibigs,Nat.add_mul];refine Nat.add_le_add ?_ hr;have i1:=h1 (d+1) s2;have i2:=h2 (d+1) s3;rw[←Nat.add_assoc,←lnsT_up]at i1 i2;rw[lns1_eq,ibig_eq];have hm:172≤12*e+172:=by omega
 have add:∀a b c y z:Nat,64*a+25*b+c≤(1+a+b)*(12*e+172)→y≤ibigs x.items*(12*e+172)→z≤ibigs x.els*(12*e+172)→a≤esize x.ex→b≤x.ws.length+x.bef.length+x.aft.length→
  64*a+25*b+c+y+z≤(1+esize x.ex+x.ws.length+x.bef.length+x.aft.length+ibigs x.items+ibigs x.els)*(12*e+172):=by
  intro a b c y z g1 g2 g3 g4 g5;have g6:(1+a+b)*(12*e+172)≤(1+esize x.ex+x.ws.length+x.bef.length+x.aft.length)*(12*e+172):=Nat.mul_le_mul_right _ (by omega);rw[Nat.add_mul _ (ibigs x.els),Nat.add_mul _ (ibigs x.items)];omega
 split
 ·rename_i k;have he:=text_len _ (ct_expr s1 (.inl k));rw[lnsT_cons,lnsT_nil,List.length_append,lnT_len];simp only[List.length_append,List.length_cons,List.length_nil];have:=add (esize x.ex) 0 (4*(e+d)+2) 0 0 (mul_own hm (by omega)) (Nat.zero_le _) (Nat.zero_le _) (Nat.le_refl _) (Nat.zero_le _);omega
 ·split
  ·rename_i k;have he:=text_len _ (ct_expr s1 (.inr (.inl k)));rw[lnsT_cons,lnsT_nil,List.length_append,lnT_len];simp only[List.length_append,List.length_cons,List.length_nil];have:=add (esize x.ex) 0 (4*(e+d)+7) 0 0 (mul_own hm (by omega)) (Nat.zero_le _) (Nat.zero_le _) (Nat.le_refl _) (Nat.zero_le _);omega
  ·split
   ·rename_i k;obtain⟨-,hw,hn⟩:=ct_dist s1 k;have e1:=var_len hn;have e2:=wts_len hw;rw[lnsT_cons,lnsT_nil,List.length_append,lnT_len];simp only[List.length_append,List.length_cons,List.length_nil];have:=add 0 x.ws.length (4*(e+d)+40) 0 0 (mul_own hm (by omega)) (Nat.zero_le _) (Nat.zero_le _) (Nat.zero_le _) (by omega);omega
   ·split
    ·rename_i k;have he:=text_len _ (ct_expr s1 (.inr (.inr k)));simp only[lnsT_cons,lnsT_app,lnsT_nil,List.length_append,lnT_len,List.length_cons,List.length_nil];have:=add (esize x.ex) 0 (12*(e+d)+40) _ _ (mul_own hm (by omega)) i1 i2 (Nat.le_refl _) (Nat.zero_le _);split
     ·simp only[lnsT_nil,List.length_nil];omega
     ·simp only[lnsT_cons,List.length_append,lnT_len,List.length_cons,List.length_nil];omega
    ·split
     ·rename_i k;obtain⟨n1,n2⟩:=ct_each s1 k;have e1:=name_len n1;have e2:=name_len n2;simp only[lnsT_cons,lnsT_app,lnsT_nil,List.length_append,lnT_len,List.length_cons,List.length_nil];have:=add 0 0 (8*(e+d)+60) _ 0 (mul_own hm (by omega)) i1 (Nat.zero_le _) (Nat.zero_le _) (Nat.zero_le _);simp only[strT];omega
     ·have k:x.kind=6:=by omega
      obtain⟨-,-,n1,n2⟩:=ct_solve s1 k;have e1:=strs_len n1;have e2:=strs_len n2;rw[lnsT_cons,lnsT_nil,List.length_append,lnT_len];simp only[List.length_append,List.length_cons,List.length_nil];have:=add 0 (x.bef.length+x.aft.length) (4*(e+d)+40) 0 0 (mul_own hm (by omega)) (Nat.zero_le _) (Nat.zero_le _) (Nat.zero_le _) (by omega);omega
end Go.Proofs.YtcbahpllcfbkmaaGreatDoor
