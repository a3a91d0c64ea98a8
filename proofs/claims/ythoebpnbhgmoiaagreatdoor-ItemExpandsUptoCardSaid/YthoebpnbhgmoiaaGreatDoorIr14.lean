import Derived.Test.YthoebpnbhgmoiaaGreatDoorIr15
import Derived.Test.YthoebpnbhgmoiaaGreatDoorRSubst
import Derived.Test.YthoebpnbhgmoiaaGreatDoorIe2
import Derived.Test.YthoebpnbhgmoiaaGreatDoorIs1
import Derived.Test.YthoebpnbhgmoiaaGreatDoorClo
import Derived.Test.YthoebpnbhgmoiaaGreatDoorIe3
import Derived.Test.YthoebpnbhgmoiaaGreatDoorWord2
set_option linter.unusedVariables false
set_option linter.unusedSimpArgs false
set_option linter.unusedSectionVars false
namespace Go.Proofs.YthoebpnbhgmoiaaGreatDoor
open Go.RowKit
mutual
def noD:List It→Prop
 | []=>True
 | x::r=>noD1 x∧noD r
def noD1:It→Prop
 | .mk k _ _ _ _ l m _ _=>(k≠3∧k≠6)∧noD l∧noD m
end
theorem noD1_eq(x:It):noD1 x↔(x.kind≠3∧x.kind≠6)∧noD x.items∧noD x.els:=by cases x;rw[noD1];rfl
theorem noD_mem{l:List It}(h:noD l){x:It}(hx:x∈l):noD1 x:=by
 induction l with
 | nil=>cases hx
 | cons a r ih=>
  rw[noD]at h;rcases List.mem_cons.1 hx with rfl|hx
  ·exact h.1
  ·exact ih h.2 hx
theorem noD_sub(nm:ByteArray)(b:Ex):∀l:List It,noD l→noD (subIs nm b l):=by
 refine its_ind (fun h=>by rw[subIs];exact h) fun x r h1 h2 h3 h=>?_;rw[noD,noD1_eq]at h;rw[subIs,noD,noD1_eq,subI_eq];exact⟨⟨h.1.1,h1 h.1.2.1,h2 h.1.2.2⟩,h3 h.2⟩
theorem rvl_tail{x:It}{r:List It}{d:Nat}(h:rvl (x::r) d=0):rvl r d=0:=by
 rw[rvl]at h;split at h
 ·exact h
 ·rename_i hn;exact absurd h hn
theorem noD_valid:∀(l:List It) (d:Nat),0<d→rvl l d=0→noD l:=by
 refine its_ind (fun d _ h=>by rw[noD];trivial) fun x r h1 h2 h3 d hd h=>?_;obtain⟨g1,g2,g3⟩:=vldX_mem h (List.mem_cons_self ..);rw[noD,noD1_eq];refine⟨⟨?_,h1 _ (by omega) g2,h2 _ (by omega) g3⟩,h3 d hd (rvl_tail h)⟩;unfold shapeE at g1;split at g1
 ·cases g1
 ·rename_i hn;have:¬(0<d∧(x.kind=3∨x.kind=6)):=fun hh=>hn (.inr (.inr (.inr hh)));exact⟨fun hh=>this ⟨hd,.inl hh⟩,fun hh=>this ⟨hd,.inr hh⟩⟩
theorem exps_noD(fs:List (ByteArray×Int)):∀(k:Nat) (l:List It) (d:Nat) (q:Option Ex),frm l d→noD l→∀y,y∈exps fs k l q→∃e,y=itE y.kind e∧(y.kind=1∨y.kind=2):=by
 intro k
 induction k with
 | zero=>intro l d q _ _ y hy;cases hy
 | succ k ih=>
  intro l d q hf hn y hy;rw[exps_eq]at hy;obtain⟨x,hx,hy⟩:=List.mem_flatMap.1 hy;obtain⟨hk6,-,-,hf1,hf2⟩:=(frm1_eq x d).1 (frm_mem hf hx);obtain⟨⟨n3,n6⟩,n1,n2⟩:=(noD1_eq x).1 (noD_mem hn hx);unfold exp1 at hy;split at hy
  ·rename_i hk;rw[List.mem_singleton.1 hy];exact⟨_,rfl,hk⟩
  ·split at hy
   ·rcases List.mem_append.1 hy with hy|hy
    ·exact ih _ _ _ hf1 n1 y hy
    ·exact ih _ _ _ hf2 n2 y hy
   ·split at hy
    ·obtain⟨j,-,hy⟩:=List.mem_flatMap.1 hy;exact ih _ _ _ (frm_sub _ _ _ _ hf1) (noD_sub _ _ _ n1) y hy
    ·omega
theorem exps_top(fs:List (ByteArray×Int))(k:Nat)(l:List It)(q:Option Ex)(hv:rvl l 0=0):∀y,y∈exps fs k l q→(∃e,y=itE y.kind e∧(y.kind=1∨y.kind=2))∨y∈l∧(y.kind=3∨y.kind=6):=by
 intro y hy;cases k with
 | zero=>cases hy
 | succ k=>
 have hf:=frm_valid l 0 hv;rw[exps_eq]at hy;obtain⟨x,hx,hy⟩:=List.mem_flatMap.1 hy;obtain⟨hk6,hp,-,hf1,hf2⟩:=(frm1_eq x 0).1 (frm_mem hf hx);obtain⟨s1,s2,s3⟩:=vldX_mem hv hx;have n1:=noD_valid _ _ (by omega) s2;have n2:=noD_valid _ _ (by omega) s3;unfold exp1 at hy;split at hy
 ·rename_i hk;rw[List.mem_singleton.1 hy];exact .inl ⟨_,rfl,hk⟩
 ·split at hy
  ·rcases List.mem_append.1 hy with hy|hy
   ·exact .inl (exps_noD fs k _ _ _ hf1 n1 y hy)
   ·exact .inl (exps_noD fs k _ _ _ hf2 n2 y hy)
  ·split at hy
   ·obtain⟨j,-,hy⟩:=List.mem_flatMap.1 hy;exact .inl (exps_noD fs k _ _ _ (frm_sub _ _ _ _ hf1) (noD_sub _ _ _ n1) y hy)
   ·split at hy
    ·rename_i h3;have e:=List.mem_singleton.1 hy;rw[plain_d hp h3]at e;subst e;exact .inr ⟨hx,.inl h3⟩
    ·rename_i h1 h4 h5 h3;have h6:x.kind=6:=by omega
     have e:=List.mem_singleton.1 hy;rw[plain_s hp h6]at e;subst e;exact .inr ⟨hx,.inr h6⟩
section
variable (spl : ByteArray → Option (ByteArray × Int)) (fs : List (ByteArray × Int))
structure Unr(l X:List It):Prop where
 val:rvl l 0=0
 chk:wkE (oneE spl fs) l 0 []=0
 eq:X=exps fs (iszs l) l none
 len:X.length≤400
 vld:X.all vldB=true
theorem unr_of{l:List It}(h:(expandI spl fs l).2=0):Unr spl fs l (expandI spl fs l).1:=by
 unfold expandI at h ⊢;by_cases h0:checkI spl fs l≠0
 ·rw[if_pos h0]at h;exact absurd h h0
 rw[if_neg h0]at h ⊢;by_cases h4:400<(exps fs (iszs l) l none).length
 ·rw[if_pos h4]at h;cases h
 rw[if_neg h4]at h ⊢;by_cases hv:(exps fs (iszs l) l none).all vldB=true
 ·rw[if_pos hv];have h0:checkI spl fs l=0:=by simpa using h0
  unfold checkI at h0;by_cases h1:validI l≠0
  ·rw[if_pos h1]at h0;exact absurd h0 h1
  ·rw[if_neg h1]at h0;have h1:validI l=0:=by simpa using h1
   unfold validI at h1;split at h1
   ·cases h1
   ·exact⟨h1,h0,rfl,by show(exps fs (iszs l) l none).length≤400;omega,hv⟩
 ·rw[if_neg hv]at h;cases h
variable {spl fs}
theorem Unr.flat{l X:List It}(h:Unr spl fs l X):∀y,y∈X→Flat spl fs y:=by
 rw[h.eq];exact exps_flat spl fs _ l 0 none (frm_valid l 0 h.val) h.chk (fun c hc=>by cases hc)
theorem Unr.top{l X:List It}(h:Unr spl fs l X):∀y,y∈X→(∃e,y=itE y.kind e∧(y.kind=1∨y.kind=2))∨y∈l∧(y.kind=3∨y.kind=6):=by
 rw[h.eq];exact exps_top fs _ l none h.val
theorem Unr.kind{l X:List It}(h:Unr spl fs l X):∀y,y∈X→y.kind=1∨y.kind=2∨y.kind=3∨y.kind=6:=fun y hy=>by
 rcases h.top y hy with⟨-,-,hk⟩|⟨-,hk⟩<;>omega
theorem Unr.valid{l X:List It}(h:Unr spl fs l X){y:It}(hy:y∈X)(hk:y.kind=1∨y.kind=2):validE y.ex=0:=by
 have:=List.all_eq_true.1 h.vld y hy;unfold vldB at this;rcases hk with k|k<;>simpa[k]using this
theorem Unr.hold{l X:List It}(h:Unr spl fs l X)(hf:∀s,fszN fs s≤8){env:List Sig}(he:EnvOk spl fs [] env):hard (vE env) X=hlds fs vE (iszs l) l env:=by
 have h1:hard (vE env) X=hard (valE env) X:=by
  unfold hard;refine all_congr fun y hy=>?_;by_cases k1:y.kind=1
  ·have ho:=(h.flat y hy).one;unfold oneE at ho;rw[if_neg (by omega),if_neg (by omega),if_neg (by omega)]at ho;rw[vE_val spl fs he (h.valid hy (.inl k1)) ho]
  ·simp[k1]
 rw[h1,h.eq,hard_exps fs hf _ l none env (ixOk_chk spl fs l 0 0 [] h.val h.chk),hlds_val spl fs _ l 0 [] env h.val h.chk he];rfl
end
end Go.Proofs.YthoebpnbhgmoiaaGreatDoor
namespace Go.Proofs.YthoebpnbhgmoiaaGreatDoor
open Go.RowKit
end Go.Proofs.YthoebpnbhgmoiaaGreatDoor
