import Derived.Test.YthekkgfmagliiaaGreatDoorTRef1
import Derived.Test.YthekkgfmagliiaaGreatDoorTSame
set_option linter.unusedVariables false
set_option linter.unusedSimpArgs false
set_option linter.unusedSectionVars false
namespace Go.Proofs.YthekkgfmagliiaaGreatDoor
open Go.RowKit
theorem pC:∀(l l':List Ex),(∀a,a∈l→∀b,fw a b=true↔a=b)→(dU l l'=true↔l=l')
 | [],[],_=>by simp[dU]
 | a::r,b::r',h=>by
  simp only[dU,Bool.and_eq_true,h a (by simp) b,pC r r' (fun x hx=>h x (by simp[hx])),List.cons.injEq]
 | [],_::_,_=>by simp[dU]
 | _::_,[],_=>by simp[dU]
theorem u5(a:Ex):∀b,fw a b=true↔a=b:=by
 induction a using Ex.ind2 with
 | h a ih=>
 intro b;rw[mj];simp only[Bool.and_eq_true,decide_eq_true_eq,pC _ _ ih];cases a;cases b;simp only[Ex.op,Ex.num,Ex.name,Ex.args,Ex.mk.injEq]
theorem mr:∀(l l':List Ts),(∀a,a∈l→∀b,fe a b=true↔a=b)→(dk l l'=true↔l=l')
 | [],[],_=>by simp[dk]
 | a::r,b::r',h=>by
  simp only[dk,Bool.and_eq_true,h a (by simp) b,mr r r' (fun x hx=>h x (by simp[hx])),List.cons.injEq]
 | [],_::_,_=>by simp[dk]
 | _::_,[],_=>by simp[dk]
theorem jB(a:Ts):∀b,fe a b=true↔a=b:=by
 induction a using Ts.ind with
 | h a ih=>
 intro b;rw[mu];simp only[Bool.and_eq_true,decide_eq_true_eq,mr _ _ ih,u5];cases a;cases b;simp only[Ts.op,Ts.lo,Ts.hi,Ts.ex,Ts.name,Ts.args,Ts.mk.injEq];constructor
 ·rintro⟨h1,h2,h3,h4,h5,h6⟩;exact⟨h1,h2,h3,h5,h4,h6⟩
 ·rintro⟨h1,h2,h3,h4,h5,h6⟩;exact⟨h1,h2,h3,h5,h4,h6⟩
end Go.Proofs.YthekkgfmagliiaaGreatDoor
