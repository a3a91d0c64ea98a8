import Derived.Test.YthoebpnbhgmoiaaGreatDoorBrief
import Derived.Test.YthoebpnbhgmoiaaGreatDoorK
set_option linter.unusedVariables false
set_option linter.unusedSimpArgs false
set_option linter.unusedSectionVars false
namespace Go.Proofs.YthoebpnbhgmoiaaGreatDoor
open Go.RowKit
theorem Ex.ind3{P:Ex→Prop}(h:∀e:Ex,(∀a,a∈e.args→P a)→P e):∀e,P e:=Ex.ind fun o n s l ih=>h (.mk o n s l) ih
theorem args_size{e a:Ex}(h:a∈e.args):esize a≤esize e:=by
 cases e with
 | mk o n s l=>
 have H:∀(l:List Ex),a∈l→esize a≤esizes l:=by
  intro l
  induction l with
  | nil=>intro h;cases h
  | cons x r ih=>
   intro h;simp only[esizes];rcases List.mem_cons.1 h with rfl|h
   ·omega
   ·have:=ih h;omega
 have:=H l h;simp only[esize];omega
end Go.Proofs.YthoebpnbhgmoiaaGreatDoor
