/-
  Plain law: to replace a variable by an expression is to give it the value of this expression. No program is in sight here. When constraints hold, and when those do that they are unrolled to. No program is in sight here.
-/
import Derived.Test.YthoebpnbhgmoiaaDoorBrief
import Derived.Test.YthoebpnbhgmoiaaDoorIt5
set_option linter.unusedVariables false
set_option linter.unusedSimpArgs false
set_option linter.unusedSectionVars false
namespace Go.Proofs.YthoebpnbhgmoiaaDoor
open Go.RowKit
mutual
def allN (ops : List Int) (P : ByteArray → Prop) : Ex → Prop
  | .mk o _ s l => (o ∈ ops → P s) ∧ allNs ops P l
def allNs (ops : List Int) (P : ByteArray → Prop) : List Ex → Prop
  | [] => True
  | a :: r => allN ops P a ∧ allNs ops P r
end
section
variable {nm : ByteArray} {x : Int} {env : List Sig}
end
end Go.Proofs.YthoebpnbhgmoiaaDoor
namespace Go.Proofs.YthoebpnbhgmoiaaDoor
open Go.RowKit
section
variable (spl : ByteArray → Option (ByteArray × Int)) (fs : List (ByteArray × Int))
theorem vldX_mem {l : List It} {d : Nat} (h : rvl l d = 0) {x : It} (hx : x ∈ l) : shapeE x d = 0 ∧ rvl x.items (d + 1) = 0 ∧ rvl x.els (d + 1) = 0 := by
  induction l with
  | nil => cases hx
  | cons a r ih =>
    rw [rvl, rv1_eq] at h
    by_cases h1 : shapeE a d = 0
    · rw [if_pos h1] at h
      by_cases h2 : rvl a.items (d + 1) = 0
      · rw [if_pos h2] at h
        by_cases h3 : rvl a.els (d + 1) = 0
        · rw [if_pos h3] at h
          rcases List.mem_cons.1 hx with rfl | hx
          · exact ⟨h1, h2, h3⟩
          · exact ih h hx
        · rw [if_neg h3] at h; exact absurd h h3
      · rw [if_neg h2, if_neg h2] at h; exact absurd h h2
    · rw [if_neg h1, if_neg h1] at h; exact absurd h h1
theorem shape_expr {x : It} {d : Nat} (h : shapeE x d = 0) (hk : x.kind = 1 ∨ x.kind = 2 ∨ x.kind = 4) : validE x.ex = 0 := by
  unfold shapeE at h
  split at h
  · cases h
  · rw [if_neg (by omega), if_neg (by omega), if_neg (by omega)] at h; exact h
end
end Go.Proofs.YthoebpnbhgmoiaaDoor
