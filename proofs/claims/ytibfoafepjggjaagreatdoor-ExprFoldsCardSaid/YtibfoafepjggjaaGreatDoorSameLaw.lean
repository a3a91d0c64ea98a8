/-
  The law ExprSame: its walk.
-/
import Derived.Test.YtibfoafepjggjaaGreatDoorSame8
import Derived.Test.YtibfoafepjggjaaGreatDoorIn8
set_option linter.unusedVariables false
set_option linter.unusedSimpArgs false
namespace Go.Proofs.YtibfoafepjggjaaGreatDoor
open Go.RowKit

theorem sameL_refl : ∀ (l : List Ex), (∀ a, a ∈ l → sameE a a = true) → sameL l l = true
  | [], _ => rfl
  | a :: r, h => by simp only [sameL, h a (by simp), sameL_refl r (fun b hb => h b (by simp [hb])), Bool.and_self]
theorem sameE_refl (a : Ex) : sameE a a = true := by
  induction a using Ex.ind2 with
  | h a ih => rw [sameE_eq, sameL_refl _ ih]; simp
theorem sameL_symm : ∀ (l l' : List Ex), (∀ a, a ∈ l → ∀ b, sameE a b = sameE b a) → sameL l l' = sameL l' l
  | [], [], _ => rfl
  | a :: r, b :: r', h => by simp only [sameL, h a (by simp) b, sameL_symm r r' (fun b hb => h b (by simp [hb]))]
  | [], _ :: _, _ => rfl
  | _ :: _, [], _ => rfl
theorem sameE_symm (a : Ex) : ∀ b, sameE a b = sameE b a := by
  induction a using Ex.ind2 with
  | h a ih =>
  intro b
  rw [sameE_eq, sameE_eq b a, sameL_symm _ _ ih, decide_eq_decide.2 (⟨Eq.symm, Eq.symm⟩ : a.op = b.op ↔ b.op = a.op), decide_eq_decide.2 (⟨Eq.symm, Eq.symm⟩ : a.num = b.num ↔ b.num = a.num), decide_eq_decide.2 (⟨Eq.symm, Eq.symm⟩ : a.name = b.name ↔ b.name = a.name)]
end Go.Proofs.YtibfoafepjggjaaGreatDoor
