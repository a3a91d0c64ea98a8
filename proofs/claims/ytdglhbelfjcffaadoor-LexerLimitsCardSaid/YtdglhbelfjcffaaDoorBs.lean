/-
  Strings as lists of bytes. No program is in sight here.
-/
import Derived.Test.YtdglhbelfjcffaaDoorLex5
import Derived.Test.YtdglhbelfjcffaaDoorA20
set_option linter.unusedVariables false
set_option linter.unusedSimpArgs false
namespace Go.Proofs.YtdglhbelfjcffaaDoor
open Go.RowKit

/-- The string of these bytes. -/
def bs (l : Bs) : ByteArray := ⟨l.toArray⟩
theorem bs_list (l : Bs) : (bs l).data.toList = l := by simp [bs]
theorem bs_self (s : ByteArray) : bs s.data.toList = s := Lib.mk_data s
theorem bs_size (l : Bs) : (bs l).size = l.length := by rw [Lib.size_eq, bs_list]
theorem bs_take (l : Bs) (n : Nat) : (bs l).extract 0 n = bs (l.take n) := by rw [Lib.extract_eq, bs_list]; rfl
theorem bs_drop (l : Bs) (n : Nat) : (bs l).extract n (bs l).size = bs (l.drop n) := by
  rw [Lib.extract_eq, bs_list, bs_size]
  unfold bs
  rw [List.take_of_length_le (by simp)]
theorem bs_inj {a b : Bs} : bs a = bs b ↔ a = b := ⟨fun h => by rw [← bs_list a, ← bs_list b, h], fun h => by rw [h]⟩
theorem bs_nil : bs [] = ⟨#[]⟩ := rfl
theorem bs_append (a b : Bs) : bs a ++ bs b = bs (a ++ b) := by
  apply ByteArray.ext; apply Array.ext'; simp [bs]
theorem bs_dec (a b : Bs) : decide (bs a = bs b) = decide (a = b) := by rw [decide_eq_decide]; exact bs_inj
/-- The head of a string. -/
theorem bs_at (l : Bs) (i : Nat) : (bs l).data.toList[i]? = l[i]? := by rw [bs_list]
end Go.Proofs.YtdglhbelfjcffaaDoor
