/-
  Plain laws of tokens: numbers. No program is in sight here.
-/
import Derived.Test.YtdglhbelfjcffaaDoorBs
import Derived.Lib.ParseIntB
import Derived.Lib.ParseIntBCases
set_option linter.unusedVariables false
set_option linter.unusedSimpArgs false
namespace Go.Proofs.YtdglhbelfjcffaaDoor
open Go.RowKit

def dig (x : UInt8) : Bool := digB x.toNat
theorem dig_inn {x : UInt8} (h : dig x = true) : inn x = true := by unfold dig at h; simp [inn, folB, h]
/-- The digits at the head are all that follows, or something else follows them. -/
theorem dig_span : ∀ l : Bs, ((l.takeWhile inn).all dig = true ∧ l.takeWhile dig = l.takeWhile inn ∧ (l.drop (l.takeWhile dig).length).takeWhile inn = []) ∨ ((l.takeWhile inn).all dig = false ∧ (l.drop (l.takeWhile dig).length).takeWhile inn ≠ [])
  | [] => .inl ⟨rfl, rfl, rfl⟩
  | a :: l => by
    by_cases h : dig a = true
    · rw [List.takeWhile_cons_of_pos h, List.takeWhile_cons_of_pos (dig_inn h)]
      simp only [List.length_cons, List.drop_succ_cons, List.all_cons, h, Bool.true_and]
      rcases dig_span l with ⟨h1, h2, h3⟩ | ⟨h1, h2⟩
      · exact .inl ⟨h1, by rw [h2], h3⟩
      · exact .inr ⟨h1, h2⟩
    · rw [List.takeWhile_cons_of_neg h]
      simp only [List.length_nil, List.drop_zero]
      by_cases hi : inn a = true
      · rw [List.takeWhile_cons_of_pos hi]
        refine .inr ⟨by simp [h], by simp⟩
      · rw [List.takeWhile_cons_of_neg hi]
        exact .inl ⟨rfl, rfl, rfl⟩
def decF (acc : Nat) (l : Bs) : Nat := l.foldl (fun n c => 10 * n + (c.toNat - 48)) acc
theorem decF_ge : ∀ (l : Bs) (acc : Nat), acc ≤ decF acc l
  | [], acc => Nat.le_refl _
  | c :: r, acc => by have := decF_ge r (10 * acc + (c.toNat - 48)); simp only [decF, List.foldl_cons] at this ⊢; omega
theorem parse_dig : ∀ (l : Bs) (acc : Nat), (∀ x, x ∈ l → dig x = true) → acc ≤ 18446744073709551615 → Lib.parseUintM 18446744073709551615 acc l = if decF acc l ≤ 18446744073709551615 then .ok (decF acc l) else .range
  | [], acc, _, h => (if_pos h).symm
  | c :: r, acc, hd, h => by
    have hc := hd c (by simp)
    simp only [dig, digB, Bool.and_eq_true, decide_eq_true_eq] at hc
    have hge := decF_ge r (10 * acc + (c.toNat - 48))
    have hst : decF acc (c :: r) = decF (10 * acc + (c.toNat - 48)) r := rfl
    rw [hst, Lib.parseUintM, if_pos (by omega)]
    split
    · rw [if_neg (by omega)]
    · split
      · rw [if_neg (by omega)]
      · rw [show acc * 10 + (c.toNat - 48) = 10 * acc + (c.toNat - 48) by omega]
        exact parse_dig r _ (fun x hx => hd x (by simp [hx])) (by omega)
/-- What ParseInt says of digits. -/
theorem parse_digits {l : Bs} (h0 : l ≠ []) (hd : ∀ x, x ∈ l → dig x = true) : Lib.parseIntB 64 l = if decN l ≤ 9223372036854775807 then .ok (decN l) else .range := by
  match l, h0 with
  | c :: r, _ =>
    have hc := hd c (by simp)
    simp only [dig, digB, Bool.and_eq_true, decide_eq_true_eq] at hc
    rw [Lib.parseIntB_plain 64 c r (by omega) (by omega)]
    have hp := parse_dig (c :: r) 0 hd (by omega)
    have hu : Lib.parseUintB 64 (c :: r) = if decN (c :: r) ≤ 18446744073709551615 then .ok (decN (c :: r)) else .range := by
      unfold Lib.parseUintB
      rw [if_neg (by simp)]
      exact hp
    rw [hu]
    generalize decN (c :: r) = v
    by_cases h1 : v ≤ 18446744073709551615
    · rw [if_pos h1]
      simp only [Lib.signlessC]
      by_cases h2 : v ≤ 9223372036854775807
      · rw [if_pos h2, if_neg (by omega)]
      · rw [if_neg h2, if_pos (by omega)]
    · rw [if_neg h1, if_neg (by omega)]; rfl
end Go.Proofs.YtdglhbelfjcffaaDoor
