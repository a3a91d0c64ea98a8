/-
  Walks over memory: IndexRune and ContainsRune at a byte that is no ASCII.
-/
import Derived.Test.YtdglhbelfjcffaaDoorShelf
import Derived.Test.YtdglhbelfjcffaaDoorData
import Derived.Scope
set_option linter.unusedVariables false
set_option linter.unusedSimpArgs false
namespace Go.Proofs.YtdglhbelfjcffaaDoor
open Go.RowKit

theorem encode_two (c : Nat) (h1 : 128 ≤ c) (h2 : c < 256) : ∃ x y : UInt8, Utf8.encode c = ⟨#[x, y]⟩ ∧ 128 ≤ y.toNat := by
  refine ⟨UInt8.ofNat (192 + c / 64), UInt8.ofNat (128 + c % 64), ?_, ?_⟩
  · have hv : Utf8.valid (c : Int) = true := by simp only [Utf8.valid]; simp; omega
    unfold Utf8.encode
    simp only [hv, if_true, Int.toNat_natCast, show ¬ c < 128 by omega, if_false, show c < 2048 by omega]
  · rw [UInt8.toNat_ofNat']; omega
set_option maxHeartbeats 2000000 in
set_option maxRecDepth 1000000 in
theorem indexrune_high (c : Nat) (h1 : 128 ≤ c) (h2 : c < 256) (w : World) : Calls Tryd.prog 60 #[.string ⟨#[32, 9, 10]⟩, .int .i32 c] w fun e w' => e = .returned (.int .i64 (-1)) ∧ Ext w w' := by
  obtain ⟨x, y, he, hy⟩ := encode_two c h1 h2
  have n1 : (decide ((c : Int) < 128)) = false := by simp; omega
  have n2 : ((c : Int) == 65533) = false := by simp; omega
  have n3 : Lib.validRune (c : Int) = true := by simp [Lib.validRune]; omega
  have n4 : ((9 : Int) == ((y.toNat : Nat) : Int)) = false := by simp; omega
  have n5 : Lib.indexByte [10] ((y.toNat : Int).toNat.toUInt8) = -1 := by
    have : (10 : UInt8) ≠ y := by intro e; rw [← e] at hy; revert hy; decide
    have e : (y.toNat : Int).toNat.toUInt8 = y := by simp
    rw [e]; simp [Lib.indexByte, this]
  go_enter Tryd.func60, Tryd.ntmps60
  go_wp2_with (first | (go_at_call 73; refine (Tryd.utf8_ValidRune _ _).mono ?_; rintro e w' ⟨rfl, rfl⟩) | (go_at_call 72; refine (Tryd.strings_IndexByte _ _ _).mono ?_; rintro e w' ⟨rfl, rfl⟩))
  refine wp_scope_straight ?_
  go_wp2_with (first | (go_at_call 73; refine (Tryd.utf8_ValidRune _ _).mono ?_; rintro e w' ⟨rfl, rfl⟩) | (go_at_call 72; refine (Tryd.strings_IndexByte _ _ _).mono ?_; rintro e w' ⟨rfl, rfl⟩))
  go_loop [9, 10, 11, 12] (fun i j k l => i = .int .i64 1) (fun i j k l => 0)
  case atStart => rfl
  case round =>
    subst hrel
    go_wp2_with (first | (go_at_call 73; refine (Tryd.utf8_ValidRune _ _).mono ?_; rintro e w' ⟨rfl, rfl⟩) | (go_at_call 72; refine (Tryd.strings_IndexByte _ _ _).mono ?_; rintro e w' ⟨rfl, rfl⟩))
    refine wp_scope_straight ?_
    go_wp2_with (first | (go_at_call 73; refine (Tryd.utf8_ValidRune _ _).mono ?_; rintro e w' ⟨rfl, rfl⟩) | (go_at_call 72; refine (Tryd.strings_IndexByte _ _ _).mono ?_; rintro e w' ⟨rfl, rfl⟩))
    have n6 : ∀ (h1 : 1 < (⟨#[32, 9, 10]⟩ : ByteArray).size) (h2 : 1 < (⟨#[x, y]⟩ : ByteArray).size), ((((⟨#[32, 9, 10]⟩ : ByteArray)[1]'h1).toNat : Int) != (((⟨#[x, y]⟩ : ByteArray)[1]'h2).toNat : Int)) = true := fun h1 h2 => by
      have a1 : (⟨#[32, 9, 10]⟩ : ByteArray)[1]'h1 = 9 := rfl
      have a2 : (⟨#[x, y]⟩ : ByteArray)[1]'h2 = y := rfl
      rw [a1, a2, bne, show (((9 : UInt8).toNat : Int) == (y.toNat : Int)) = false from n4]; rfl
    have n7 : ∀ (h2 : 1 < (⟨#[x, y]⟩ : ByteArray).size), Lib.indexByte [10] ((⟨#[x, y]⟩ : ByteArray)[1]'h2) = -1 := fun h2 => by
      have a2 : (⟨#[x, y]⟩ : ByteArray)[1]'h2 = y := rfl
      rw [a2]
      have e : (y.toNat : Int).toNat.toUInt8 = y := by simp
      rw [e] at n5; exact n5
    go_region
    go_wp2_with fail
    go_region_with (first | (go_at_call 72; refine (Tryd.strings_IndexByte _ _ _).mono ?_; rintro e w' ⟨rfl, rfl⟩))
    all_goals (go_wp2_with fail)
    all_goals (rw [Exit.noGoto_ret]; go_wp2_with fail)
    all_goals (rw [Exit.noGoto_ret]; go_wp2_with fail; go_ret; exact ⟨rfl, (Ext.refl _).drew.drew⟩)
theorem containsrune_high (c : Nat) (h1 : 128 ≤ c) (h2 : c < 256) (w : World) : Calls Tryd.prog 40 #[.string ⟨#[32, 9, 10]⟩, .int .i32 c] w fun e w' => e = .returned (.bool false) ∧ Ext w w' := by
  go_enter Tryd.func40, Tryd.ntmps40
  go_wp2_with (go_at_call 60; refine (indexrune_high c h1 h2 _).mono ?_; rintro e w' ⟨rfl, hx⟩)
  go_ret
  exact ⟨rfl, hx⟩
end Go.Proofs.YtdglhbelfjcffaaDoor
