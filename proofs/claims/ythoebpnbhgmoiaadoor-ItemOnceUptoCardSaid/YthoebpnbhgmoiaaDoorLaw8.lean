/-
  Plain laws: counts, sizes, the reference's walk. No program is in sight here.
-/
import Derived.Test.YthoebpnbhgmoiaaDoorRefs8
import Derived.Test.YthoebpnbhgmoiaaDoorFold
import Derived.Test.YthoebpnbhgmoiaaDoorData
import Derived.Test.YthoebpnbhgmoiaaDoorNames2
set_option linter.unusedVariables false
set_option linter.unusedSimpArgs false
set_option linter.unusedSectionVars false
namespace Go.Proofs.YthoebpnbhgmoiaaDoor
open Go.RowKit
theorem cntL_ge (l : List Ex) : ∀ k n : Int, k ≤ cntL l k n := by
  induction l with
  | nil => intro k n; simp [cntL]
  | cons a r ih =>
    intro k n
    simp only [cntL]
    split
    · have h1 := (cnt_bd a (n - k) (by omega)).1
      have := ih (k + cnt a (n - k)) n
      omega
    · exact Int.le_refl _
theorem cnt_size (e : Ex) : ∀ n : Int, 0 ≤ n → cnt e n ≤ n → cnt e n = esize e := by
  induction e using Ex.ind with
  | h o m s l ih =>
  intro n hn h
  suffices H : ∀ (r : List Ex), (∀ a, a ∈ r → a ∈ l) → ∀ k : Int, 1 ≤ k → cntL r k n ≤ n → cntL r k n = k + esizes r by
    simp only [cnt, esize] at h ⊢
    have := H l (fun _ h => h) 1 (by omega) h
    rw [this]; push_cast; omega
  intro r
  induction r with
  | nil => intro _ k _ _; simp [cntL, esizes]
  | cons a r ihr =>
    intro hm k hk hle
    simp only [cntL, esizes] at hle ⊢
    by_cases hkn : k ≤ n
    · rw [if_pos hkn] at hle ⊢
      have h1 := (cnt_bd a (n - k) (by omega)).1
      have h2 := cntL_ge r (k + cnt a (n - k)) n
      have h3 := ih a (hm a (by simp)) (n - k) (by omega) (by omega)
      have h4 := ihr (fun x hx => hm x (by simp [hx])) (k + cnt a (n - k)) (by omega) hle
      rw [h4, h3]; push_cast; omega
    · rw [if_neg hkn] at hle ⊢; omega
theorem few_size {e : Ex} {n : Int} (hn : 0 ≤ n) (h : cnt e n ≤ n) : (esize e : Int) ≤ n := by
  have := cnt_size e n hn h; omega
theorem depth_le (e : Ex) : edepth e ≤ esize e := by
  induction e using Ex.ind with
  | h o m s l ih =>
  simp only [edepth, esize]
  suffices H : ∀ (r : List Ex), (∀ a, a ∈ r → a ∈ l) → edepths r ≤ esizes r by have := H l (fun _ h => h); omega
  intro r
  induction r with
  | nil => intro _; simp [edepths, esizes]
  | cons a r ihr =>
    intro hm
    have h1 := ih a (hm a (by simp))
    have h2 := ihr (fun x hx => hm x (by simp [hx]))
    simp only [edepths, esizes]; omega
theorem esize_pos (e : Ex) : 1 ≤ esize e := by cases e; simp [esize]
theorem len_le (l : List Ex) : l.length ≤ esizes l := by
  induction l with
  | nil => simp
  | cons a r ih => have := esize_pos a; simp only [List.length_cons, esizes]; omega
theorem slim_of (e : Ex) : esize e ≤ 1000000000 → Slim e := by
  induction e using Ex.ind with
  | h o m s l ih =>
  intro h
  simp only [esize] at h
  rw [Slim]
  refine ⟨by have := len_le l; omega, ?_⟩
  suffices H : ∀ (r : List Ex), (∀ a, a ∈ r → a ∈ l) → esizes r ≤ 1000000000 → Slims r from H l (fun _ h => h) (by omega)
  intro r
  induction r with
  | nil => intro _ _; rw [Slims]; trivial
  | cons a r ihr =>
    intro hm hr
    simp only [esizes] at hr
    rw [Slims]
    exact ⟨ih a (hm a (by simp)) (by omega), ihr (fun x hx => hm x (by simp [hx])) (by omega)⟩
end Go.Proofs.YthoebpnbhgmoiaaDoor
