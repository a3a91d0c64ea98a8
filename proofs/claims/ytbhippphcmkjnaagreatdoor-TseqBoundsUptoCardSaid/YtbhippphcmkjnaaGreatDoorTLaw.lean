/-
  What holds of sequences: Same is equality; a part of a valid sequence is valid. No program is in sight here.
-/
import Derived.Test.YtbhippphcmkjnaaGreatDoorTSrt
import Derived.Test.YtbhippphcmkjnaaGreatDoorTSame
set_option linter.unusedVariables false
set_option linter.unusedSimpArgs false
namespace Go.Proofs.YtbhippphcmkjnaaGreatDoor
open Go.RowKit

theorem sameL_eq : ∀ (l l' : List Ex), (∀ a, a ∈ l → ∀ b, sameE a b = true ↔ a = b) → (sameL l l' = true ↔ l = l')
  | [], [], _ => by simp [sameL]
  | a :: r, b :: r', h => by
    simp only [sameL, Bool.and_eq_true, h a (by simp) b, sameL_eq r r' (fun x hx => h x (by simp [hx])), List.cons.injEq]
  | [], _ :: _, _ => by simp [sameL]
  | _ :: _, [], _ => by simp [sameL]
theorem sameE_iff (a : Ex) : ∀ b, sameE a b = true ↔ a = b := by
  induction a using Ex.ind2 with
  | h a ih =>
  intro b
  rw [sameE_eq]
  simp only [Bool.and_eq_true, decide_eq_true_eq, sameL_eq _ _ ih]
  cases a; cases b
  simp only [Ex.op, Ex.num, Ex.name, Ex.args, Ex.mk.injEq]
theorem sameTs_iff : ∀ (l l' : List Ts), (∀ a, a ∈ l → ∀ b, sameT a b = true ↔ a = b) → (sameTs l l' = true ↔ l = l')
  | [], [], _ => by simp [sameTs]
  | a :: r, b :: r', h => by
    simp only [sameTs, Bool.and_eq_true, h a (by simp) b, sameTs_iff r r' (fun x hx => h x (by simp [hx])), List.cons.injEq]
  | [], _ :: _, _ => by simp [sameTs]
  | _ :: _, [], _ => by simp [sameTs]
theorem sameT_iff (a : Ts) : ∀ b, sameT a b = true ↔ a = b := by
  induction a using Ts.ind with
  | h a ih =>
  intro b
  rw [sameT_eq]
  simp only [Bool.and_eq_true, decide_eq_true_eq, sameTs_iff _ _ ih, sameE_iff]
  cases a; cases b
  simp only [Ts.op, Ts.lo, Ts.hi, Ts.ex, Ts.name, Ts.args, Ts.mk.injEq]
  constructor
  · rintro ⟨h1, h2, h3, h4, h5, h6⟩; exact ⟨h1, h2, h3, h5, h4, h6⟩
  · rintro ⟨h1, h2, h3, h4, h5, h6⟩; exact ⟨h1, h2, h3, h5, h4, h6⟩
theorem sameT_refl (a : Ts) : sameT a a = true := (sameT_iff a a).2 rfl
theorem sameT_symm (a b : Ts) : sameT b a = sameT a b := by
  rw [Bool.eq_iff_iff, sameT_iff, sameT_iff]; exact eq_comm

theorem nodeT_weak {s : Ts} (h : nodeT s true = 0) : nodeT s false = 0 := by
  unfold nodeT at *
  split at h
  · cases h
  · rename_i c1
    rw [if_neg c1]
    split at h
    · cases h
    · rename_i c2
      rw [if_neg c2]
      split at h
      · rename_i c3; exact absurd h c3.2
      · rename_i c3
        rw [if_neg c3]
        split at h
        · cases h
        · rw [if_neg (by simp)]; exact h
theorem checkTs_mem {l : List Ts} {b : Bool} (h : checkTs l b = 0) : ∀ a, a ∈ l → checkT a b = 0 := by
  induction l with
  | nil => intro a ha; cases ha
  | cons x r ih =>
    simp only [checkTs] at h
    split at h
    · rename_i h0
      intro a ha
      rcases List.mem_cons.1 ha with e | e
      · rw [e]; exact h0
      · exact ih h a e
    · rename_i h0; exact absurd h h0
theorem checkTs_of {l : List Ts} {b : Bool} (h : ∀ a, a ∈ l → checkT a b = 0) : checkTs l b = 0 := by
  induction l with
  | nil => rfl
  | cons x r ih =>
    simp only [checkTs]
    rw [if_pos (h x (by simp))]
    exact ih fun a ha => h a (by simp [ha])
theorem checkT_weak (s : Ts) : checkT s true = 0 → checkT s false = 0 := by
  induction s using Ts.ind with
  | h s ih =>
  intro h
  rw [checkT_eq] at h ⊢
  split at h
  · rename_i h0
    rw [if_pos (nodeT_weak h0)]
    refine checkTs_of fun a ha => ?_
    have h1 := checkTs_mem h a ha
    rw [Bool.true_or] at h1
    cases hd : decide (s.op = 5) with
    | true => exact h1
    | false => exact ih a ha h1
  · rename_i h0; exact absurd h h0
theorem tsz_arg {s a : Ts} (h : a ∈ s.args) : tsz a < tsz s := by
  rw [tsz_eq s]
  have : ∀ l : List Ts, a ∈ l → tsz a ≤ (l.map tsz).sum := by
    intro l
    induction l with
    | nil => intro h; cases h
    | cons b r ih =>
      intro h
      simp only [List.map_cons, List.sum_cons]
      rcases List.mem_cons.1 h with e | e
      · subst e; omega
      · have := ih e; omega
  have := this s.args h
  omega
theorem tdp_arg {s a : Ts} (h : a ∈ s.args) : tdp a < tdp s := by
  have := tdps_mem h
  rw [tdp_eq s]; omega
theorem validT_arg {s a : Ts} (h : validT s = 0) (ha : a ∈ s.args) : validT a = 0 := by
  unfold validT at *
  split at h
  · cases h
  · rename_i hc
    have h1 := tsz_arg ha
    have h2 := tdp_arg ha
    rw [if_neg (by omega)]
    rw [checkT_eq] at h
    split at h
    · have := checkTs_mem h a ha
      cases hd : decide (s.op = 5) with
      | true => rw [hd] at this; exact checkT_weak a this
      | false => rw [hd] at this; exact this
    · rename_i h0; exact absurd h h0
theorem locT_arg {s a : Ts} (h : validT s = 0) (ha : a ∈ s.args) {x : ByteArray} (hx : x ∈ locT a) : x ∈ locT s := by
  unfold locT at *
  rw [if_pos h, srt_mem, tnm_eq]
  rw [if_pos (validT_arg h ha), srt_mem] at hx
  exact List.mem_append_left _ (List.mem_flatten.2 ⟨_, List.mem_map_of_mem ha, hx⟩)
end Go.Proofs.YtbhippphcmkjnaaGreatDoor
