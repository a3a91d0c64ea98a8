/-
  Plain laws: counts, sizes, the reference's walk. No program is in sight here.
-/
import Derived.Test.YtbhippphcmkjnaaGreatDoorRefs8
import Derived.Test.YtbhippphcmkjnaaGreatDoorData
import Derived.Test.YtbhippphcmkjnaaGreatDoorNames2
set_option linter.unusedVariables false
set_option linter.unusedSimpArgs false
namespace Go.Proofs.YtbhippphcmkjnaaGreatDoor
open Go.RowKit

theorem cntL_ge (l : List Ex) : ∀ k n : Int, k ≤ cntL l k n := by
  induction l with
  | nil => intro k n; simp [cntL]
  | cons a r ih =>
    intro k n
    simp only [cntL]
    split
    · have h1 := (cnt_bd a (n - k) (by omega)).1
      have := ih (k + cnt a (n - k)) n
      omega
    · exact Int.le_refl _
theorem cnt_size (e : Ex) : ∀ n : Int, 0 ≤ n → cnt e n ≤ n → cnt e n = esize e := by
  induction e using Ex.ind with
  | h o m s l ih =>
  intro n hn h
  suffices H : ∀ (r : List Ex), (∀ a, a ∈ r → a ∈ l) → ∀ k : Int, 1 ≤ k → cntL r k n ≤ n → cntL r k n = k + esizes r by
    simp only [cnt, esize] at h ⊢
    have := H l (fun _ h => h) 1 (by omega) h
    rw [this]; push_cast; omega
  intro r
  induction r with
  | nil => intro _ k _ _; simp [cntL, esizes]
  | cons a r ihr =>
    intro hm k hk hle
    simp only [cntL, esizes] at hle ⊢
    by_cases hkn : k ≤ n
    · rw [if_pos hkn] at hle ⊢
      have h1 := (cnt_bd a (n - k) (by omega)).1
      have h2 := cntL_ge r (k + cnt a (n - k)) n
      have h3 := ih a (hm a (by simp)) (n - k) (by omega) (by omega)
      have h4 := ihr (fun x hx => hm x (by simp [hx])) (k + cnt a (n - k)) (by omega) hle
      rw [h4, h3]; push_cast; omega
    · rw [if_neg hkn] at hle ⊢; omega
theorem few_size {e : Ex} {n : Int} (hn : 0 ≤ n) (h : cnt e n ≤ n) : (esize e : Int) ≤ n := by
  have := cnt_size e n hn h; omega
theorem depth_le (e : Ex) : edepth e ≤ esize e := by
  induction e using Ex.ind with
  | h o m s l ih =>
  simp only [edepth, esize]
  suffices H : ∀ (r : List Ex), (∀ a, a ∈ r → a ∈ l) → edepths r ≤ esizes r by have := H l (fun _ h => h); omega
  intro r
  induction r with
  | nil => intro _; simp [edepths, esizes]
  | cons a r ihr =>
    intro hm
    have h1 := ih a (hm a (by simp))
    have h2 := ihr (fun x hx => hm x (by simp [hx]))
    simp only [edepths, esizes]; omega
theorem esize_pos (e : Ex) : 1 ≤ esize e := by cases e; simp [esize]
theorem len_le (l : List Ex) : l.length ≤ esizes l := by
  induction l with
  | nil => simp
  | cons a r ih => have := esize_pos a; simp only [List.length_cons, esizes]; omega
theorem see_first (e : Ex) : ∀ (d : Int) (x : See), (seeE d e x).first = if x.first = 0 then errE e else x.first := by
  induction e using Ex.ind with
  | h o m s l ih =>
  intro d x
  suffices H : ∀ (r : List Ex), (∀ a, a ∈ r → a ∈ l) → ∀ x : See, (seeL (d + 1) r x).first = if x.first = 0 then errL r else x.first by
    rw [seeE, H l (fun _ h => h)]
    simp only [seeN, errE, exErr, Ex.op, Ex.num, Ex.name, Ex.args]
    repeat' split
    all_goals first | rfl | simp_all
  intro r
  induction r with
  | nil => intro _ x; simp only [seeL, errL]; split <;> simp_all
  | cons a r ihr =>
    intro hm x
    rw [seeL, ihr (fun x hx => hm x (by simp [hx])), ih a (hm a (by simp))]
    simp only [errL]
    repeat' split
    all_goals simp_all
theorem see_nodes (e : Ex) : ∀ (d : Int) (x : See), 0 ≤ x.nodes → x.nodes + esize e ≤ 1000000000 → (seeE d e x).nodes = x.nodes + esize e := by
  induction e using Ex.ind with
  | h o m s l ih =>
  intro d x h0 h1
  suffices H : ∀ (r : List Ex), (∀ a, a ∈ r → a ∈ l) → ∀ x : See, 0 ≤ x.nodes → x.nodes + esizes r ≤ 1000000000 → (seeL (d + 1) r x).nodes = x.nodes + esizes r by
    simp only [esize] at h1 ⊢
    have hw : wrap64 (x.nodes + 1) = x.nodes + 1 := wrap64_of _ (by omega) (by omega)
    rw [seeE, H l (fun _ h => h) _ (by simp only [seeN]; omega) (by simp only [seeN]; omega)]
    simp only [seeN]; omega
  intro r
  induction r with
  | nil => intro _ x _ _; simp [seeL, esizes]
  | cons a r ihr =>
    intro hm x h0 h1
    simp only [esizes] at h1 ⊢
    have ha := ih a (hm a (by simp)) (d + 1) x h0 (by omega)
    rw [seeL, ihr (fun x hx => hm x (by simp [hx])) _ (by omega) (by omega), ha]; omega
theorem see_deep (e : Ex) : ∀ (d : Int) (x : See), (seeE d e x).deep = max x.deep (d - 1 + edepth e) := by
  induction e using Ex.ind with
  | h o m s l ih =>
  intro d x
  suffices H : ∀ (r : List Ex), (∀ a, a ∈ r → a ∈ l) → ∀ x : See, d ≤ x.deep → (seeL (d + 1) r x).deep = max x.deep (d + edepths r) by
    rw [seeE, H l (fun _ h => h) _ (by simp only [seeN]; split <;> omega)]
    simp only [seeN, edepth]; split <;> omega
  intro r
  induction r with
  | nil => intro _ x h; simp only [seeL, edepths]; omega
  | cons a r ihr =>
    intro hm x h
    have ha := ih a (hm a (by simp)) (d + 1) x
    rw [seeL, ihr (fun x hx => hm x (by simp [hx])) _ (by omega), ha]
    simp only [edepths]; omega
theorem see_names (ops : List Int) (f : See → List ByteArray) (hf : ∀ x d e, f (seeN x d e) = addName ops (f x) e.op e.name) (e : Ex) : ∀ (d : Int) (x : See), walkE (nextName ops) e (f x) = (f (seeE d e x), true) := by
  induction e using Ex.ind with
  | h o m s l ih =>
  intro d x
  suffices H : ∀ (r : List Ex), (∀ a, a ∈ r → a ∈ l) → ∀ x : See, walkL (nextName ops) r (f x) = (f (seeL (d + 1) r x), true) by
    rw [seeE, walkE]
    simp only [nextName, if_true]
    rw [← hf x d, H l (fun _ h => h)]
  intro r
  induction r with
  | nil => intro _ x; simp [seeL, walkL]
  | cons a r ihr =>
    intro hm x
    rw [seeL, walkL, ih a (hm a (by simp)) (d + 1) x]
    simp only [if_true]
    exact ihr (fun x hx => hm x (by simp [hx])) _
theorem seeOf_all (e : Ex) (h : esize e ≤ 1000000) : (seeOf e).first = errE e ∧ (seeOf e).nodes = esize e ∧ (seeOf e).deep = edepth e ∧ (seeOf e).vars = namesOf [2] e ∧ (seeOf e).arrs = namesOf [3, 24] e := by
  unfold seeOf
  refine ⟨by rw [see_first]; rfl, ?_, ?_, ?_, ?_⟩
  · rw [see_nodes _ _ _ (by simp) (by simp; omega)]; simp
  · rw [see_deep]; simp
  · have := see_names [2] See.vars (fun _ _ _ => rfl) e 1 ⟨0, 0, 0, [], []⟩
    unfold namesOf; rw [this]
  · have := see_names [3, 24] See.arrs (fun _ _ _ => rfl) e 1 ⟨0, 0, 0, [], []⟩
    unfold namesOf; rw [this]
theorem rvalid_eq (e : Ex) (h : esize e ≤ 1000000) : rvalidE e = validE e := by
  obtain ⟨h1, h2, h3, -, -⟩ := seeOf_all e h
  unfold rvalidE validE
  rw [h1, h2, h3]
  have e1 : (24 < (edepth e : Int)) ↔ 24 < edepth e := by omega
  have e2 : (400 < (esize e : Int)) ↔ 400 < esize e := by omega
  simp only [e1, e2]
end Go.Proofs.YtbhippphcmkjnaaGreatDoor
