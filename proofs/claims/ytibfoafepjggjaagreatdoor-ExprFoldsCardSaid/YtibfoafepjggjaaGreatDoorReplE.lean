/-
  Plain law: to replace a variable by an expression is to give it the value of this expression. No program is in sight here.
-/
import Derived.Test.YtibfoafepjggjaaGreatDoorSigs8
set_option linter.unusedVariables false
set_option linter.unusedSimpArgs false
namespace Go.Proofs.YtibfoafepjggjaaGreatDoor
open Go.RowKit

mutual
/-- What is said of the name of every node with one of these operators. -/
def allN (ops : List Int) (P : ByteArray → Prop) : Ex → Prop
  | .mk o _ s l => (o ∈ ops → P s) ∧ allNs ops P l
def allNs (ops : List Int) (P : ByteArray → Prop) : List Ex → Prop
  | [] => True
  | a :: r => allN ops P a ∧ allNs ops P r
end
theorem addName_all (ops : List Int) (P : ByteArray → Prop) (l : List ByteArray) (o : Int) (s : ByteArray) : (∀ t, t ∈ addName ops l o s → P t) ↔ (∀ t, t ∈ l → P t) ∧ (o ∈ ops → P s) := by
  unfold addName
  by_cases h1 : o ∈ ops
  · by_cases h2 : s ∈ l
    · have : inB s l = true := by cases h : inB s l with | true => rfl | false => exact absurd h2 (inB_not.1 h)
      simp only [this, h1, true_and, Bool.true_eq_false, if_false, true_implies]
      exact ⟨fun h => ⟨h, h s h2⟩, fun h => h.1⟩
    · have : inB s l = false := inB_not.2 h2
      simp only [this, h1, true_and, if_true, true_implies, List.mem_append, List.mem_singleton]
      exact ⟨fun h => ⟨fun t ht => h t (.inl ht), h s (.inr rfl)⟩, fun h t ht => ht.elim (h.1 t) (fun e => e ▸ h.2)⟩
  · simp only [h1, false_and, if_false, false_implies, and_true]
theorem walk_all (ops : List Int) (P : ByteArray → Prop) (e : Ex) : ∀ x, (∀ s, s ∈ (walkE (nextName ops) e x).1 → P s) ↔ (∀ s, s ∈ x → P s) ∧ allN ops P e := by
  induction e using Ex.ind with
  | h o m s l ih =>
  intro x
  have hL : ∀ (r : List Ex), (∀ a, a ∈ r → a ∈ l) → ∀ y, (∀ s, s ∈ (walkL (nextName ops) r y).1 → P s) ↔ (∀ s, s ∈ y → P s) ∧ allNs ops P r := by
    intro r
    induction r with
    | nil => intro _ y; simp [walkL, allNs]
    | cons a r ihr =>
      intro hm y
      simp only [walkL, allNs, nameWalk_true, if_true]
      rw [ihr (fun x hx => hm x (by simp [hx])), ih a (hm a (by simp)), and_assoc]
  simp only [walkE, allN, nextName, if_true]
  rw [hL l (fun _ h => h), addName_all, and_assoc]
  rfl
theorem names_all (ops : List Int) (P : ByteArray → Prop) (e : Ex) : (∀ s, s ∈ namesOf ops e → P s) ↔ allN ops P e := by
  have := walk_all ops P e []
  simpa [namesOf] using this
theorem subst_all (ops : List Int) (P P' : ByteArray → Prop) (nm : ByteArray) (b : Ex) (hb : allN ops P b) (h1 : ∀ o s, o ∈ ops → ¬ (o = 2 ∧ s = nm) → (P s ↔ P' s)) (h2 : 2 ∈ ops → P' nm) (e : Ex) : errE e = 0 → (allN ops P (subE nm b e) ↔ allN ops P' e) := by
  induction e using Ex.ind with
  | h o m s l ih =>
  intro he
  obtain ⟨hn, hl⟩ := errE_node he
  have hmem := errL_mem hl
  rw [subE]
  by_cases hc : o = 2 ∧ s = nm
  · obtain ⟨rfl, rfl⟩ := hc
    rw [if_pos (by simp)]
    have hl0 : l = [] := by
      have := (node_ok hn).2.2.2.1
      simp only [operB, arity] at this
      have : l.length = 0 := by simpa using this
      exact List.eq_nil_of_length_eq_zero this
    subst hl0
    simp only [allN, allNs, and_true]
    exact ⟨fun _ => h2, fun _ => hb⟩
  · rw [if_neg (by simp only [Bool.and_eq_true, beq_iff_eq, decide_eq_true_eq]; exact hc)]
    simp only [allN]
    have hL : ∀ (r : List Ex), (∀ a, a ∈ r → a ∈ l) → (allNs ops P (subsE nm b r) ↔ allNs ops P' r) := by
      intro r
      induction r with
      | nil => intro _; simp [subsE, allNs]
      | cons a r ihr =>
        intro hm
        simp only [subsE, allNs]
        rw [ihr (fun x hx => hm x (by simp [hx])), ih a (hm a (by simp)) (hmem a (hm a (by simp)))]
    rw [hL l (fun _ h => h)]
    constructor
    · intro h; exact ⟨fun ho => (h1 o s ho hc).1 (h.1 ho), h.2⟩
    · intro h; exact ⟨fun ho => (h1 o s ho hc).2 (h.1 ho), h.2⟩
theorem elem_not {nm : ByteArray} (h : nameB nm = true) (a : ByteArray) (i : Nat) : nm ≠ elemName a i := by
  intro he
  subst he
  have hw := nameB_word h
  have hsz : (elemName a i).size = a.size + 3 := by simp only [elemName, ByteArray.size, List.size_toArray, List.length_append, Array.length_toList, List.length_cons, List.length_nil]
  have h1 := wordB_no hw (k := a.size) (by omega)
  have h2 : (elemName a i)[a.size]'(by omega) = 91 := by
    have h3 := get_list (elemName a i) a.size (by omega)
    have h4 : (elemName a i).data.toList[a.size]? = some 91 := by
      simp only [elemName]
      rw [List.getElem?_append_right (by rw [Array.length_toList]; exact Nat.le_refl _), Array.length_toList, show a.size - a.data.size = 0 from Nat.sub_self _]
      rfl
    rw [h4] at h3
    exact (Option.some.inj h3).symm
  rw [h2] at h1
  revert h1
  decide
section
variable {nm : ByteArray} {x : Int} {env : List Sig}
theorem find_ne (s : ByteArray) (h : nm ≠ s) : findS (⟨nm, x⟩ :: env) s = findS env s := by simp only [findS, if_neg h]
theorem find_eq (hx : Wd x) : findS (⟨nm, x⟩ :: env) nm = some x := by
  unfold Wd at hx
  simp only [findS, if_true]; congr 1; omega
theorem sumTo_ne (hnm : nameB nm = true) (a : ByteArray) : ∀ k, sumTo (⟨nm, x⟩ :: env) a k = sumTo env a k
  | 0 => rfl
  | k + 1 => by simp only [sumTo, sumTo_ne hnm a k, find_ne _ (elem_not hnm a k)]
theorem subst_val (hnm : nameB nm = true) (b : Ex) (hb : valE env b = x) (hx : Wd x) (e : Ex) : valE env (subE nm b e) = valE (⟨nm, x⟩ :: env) e := by
  induction e using Ex.ind with
  | h o m s l ih =>
  have hL : ∀ (r : List Ex), (∀ a, a ∈ r → a ∈ l) → valL env (subsE nm b r) = valL (⟨nm, x⟩ :: env) r := by
    intro r
    induction r with
    | nil => intro _; rfl
    | cons a r ihr =>
      intro hm
      simp only [subsE, valL]
      rw [ihr (fun x hx => hm x (by simp [hx])), ih a (hm a (by simp))]
  rw [subE]
  by_cases hc : o = 2 ∧ s = nm
  · obtain ⟨rfl, rfl⟩ := hc
    rw [if_pos (by simp), hb]
    simp only [valE, leafS]
    rw [if_neg (by decide)]; simp only [if_true, find_eq hx]; rfl
  · rw [if_neg (by simp only [Bool.and_eq_true, beq_iff_eq, decide_eq_true_eq]; exact hc)]
    simp only [valE, hL l (fun _ h => h)]
    unfold leafS
    by_cases h1 : o = 1
    · simp only [if_pos h1]
    simp only [if_neg h1]
    by_cases h2 : o = 2
    · have : nm ≠ s := fun h => hc ⟨h2, h.symm⟩
      simp only [if_pos h2, find_ne s this]
    simp only [if_neg h2]
    by_cases h3 : o = 3
    · simp only [if_pos h3]
      cases valL (⟨nm, x⟩ :: env) l with
      | nil => rfl
      | cons y r => simp only [atS, find_ne _ (elem_not hnm s y.toNat)]
    simp only [if_neg h3]
    by_cases h4 : o = 24
    · simp only [if_pos h4, sumTo_ne hnm]
    · simp only [if_neg h4]
theorem known_iff (env : List Sig) (e : Ex) : knownB env e = true ↔ allN [2] (fun s => (findS env s).isSome = true) e ∧ allN [3, 24] (fun s => (findS env (elemName s 0)).isSome = true) e := by
  simp only [knownB, Bool.and_eq_true, List.all_eq_true]
  rw [names_all [2] (fun s => (findS env s).isSome = true), names_all [3, 24] (fun s => (findS env (elemName s 0)).isSome = true)]
theorem subst_known (hnm : nameB nm = true) (b : Ex) (hb : knownB env b = true) (hx : Wd x) (e : Ex) (he : errE e = 0) : knownB env (subE nm b e) = knownB (⟨nm, x⟩ :: env) e := by
  rw [Bool.eq_iff_iff, known_iff, known_iff]
  obtain ⟨h1, h2⟩ := (known_iff env b).1 hb
  rw [subst_all [2] _ (fun s => (findS (⟨nm, x⟩ :: env) s).isSome = true) nm b h1 (fun o s ho hc => ?_) (fun _ => ?_) e he,
    subst_all [3, 24] _ (fun s => (findS (⟨nm, x⟩ :: env) (elemName s 0)).isSome = true) nm b h2 (fun o s ho hc => ?_) (fun h => absurd h (by decide)) e he]
  · rw [find_ne _ (elem_not hnm s 0)]
  · have : nm ≠ s := fun h => hc ⟨by simpa using ho, h.symm⟩
    rw [find_ne s this]
  · rw [find_eq hx]; rfl
theorem subst_eval (hnm : nameB nm = true) (b : Ex) (hb : evalE b env = (x, 0)) (e : Ex) (he : validE e = 0) (hs : validE (subE nm b e) = 0) : evalE (subE nm b e) env = evalE e (⟨nm, x⟩ :: env) := by
  unfold evalE at hb
  split at hb
  · rename_i hvb
    split at hb
    · rename_i hk
      have hv : valE env b = x := (Prod.mk.inj hb).1
      have hx : Wd x := hv ▸ valE_bd env b (validE_err hvb)
      unfold evalE
      rw [if_pos he, if_pos hs, subst_known hnm b hk hx e (validE_err he), subst_val hnm b hv hx e]
    · exact absurd (Prod.mk.inj hb).2 (by decide)
  · exact absurd (Prod.mk.inj hb).2 (by decide)
end
theorem subst_size (nm : ByteArray) (b : Ex) (e : Ex) : esize (subE nm b e) ≤ esize e * esize b := by
  have hb := esize_pos b
  induction e using Ex.ind with
  | h o m s l ih =>
  have hL : ∀ (r : List Ex), (∀ a, a ∈ r → a ∈ l) → esizes (subsE nm b r) ≤ esizes r * esize b := by
    intro r
    induction r with
    | nil => intro _; simp [subsE, esizes]
    | cons a r ihr =>
      intro hm
      simp only [subsE, esizes]
      have h1 := ih a (hm a (by simp))
      have h2 := ihr (fun x hx => hm x (by simp [hx]))
      rw [Nat.add_mul]; omega
  rw [subE]
  have h2 := hL l (fun _ h => h)
  split
  · simp only [esize]; rw [Nat.add_mul]; omega
  · simp only [esize]; rw [Nat.add_mul]; omega
end Go.Proofs.YtibfoafepjggjaaGreatDoor
