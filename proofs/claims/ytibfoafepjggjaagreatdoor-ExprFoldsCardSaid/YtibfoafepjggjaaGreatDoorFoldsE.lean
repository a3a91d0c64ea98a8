/-
  Plain law: folding keeps value and error, and folding twice is folding once. No program is in sight here.
-/
import Derived.Test.YtibfoafepjggjaaGreatDoorRFold
set_option linter.unusedVariables false
set_option linter.unusedSimpArgs false
namespace Go.Proofs.YtibfoafepjggjaaGreatDoor
open Go.RowKit

theorem foldN_cases (o n : Int) (s : ByteArray) (l : List Ex) : (foldN o n s l = .mk o n s l ∧ (keptOp o = true ∨ (l.all fun a => a.op == 1) = false)) ∨ (keptOp o = false ∧ (l.all fun a => a.op == 1) = true ∧ foldN o n s l = .mk 1 (operS o (l.map Ex.num)) ⟨#[]⟩ []) := by
  unfold foldN
  cases h1 : keptOp o with
  | true => exact .inl ⟨rfl, .inl rfl⟩
  | false =>
    cases h2 : (l.all fun a => a.op == 1) with
    | true => exact .inr ⟨rfl, rfl, rfl⟩
    | false => exact .inl ⟨rfl, .inr rfl⟩
theorem foldE_eq (o n : Int) (s : ByteArray) (l : List Ex) : foldE (.mk o n s l) = foldN o n s (l.map foldE) := by rw [foldE, foldsE_map]
theorem map_same {l : List Ex} (h : ∀ a, a ∈ l → foldE (foldE a) = foldE a) : (l.map foldE).map foldE = l.map foldE := by
  rw [List.map_map]; exact List.map_congr_left h
theorem fold_fold (e : Ex) : foldE (foldE e) = foldE e := by
  induction e using Ex.ind with
  | h o n s l ih =>
  rw [foldE_eq o n s l]
  rcases foldN_cases o n s (l.map foldE) with ⟨h1, h2⟩ | ⟨h1, h2, h3⟩
  · rw [h1, foldE_eq, map_same ih]
    exact h1
  · rw [h3, foldE_eq]; rfl
theorem fold_err (e : Ex) : errE e = 0 → errE (foldE e) = 0 := by
  induction e using Ex.ind with
  | h o n s l ih =>
  intro he
  have hnum := fold_num (.mk o n s l) he
  obtain ⟨hnode, herl⟩ := errE_node he
  have hmem := errL_mem herl
  rw [foldE_eq] at hnum ⊢
  rcases foldN_cases o n s (l.map foldE) with ⟨h1, h2⟩ | ⟨h1, h2, h3⟩
  · rw [h1, errE, List.length_map, hnode, if_pos rfl]
    have hL : ∀ (r : List Ex), (∀ a, a ∈ r → a ∈ l) → errL (r.map foldE) = 0 := by
      intro r
      induction r with
      | nil => intro _; rfl
      | cons a r ihr =>
        intro hm
        simp only [List.map_cons, errL, ih a (hm a (by simp)) (hmem a (hm a (by simp))), ihr (fun x hx => hm x (by simp [hx])), if_true]
    exact hL l fun _ h => h
  · rw [h3] at hnum ⊢
    have hw := hnum rfl
    simp only [Ex.num] at hw
    unfold Wd at hw
    have hn : nodeErr 1 (operS o ((l.map foldE).map Ex.num)) ⟨#[]⟩ 0 = 0 := by
      unfold nodeErr
      rw [if_neg (by omega), if_neg (by omega), if_neg, if_neg (by omega)]
      rintro (⟨-, h⟩ | h)
      · exact h (by rw [ByteArray.toList_eq])
      · exact absurd h (by decide)
    rw [errE]
    simp only [List.length_nil, hn, if_true, errL]
theorem fold_size (e : Ex) : esize (foldE e) ≤ esize e := by
  induction e using Ex.ind with
  | h o n s l ih =>
  rw [foldE_eq]
  rcases foldN_cases o n s (l.map foldE) with ⟨h1, h2⟩ | ⟨h1, h2, h3⟩
  · rw [h1]
    simp only [esize]
    have hL : ∀ (r : List Ex), (∀ a, a ∈ r → a ∈ l) → esizes (r.map foldE) ≤ esizes r := by
      intro r
      induction r with
      | nil => intro _; simp [esizes]
      | cons a r ihr =>
        intro hm
        have := ih a (hm a (by simp))
        have := ihr (fun x hx => hm x (by simp [hx]))
        simp only [List.map_cons, esizes]; omega
    have := hL l fun _ h => h
    omega
  · rw [h3]; simp only [esize, esizes]; omega
theorem fold_depth (e : Ex) : edepth (foldE e) ≤ edepth e := by
  induction e using Ex.ind with
  | h o n s l ih =>
  rw [foldE_eq]
  rcases foldN_cases o n s (l.map foldE) with ⟨h1, h2⟩ | ⟨h1, h2, h3⟩
  · rw [h1]
    simp only [edepth]
    have hL : ∀ (r : List Ex), (∀ a, a ∈ r → a ∈ l) → edepths (r.map foldE) ≤ edepths r := by
      intro r
      induction r with
      | nil => intro _; simp [edepths]
      | cons a r ihr =>
        intro hm
        have := ih a (hm a (by simp))
        have := ihr (fun x hx => hm x (by simp [hx]))
        simp only [List.map_cons, edepths]; omega
    have := hL l fun _ h => h
    omega
  · rw [h3]; simp only [edepth, edepths]; omega
theorem fold_valid {e : Ex} (h : validE e = 0) : validE (foldE e) = 0 := by
  have h1 := fold_err e (validE_err h)
  have h2 := fold_size e
  have h3 := fold_depth e
  have h4 := validE_err h
  unfold validE at h ⊢
  rw [h1]
  rw [h4] at h
  split at h
  · cases h
  · rename_i hn
    rw [if_neg]
    intro hh
    exact hn ⟨rfl, by omega⟩
theorem const_args {a : Ex} (h : errE a = 0) (h1 : a.op = 1) : a = .mk 1 a.num a.name [] := by
  match a with
  | .mk o n s l =>
  simp only [Ex.op] at h1
  subst h1
  obtain ⟨hn, -⟩ := errE_node h
  have := (node_ok hn).2.2.2.1
  simp only [operB] at this
  rw [if_neg (by decide)] at this
  have ha : arity 1 = 0 := by decide
  simp only [decide_eq_true_eq, ha] at this
  have : l = [] := List.eq_nil_of_length_eq_zero (by omega)
  subst this
  rfl
theorem fold_val (env : List Sig) (e : Ex) : errE e = 0 → valE env (foldE e) = valE env e ∧ kB env (foldE e) = kB env e := by
  induction e using Ex.ind with
  | h o n s l ih =>
  intro he
  obtain ⟨hnode, herl⟩ := errE_node he
  have hmem := errL_mem herl
  have hL : ∀ (r : List Ex), (∀ a, a ∈ r → a ∈ l) → valL env (r.map foldE) = valL env r ∧ kBs env (r.map foldE) = kBs env r := by
    intro r
    induction r with
    | nil => intro _; exact ⟨rfl, rfl⟩
    | cons a r ihr =>
      intro hm
      obtain ⟨h1, h2⟩ := ih a (hm a (by simp)) (hmem a (hm a (by simp)))
      obtain ⟨h3, h4⟩ := ihr (fun x hx => hm x (by simp [hx]))
      simp only [List.map_cons, valL, kBs, h1, h2, h3, h4, and_self]
  obtain ⟨hv, hk⟩ := hL l fun _ h => h
  rw [foldE_eq]
  rcases foldN_cases o n s (l.map foldE) with ⟨h1, h2⟩ | ⟨h1, h2, h3⟩
  · rw [h1]
    simp only [valE, kB, hv, hk, and_self]
  · have hc : ∀ a, a ∈ l → foldE a = .mk 1 (foldE a).num (foldE a).name [] := fun a ha =>
      const_args (fold_err a (hmem a ha)) (by have := List.all_eq_true.1 h2 _ (List.mem_map.2 ⟨a, ha, rfl⟩); simpa using this)
    have hv2 : ∀ (r : List Ex), (∀ a, a ∈ r → a ∈ l) → valL env (r.map foldE) = (r.map foldE).map Ex.num ∧ kBs env (r.map foldE) = true := by
      intro r
      induction r with
      | nil => intro _; exact ⟨rfl, rfl⟩
      | cons a r ihr =>
        intro hm
        obtain ⟨h4, h5⟩ := ihr (fun x hx => hm x (by simp [hx]))
        have h6 := hc a (hm a (by simp))
        have h7 : valE env (foldE a) = (foldE a).num := by rw [h6]; rfl
        have h8 : kB env (foldE a) = true := by rw [h6]; rfl
        simp only [List.map_cons, valL, kBs, h4, h5, h7, h8, Bool.and_self, and_self]
    obtain ⟨h4, h5⟩ := hv2 l fun _ h => h
    have hkn : ¬ o = 1 ∧ ¬ o = 2 ∧ ¬ o = 3 ∧ ¬ o = 24 := by
      unfold keptOp at h1
      simp only [Bool.or_eq_false_iff, beq_eq_false_iff_ne, ne_eq] at h1
      exact ⟨h1.1.1.1, h1.1.1.2, h1.1.2, h1.2⟩
    obtain ⟨n1, n2, n3, n24⟩ := hkn
    have hlk : leafK env o s = true := by unfold leafK; rw [if_neg n2, if_neg (by omega)]
    have hls : ∀ vs, leafS env o n s vs = operS o vs := fun vs => by unfold leafS; rw [if_neg n1, if_neg n2, if_neg n3, if_neg n24]
    rw [h3]
    constructor
    · simp only [valE, valL, hls, ← hv, h4]; rfl
    · simp only [kB, kBs, hlk, ← hk, h5]; rfl
theorem Fold_same (e : Ex) : FoldE (FoldE e) = FoldE e := by
  unfold FoldE
  by_cases h : validE e = 0
  · simp only [if_pos h, if_pos (fold_valid h), fold_fold]
  · simp only [if_neg h]
theorem Fold_eval (e : Ex) (env : List Sig) : evalE (FoldE e) env = evalE e env := by
  unfold FoldE
  by_cases h : validE e = 0
  · rw [if_pos h]
    obtain ⟨h1, h2⟩ := fold_val env e (validE_err h)
    unfold evalE
    rw [if_pos h, if_pos (fold_valid h), ← kB_known, ← kB_known, h1, h2]
  · rw [if_neg h]
end Go.Proofs.YtibfoafepjggjaaGreatDoor
