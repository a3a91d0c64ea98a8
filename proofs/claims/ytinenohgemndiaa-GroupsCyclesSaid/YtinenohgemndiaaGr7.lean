/-
  The shortest cycle through a number, always by the least successor from which the way back is short enough. No program is in sight here.
-/
import Derived.Test.YtinenohgemndiaaGr6
set_option linter.unusedVariables false
set_option linter.unusedSimpArgs false
set_option linter.unusedSectionVars false
namespace Go.Proofs.Ytinenohgemndiaa
def least (n : Nat) (p : Nat → Bool) : Nat := ((List.range n).find? p).getD n
theorem least_spec {n : Nat} {p : Nat → Bool} {i : Nat} (hi : i < n) (hp : p i = true) : least n p < n ∧ p (least n p) = true ∧ ∀ j, j < least n p → p j = false := by
  unfold least
  cases hf : (List.range n).find? p with
  | none =>
    have := List.find?_eq_none.1 hf i (List.mem_range.2 hi)
    exact absurd hp this
  | some x =>
    rw [Option.getD_some]
    refine ⟨List.mem_range.1 (List.mem_of_find?_eq_some hf), List.find?_some hf, fun j hj => ?_⟩
    obtain ⟨-, as, bs, hs, has⟩ := List.find?_eq_some_iff_append.1 hf
    have hxn : x < n := List.mem_range.1 (List.mem_of_find?_eq_some hf)
    have hj2 : j ∈ as := by
      have hm : j ∈ List.range n := List.mem_range.2 (by omega)
      rw [hs] at hm
      rcases List.mem_append.1 hm with h | h
      · exact h
      · have hpw := List.pairwise_lt_range (n := n)
        rw [hs, List.pairwise_append] at hpw
        rcases List.mem_cons.1 h with rfl | h
        · omega
        · have := (List.pairwise_cons.1 hpw.2.1).1 j h
          omega
    have := has j hj2
    simpa using this
theorem least_unique {n : Nat} {p : Nat → Bool} {i : Nat} (hi : i < n) (hp : p i = true) (hmin : ∀ j, j < n → p j = true → i ≤ j) : least n p = i := by
  obtain ⟨h1, h2, h3⟩ := least_spec hi hp
  have g1 := hmin _ h1 h2
  apply Classical.byContradiction
  intro hne
  have := h3 i (by omega)
  rw [hp] at this; cases this
theorem minfold {α : Type} (c : α → Bool) (g : α → Nat) : ∀ (l : List α) (x : Nat), l.foldl (fun a q => if c q = true then min a (g q) else a) x ≤ x ∧ (l.foldl (fun a q => if c q = true then min a (g q) else a) x = x ∨ ∃ q ∈ l, c q = true ∧ l.foldl (fun a q => if c q = true then min a (g q) else a) x = g q) ∧ ∀ q ∈ l, c q = true → l.foldl (fun a q => if c q = true then min a (g q) else a) x ≤ g q
  | [], x => ⟨Nat.le_refl _, .inl rfl, fun q hq => by cases hq⟩
  | q :: r, x => by
    rw [List.foldl_cons]
    obtain ⟨h1, h2, h3⟩ := minfold c g r (if c q = true then min x (g q) else x)
    by_cases hc : c q = true
    · rw [if_pos hc] at h1 h2 h3 ⊢
      refine ⟨by omega, ?_, fun p hp hcp => ?_⟩
      · rcases h2 with h2 | ⟨p, hp, hcp, h2⟩
        · rcases Nat.le_total x (g q) with h | h
          · exact .inl (by omega)
          · exact .inr ⟨q, by simp, hc, by omega⟩
        · exact .inr ⟨p, List.mem_cons_of_mem _ hp, hcp, h2⟩
      · rcases List.mem_cons.1 hp with rfl | hp
        · omega
        · exact h3 p hp hcp
    · rw [if_neg hc] at h1 h2 h3 ⊢
      refine ⟨h1, ?_, fun p hp hcp => ?_⟩
      · rcases h2 with h2 | ⟨p, hp, hcp, h2⟩
        · exact .inl h2
        · exact .inr ⟨p, List.mem_cons_of_mem _ hp, hcp, h2⟩
      · rcases List.mem_cons.1 hp with rfl | hp
        · exact absurd hcp hc
        · exact h3 p hp hcp
def Lnk (R : Nat → Nat → Prop) : List Nat → Nat → Prop
  | [], _ => True
  | [a], b => R a b
  | a :: c :: r, b => R a c ∧ Lnk R (c :: r) b
def back (n : Nat) (l : Prs) (dv : Nat → Option Nat) : Nat → Nat → List Nat
  | 0, _ => []
  | k + 1, at' => let nx := least n fun i => l.contains (at', i) && dv i == some (k + 1); nx :: back n l dv k nx
def DV (l : Prs) (n f : Nat) (dv : Nat → Option Nat) : Prop := ∀ v, v < n → (∃ m, dv v = some m ∧ Dst (RL l) f v m) ∨ (dv v = none ∧ ∀ m, ¬ Dst (RL l) f v m)
theorem DV.iff {l : Prs} {n f : Nat} {dv : Nat → Option Nat} (h : DV l n f dv) {v : Nat} (hv : v < n) (m : Nat) : dv v = some m ↔ Dst (RL l) f v m := by
  rcases h v hv with ⟨j, h1, h2⟩ | ⟨h1, h2⟩
  · rw [h1]
    exact ⟨fun e => by cases e; exact h2, fun e => by rw [h2.unique e]⟩
  · rw [h1]
    exact ⟨(fun e => nomatch e), (fun e => absurd e (h2 m))⟩
theorem back_spec {l : Prs} {n f : Nat} {dv : Nat → Option Nat} (hl : ∀ a b, RL l a b → a < n ∧ b < n) (hdv : DV l n f dv) : ∀ (k at' : Nat), (∃ w, RL l at' w ∧ Dst (RL l) f w k) → (back n l dv k at').length = k ∧ (∀ x ∈ back n l dv k at', x < n) ∧ Lnk (RL l) (at' :: back n l dv k at') f
  | 0, at', ⟨w, hr, hd⟩ => by
    rcases hd with ⟨rfl, -⟩ | ⟨-, hc, -⟩
    · exact ⟨rfl, (fun x hx => nomatch hx), hr⟩
    · have := hc.pos; omega
  | k + 1, at', ⟨w, hr, hd⟩ => by
    have hw := (hl _ _ hr).2
    obtain ⟨h1, h2, -⟩ := least_spec (n := n) (p := fun i => l.contains (at', i) && dv i == some (k + 1)) hw (by
      rw [(hdv.iff hw _).2 hd]
      simp only [Bool.and_eq_true, List.contains_iff_mem, beq_self_eq_true, and_true]
      exact hr)
    simp only [Bool.and_eq_true, List.contains_iff_mem, beq_iff_eq] at h2
    have hd' := (hdv.iff h1 _).1 h2.2
    obtain ⟨-, c, hc1, hc2⟩ := hd'.down
    have hun : back n l dv (k + 1) at' = (least n fun i => l.contains (at', i) && dv i == some (k + 1)) :: back n l dv k (least n fun i => l.contains (at', i) && dv i == some (k + 1)) := rfl
    rw [hun]
    generalize (least n fun i => l.contains (at', i) && dv i == some (k + 1)) = nx at *
    obtain ⟨g1, g2, g3⟩ := back_spec hl hdv k nx ⟨c, hc1, hc2⟩
    refine ⟨by simp [g1], fun x hx => ?_, h2.1, g3⟩
    rcases List.mem_cons.1 hx with rfl | hx
    · exact h1
    · exact g2 x hx
def CLen (R : Nat → Nat → Prop) (f L : Nat) : Prop := 1 ≤ L ∧ (∃ w, R f w ∧ Dst R f w (L - 1)) ∧ ∀ w m, R f w → Dst R f w m → L ≤ m + 1
theorem lnk_get {R : Nat → Nat → Prop} : ∀ {c : List Nat} {b : Nat}, Lnk R c b → ∀ i (h : i < c.length), R c[i] (if h' : i + 1 < c.length then c[i + 1] else b)
  | [a], b, h, i, hi => by
    have : i = 0 := by simpa using hi
    subst this
    exact h
  | a :: c :: r, b, h, i, hi => by
    cases i with
    | zero => simpa using h.1
    | succ i =>
      have := lnk_get h.2 i (by simpa using hi)
      simpa using this
end Go.Proofs.Ytinenohgemndiaa
