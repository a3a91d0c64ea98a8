/-
  Levels of a finite relation: taken off in rounds, they are the lengths of the longest chains; where no round takes anything off there is a cycle. No program is in sight here.
-/
import Derived.Test.YtinenohgemndiaaGr1
set_option linter.unusedVariables false
set_option linter.unusedSimpArgs false
set_option linter.unusedSectionVars false
namespace Go.Proofs.Ytinenohgemndiaa
theorem nodup_lt : ∀ (n : Nat) (l : List Nat), l.Nodup → (∀ x ∈ l, x < n) → l.length ≤ n
  | 0, l, _, h => by
    cases l with
    | nil => exact Nat.le_refl 0
    | cons a r => exact absurd (h a (by simp)) (by omega)
  | n + 1, l, hd, h => by
    have h1 := nodup_lt n (l.erase n) (hd.erase n) (fun x hx => by
      have h2 := h x (List.mem_of_mem_erase hx)
      have h3 : x ≠ n := fun e => by subst e; exact absurd hx hd.not_mem_erase
      omega)
    have h2 := List.length_erase (l := l) (a := n)
    split at h2 <;> omega
theorem repeats {f : Nat → Nat} {n : Nat} (h : ∀ i, f i < n) : ∃ i j, i < j ∧ f i = f j := by
  apply Classical.byContradiction
  intro hn
  have h1 : ((List.range (n + 1)).map f).Nodup := by
    unfold List.Nodup
    rw [List.pairwise_map]
    refine List.pairwise_lt_range.imp fun {a b} hab he => hn ⟨a, b, hab, he⟩
  have h2 := nodup_lt n _ h1 (fun x hx => by
    obtain ⟨i, -, rfl⟩ := List.mem_map.1 hx
    exact h i)
  simp at h2
  omega
def Acyc (R : Nat → Nat → Prop) : Prop := ∀ m a, ¬ Ch R m a a
theorem back_ch {R : Nat → Nat → Prop} {f : Nat → Nat} (h : ∀ i, R (f (i + 1)) (f i)) (i : Nat) : ∀ m, Ch R (m + 1) (f (i + (m + 1))) (f i)
  | 0 => .one (h i)
  | m + 1 => by
    have := Ch.cons (h (i + (m + 1))) (back_ch h i m)
    exact this
theorem cycle_of {R : Nat → Nat → Prop} {n : Nat} {S : Nat → Prop} (hn : ∀ a, S a → a < n) {a : Nat} (ha : S a) (h : ∀ a, S a → ∃ b, S b ∧ R b a) : ¬ Acyc R := by
  intro hac
  let g : {a // S a} → {a // S a} := fun x => ⟨(h x.1 x.2).choose, (h x.1 x.2).choose_spec.1⟩
  have hg : ∀ x, R (g x).1 x.1 := fun x => (h x.1 x.2).choose_spec.2
  let f : Nat → {a // S a} := fun i => Nat.rec ⟨a, ha⟩ (fun _ x => g x) i
  have hf : ∀ i, R (f (i + 1)).1 (f i).1 := fun i => hg (f i)
  obtain ⟨i, j, hij, he⟩ := repeats (f := fun i => (f i).1) (n := n) (fun i => hn _ (f i).2)
  obtain ⟨m, rfl⟩ : ∃ m, j = i + (m + 1) := ⟨j - i - 1, by omega⟩
  have := back_ch (f := fun i => (f i).1) hf i m
  rw [← he] at this
  exact hac _ _ this
abbrev Prs := List (Nat × Nat)
def RL (l : Prs) (a b : Nat) : Prop := (a, b) ∈ l
def free (l : Prs) (rest : List Nat) (i : Nat) : Bool := !(l.any fun p => p.2 == i && rest.contains p.1)
def lvls (l : Prs) : Nat → List Nat → Option (List (List Nat))
  | 0, rest => if rest = [] then some [] else none
  | k + 1, rest => if rest = [] then some [] else
    let lv := rest.filter (free l rest)
    if lv = [] then none else (lvls l k (rest.filter fun i => !lv.contains i)).map (lv :: ·)
theorem free_iff {l : Prs} {rest : List Nat} {i : Nat} : free l rest i = true ↔ ∀ a, RL l a i → a ∉ rest := by
  unfold free RL
  simp only [Bool.not_eq_true', List.any_eq_false, Bool.and_eq_true, beq_iff_eq, List.contains_iff_mem, not_and, Prod.forall]
  exact ⟨fun h a ha hm => h a i ha rfl hm, fun h a b hab e hm => by subst e; exact h a hab hm⟩
def Lev (R : Nat → Nat → Prop) (v m : Nat) : Prop := (m = 0 ∨ ∃ u, Ch R m u v) ∧ ∀ u j, Ch R j u v → j ≤ m
theorem Lev.unique {R : Nat → Nat → Prop} {v m j : Nat} (h : Lev R v m) (g : Lev R v j) : m = j := by
  have h1 : m ≤ j := by
    rcases h.1 with h | ⟨u, h⟩
    · omega
    · exact g.2 u m h
  have h2 : j ≤ m := by
    rcases g.1 with g | ⟨u, g⟩
    · omega
    · exact h.2 u j g
  omega
theorem Ch.last {R : Nat → Nat → Prop} {m a b : Nat} (h : Ch R m a b) : (m = 1 ∧ R a b) ∨ ∃ c, R c b ∧ Ch R (m - 1) a c := by
  induction h with
  | one h => exact .inl ⟨rfl, h⟩
  | @cons a b c m h g ih =>
    rcases ih with ⟨rfl, ih⟩ | ⟨d, h1, h2⟩
    · exact .inr ⟨c, ih, .one h⟩
    · refine .inr ⟨d, h1, ?_⟩
      have := Ch.cons h h2
      have hp := h2.pos
      rw [show m + 1 - 1 = m - 1 + 1 by omega]
      exact this
theorem Ch.snoc {R : Nat → Nat → Prop} {m a b c : Nat} (h : Ch R m a b) (g : R b c) : Ch R (m + 1) a c := h.append (.one g)
structure LI (R : Nat → Nat → Prop) (n k : Nat) (rest : List Nat) : Prop where
  lt : ∀ i ∈ rest, i < n
  srt : rest.Pairwise (· < ·)
  out : ∀ i, i < n → i ∉ rest → ∃ m, m < k ∧ Lev R i m
  inn : ∀ i ∈ rest, k = 0 ∨ ∃ u, Ch R k u i
theorem LI.level {l : Prs} {n k : Nat} {rest : List Nat} (hl : ∀ a b, RL l a b → a < n ∧ b < n) (h : LI (RL l) n k rest) {i : Nat} (hi : i ∈ rest) (hf : free l rest i = true) : Lev (RL l) i k := by
  rw [free_iff] at hf
  refine ⟨h.inn i hi, fun u j hc => ?_⟩
  rcases hc.last with ⟨rfl, h1⟩ | ⟨c, h1, h2⟩
  · have hu := hf u h1
    obtain ⟨m, hm, -⟩ := h.out u (hl _ _ h1).1 hu
    omega
  · have hc' := hf c h1
    obtain ⟨m, hm, hL⟩ := h.out c (hl _ _ h1).1 hc'
    have := hL.2 u (j - 1) h2
    have := h2.pos
    omega
theorem LI.next {l : Prs} {n k : Nat} {rest : List Nat} (hl : ∀ a b, RL l a b → a < n ∧ b < n) (h : LI (RL l) n k rest) : LI (RL l) n (k + 1) (rest.filter fun i => !(rest.filter (free l rest)).contains i) := by
  have hmem : ∀ i, i ∈ (rest.filter fun i => !(rest.filter (free l rest)).contains i) ↔ i ∈ rest ∧ free l rest i = false := by
    intro i
    simp only [List.mem_filter, Bool.not_eq_true', List.contains_eq_mem, decide_eq_false_iff_not, not_and, Bool.not_eq_true]
    exact ⟨fun ⟨a, b⟩ => ⟨a, b a⟩, fun ⟨a, b⟩ => ⟨a, fun _ => b⟩⟩
  refine ⟨fun i hi => h.lt i ((hmem i).1 hi).1, h.srt.filter _, fun i hin hi => ?_, fun i hi => .inr ?_⟩
  · by_cases hr : i ∈ rest
    · cases hf : free l rest i with
      | true => exact ⟨k, by omega, h.level hl hr hf⟩
      | false => exact absurd ((hmem i).2 ⟨hr, hf⟩) hi
    · obtain ⟨m, hm, hL⟩ := h.out i hin hr
      exact ⟨m, by omega, hL⟩
  · obtain ⟨hr, hf⟩ := (hmem i).1 hi
    have : ∃ a, RL l a i ∧ a ∈ rest := by
      apply Classical.byContradiction
      intro hn
      have : free l rest i = true := free_iff.2 fun a ha hm => hn ⟨a, ha, hm⟩
      rw [hf] at this; cases this
    obtain ⟨a, ha, hm⟩ := this
    rcases h.inn a hm with rfl | ⟨u, hu⟩
    · exact ⟨a, .one ha⟩
    · exact ⟨u, hu.snoc ha⟩
theorem Ch.many {R : Nat → Nat → Prop} {m a : Nat} (h : Ch R m a a) : ∀ t, ∃ j, t ≤ j ∧ Ch R j a a
  | 0 => ⟨m, Nat.zero_le _, h⟩
  | t + 1 => by
    obtain ⟨j, h1, h2⟩ := Ch.many h t
    have := h.pos
    exact ⟨m + j, by omega, h.append h2⟩
theorem Lev.nocycle {R : Nat → Nat → Prop} {a j m : Nat} (h : Lev R a j) : ¬ Ch R m a a := by
  intro hc
  obtain ⟨t, h1, h2⟩ := hc.many (j + 1)
  have := h.2 a t h2
  omega
theorem LI.mem {l : Prs} {n k : Nat} {rest : List Nat} (hl : ∀ a b, RL l a b → a < n ∧ b < n) (h : LI (RL l) n k rest) (i : Nat) : i ∈ rest.filter (free l rest) ↔ i < n ∧ Lev (RL l) i k := by
  rw [List.mem_filter]
  constructor
  · exact fun ⟨hi, hf⟩ => ⟨h.lt i hi, h.level hl hi hf⟩
  · rintro ⟨hin, hL⟩
    have hr : i ∈ rest := by
      apply Classical.byContradiction
      intro hr
      obtain ⟨m, hm, hL'⟩ := h.out i hin hr
      have := hL.unique hL'
      omega
    refine ⟨hr, free_iff.2 fun a ha hm => ?_⟩
    rcases h.inn a hm with rfl | ⟨u, hu⟩
    · have := hL.2 a 1 (.one ha)
      omega
    · have := hL.2 u (k + 1) (hu.snoc ha)
      omega
theorem filter_lt {p : Nat → Bool} {l : List Nat} {a : Nat} (ha : a ∈ l) (hp : p a = false) : (l.filter p).length < l.length := by
  induction l with
  | nil => cases ha
  | cons b r ih =>
    have hle := List.length_filter_le p r
    rcases List.mem_cons.1 ha with rfl | ha
    · rw [List.filter_cons_of_neg (by simp [hp])]
      simp only [List.length_cons]; omega
    · have := ih ha
      rw [List.filter_cons]
      split <;> simp only [List.length_cons] <;> omega
theorem lvls_spec {l : Prs} {n : Nat} (hl : ∀ a b, RL l a b → a < n ∧ b < n) : ∀ (fuel k : Nat) (rest : List Nat), LI (RL l) n k rest → rest.length ≤ fuel →
    (lvls l fuel rest = none ∧ ¬ Acyc (RL l)) ∨ (∃ ls, lvls l fuel rest = some ls ∧ Acyc (RL l) ∧ (∀ j lv, ls[j]? = some lv → lv ≠ [] ∧ lv.Pairwise (· < ·) ∧ ∀ i, i ∈ lv ↔ i < n ∧ Lev (RL l) i (k + j)) ∧ ∀ i, i < n → ∃ m, m < k + ls.length ∧ Lev (RL l) i m) := by
  have nil : ∀ k, LI (RL l) n k [] → Acyc (RL l) ∧ ∀ i, i < n → ∃ m, m < k + 0 ∧ Lev (RL l) i m := fun k h => by
    refine ⟨fun m a hc => ?_, fun i hi => h.out i hi (by simp)⟩
    obtain ⟨j, -, hL⟩ := h.out a (hc.lt hl).1 (by simp)
    exact hL.nocycle hc
  intro fuel
  induction fuel with
  | zero =>
    intro k rest h hlen
    have : rest = [] := List.eq_nil_of_length_eq_zero (by omega)
    subst this
    obtain ⟨h1, h2⟩ := nil k h
    exact .inr ⟨[], rfl, h1, fun j lv hj => by simp at hj, h2⟩
  | succ fuel ih =>
    intro k rest h hlen
    by_cases hr : rest = []
    · subst hr
      obtain ⟨h1, h2⟩ := nil k h
      exact .inr ⟨[], rfl, h1, fun j lv hj => by simp at hj, h2⟩
    · have hun : lvls l (fuel + 1) rest = if rest.filter (free l rest) = [] then none else (lvls l fuel (rest.filter fun i => !(rest.filter (free l rest)).contains i)).map (rest.filter (free l rest) :: ·) := by
        rw [lvls, if_neg hr]
      by_cases hlv : rest.filter (free l rest) = []
      · refine .inl ⟨by rw [hun, if_pos hlv], ?_⟩
        obtain ⟨a, ha⟩ := List.exists_mem_of_ne_nil _ hr
        refine cycle_of (S := (· ∈ rest)) (n := n) h.lt ha fun i hi => ?_
        have hf : free l rest i = false := by
          cases hf : free l rest i with
          | false => rfl
          | true =>
            have : i ∈ rest.filter (free l rest) := List.mem_filter.2 ⟨hi, hf⟩
            rw [hlv] at this; cases this
        apply Classical.byContradiction
        intro hn
        have : free l rest i = true := free_iff.2 fun b hb hm => hn ⟨b, hm, hb⟩
        rw [hf] at this; cases this
      · obtain ⟨a, ha⟩ := List.exists_mem_of_ne_nil _ hlv
        have hlt := filter_lt (p := fun i => !(rest.filter (free l rest)).contains i) (List.mem_filter.1 ha).1 (by simp [ha])
        have hmem := h.mem hl
        have hsrt : (rest.filter (free l rest)).Pairwise (· < ·) := h.srt.filter _
        rcases ih (k + 1) _ (h.next hl) (by omega) with ⟨h1, h2⟩ | ⟨ls, h1, h2, h3, h4⟩
        · exact .inl ⟨by rw [hun, if_neg hlv, h1]; rfl, h2⟩
        · refine .inr ⟨_ :: ls, by rw [hun, if_neg hlv, h1]; rfl, h2, fun j lv hj => ?_, fun i hi => ?_⟩
          · cases j with
            | zero =>
              simp only [List.getElem?_cons_zero, Option.some.injEq] at hj
              subst hj
              exact ⟨hlv, hsrt, hmem⟩
            | succ j =>
              simp only [List.getElem?_cons_succ] at hj
              obtain ⟨g1, g2, g3⟩ := h3 j lv hj
              refine ⟨g1, g2, fun i => ?_⟩
              rw [g3 i, show k + 1 + j = k + (j + 1) by omega]
          · obtain ⟨m, g1, g2⟩ := h4 i hi
            exact ⟨m, by simp only [List.length_cons]; omega, g2⟩
theorem LI.start {R : Nat → Nat → Prop} (n : Nat) : LI R n 0 (List.range n) :=
  ⟨fun i hi => List.mem_range.1 hi, List.pairwise_lt_range, fun i hi hn => absurd (List.mem_range.2 hi) hn, fun _ _ => .inl rfl⟩
end Go.Proofs.Ytinenohgemndiaa
