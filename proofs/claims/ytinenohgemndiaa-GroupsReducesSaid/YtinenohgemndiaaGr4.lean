/-
  The least relation: it has the same closure and the same levels, and none of its pairs can be left out. No program is in sight here.
-/
import Derived.Test.YtinenohgemndiaaGr3
set_option linter.unusedVariables false
set_option linter.unusedSimpArgs false
set_option linter.unusedSectionVars false
namespace Go.Proofs.Ytinenohgemndiaa
def Bef (R : Nat → Nat → Prop) (a b : Nat) : Prop := ∃ m, Ch R m a b
theorem Bef.trans {R : Nat → Nat → Prop} {a b c : Nat} : Bef R a b → Bef R b c → Bef R a c
  | ⟨m, h⟩, ⟨j, g⟩ => ⟨m + j, h.append g⟩
theorem pt_bef {R : Nat → Nat → Prop} {n : Nat} (hR : ∀ a b, R a b → a < n ∧ b < n) {a b : Nat} : Pt R n a b ↔ Bef R a b :=
  ⟨Pt.ch, fun ⟨_, h⟩ => h.pt hR⟩
theorem lev_ex {l : Prs} {n : Nat} (hl : ∀ a b, RL l a b → a < n ∧ b < n) (hac : Acyc (RL l)) (i : Nat) (hi : i < n) : ∃ m, Lev (RL l) i m := by
  rcases lvls_spec hl n 0 (List.range n) (LI.start n) (by simp) with ⟨-, h⟩ | ⟨ls, -, -, -, h4⟩
  · exact absurd hac h
  · obtain ⟨m, -, h⟩ := h4 i hi
    exact ⟨m, h⟩
theorem lev_lt {R : Nat → Nat → Prop} {a b m j : Nat} (h : Bef R a b) (ha : Lev R a m) (hb : Lev R b j) : m < j := by
  obtain ⟨t, h⟩ := h
  have := h.pos
  rcases ha.1 with rfl | ⟨u, hu⟩
  · have := hb.2 a t h
    omega
  · have := hb.2 u (m + t) (hu.append h)
    omega
theorem ch_le {R S : Nat → Nat → Prop} (h : ∀ a b, R a b → Bef S a b) {m a b : Nat} (g : Ch R m a b) : ∃ j, m ≤ j ∧ Ch S j a b := by
  induction g with
  | one g =>
    obtain ⟨j, hj⟩ := h _ _ g
    exact ⟨j, hj.pos, hj⟩
  | cons g _ ih =>
    obtain ⟨j, hj⟩ := h _ _ g
    obtain ⟨t, ht, hc⟩ := ih
    have := hj.pos
    exact ⟨j + t, by omega, hj.append hc⟩
theorem bef_le {R S : Nat → Nat → Prop} (h : ∀ a b, R a b → Bef S a b) {a b : Nat} : Bef R a b → Bef S a b := fun ⟨_, g⟩ => by
  obtain ⟨j, -, hc⟩ := ch_le h g
  exact ⟨j, hc⟩
theorem lev_same {R S : Nat → Nat → Prop} (h : ∀ a b, Bef R a b ↔ Bef S a b) {v m : Nat} (hL : Lev R v m) : Lev S v m := by
  have h1 : ∀ a b, R a b → Bef S a b := fun a b g => (h a b).1 ⟨1, .one g⟩
  have h2 : ∀ a b, S a b → Bef R a b := fun a b g => (h a b).2 ⟨1, .one g⟩
  have up : ∀ u j, Ch S j u v → j ≤ m := fun u j hc => by
    obtain ⟨t, ht, hc'⟩ := ch_le h2 hc
    have := hL.2 u t hc'
    omega
  refine ⟨?_, up⟩
  rcases hL.1 with h | ⟨u, hu⟩
  · exact .inl h
  · obtain ⟨t, ht, hc⟩ := ch_le h1 hu
    have := up u t hc
    have e : t = m := by omega
    subst e
    exact .inr ⟨u, hc⟩
theorem acyc_same {R S : Nat → Nat → Prop} (h : ∀ a b, Bef R a b ↔ Bef S a b) : Acyc R ↔ Acyc S := by
  constructor
  · intro hR m a hc
    obtain ⟨j, hj⟩ := (h a a).2 ⟨m, hc⟩
    exact hR j a hj
  · intro hS m a hc
    obtain ⟨j, hj⟩ := (h a a).1 ⟨m, hc⟩
    exact hS j a hj
theorem lvls_same {l k : Prs} {n : Nat} (hl : ∀ a b, RL l a b → a < n ∧ b < n) (hk : ∀ a b, RL k a b → a < n ∧ b < n) (h : ∀ a b, Bef (RL l) a b ↔ Bef (RL k) a b) : lvls l n (List.range n) = lvls k n (List.range n) := by
  rcases lvls_spec hl n 0 (List.range n) (LI.start n) (by simp) with ⟨h1, h2⟩ | ⟨ls, h1, h2, h3, h4⟩
  · rw [h1, ((lvls_none hk).2 fun hc => h2 ((acyc_same h).2 hc))]
  · rcases lvls_spec hk n 0 (List.range n) (LI.start n) (by simp) with ⟨-, g2⟩ | ⟨ks, g1, -, g3, g4⟩
    · exact absurd ((acyc_same h).1 h2) g2
    · rw [h1, g1]
      congr 1
      have hL : ∀ i m, Lev (RL l) i m ↔ Lev (RL k) i m := fun i m => ⟨lev_same h, lev_same fun a b => (h a b).symm⟩
      apply List.ext_getElem?
      intro j
      cases hj : ls[j]? with
      | none =>
        cases gj : ks[j]? with
        | none => rfl
        | some y =>
          obtain ⟨q1, -, q3⟩ := g3 j y gj
          obtain ⟨i, hi⟩ := List.exists_mem_of_ne_nil _ q1
          obtain ⟨hin, hLi⟩ := (q3 i).1 hi
          obtain ⟨m, hm, hLm⟩ := h4 i hin
          have := hLm.unique ((hL i _).2 hLi)
          have := List.getElem?_eq_none_iff.1 hj
          omega
      | some x =>
        obtain ⟨p1, p2, p3⟩ := h3 j x hj
        cases gj : ks[j]? with
        | none =>
          obtain ⟨i, hi⟩ := List.exists_mem_of_ne_nil _ p1
          obtain ⟨hin, hLi⟩ := (p3 i).1 hi
          obtain ⟨m, hm, hLm⟩ := g4 i hin
          have := hLm.unique ((hL i _).1 hLi)
          have := List.getElem?_eq_none_iff.1 gj
          omega
        | some y =>
          obtain ⟨q1, q2, q3⟩ := g3 j y gj
          congr 1
          exact sorted_ext p2 q2 fun i => by rw [p3 i, q3 i, hL]
def btw (n : Nat) (t : List (List Bool)) (a b : Nat) : Bool := (List.range n).any fun i => tget t a i && tget t i b
def redp (n : Nat) (t : List (List Bool)) : Prs := (List.range n).flatMap fun a => (List.range n).filterMap fun b => if tget t a b && !btw n t a b then some (a, b) else none
theorem redp_mem {n : Nat} {t : List (List Bool)} {a b : Nat} : (a, b) ∈ redp n t ↔ a < n ∧ b < n ∧ tget t a b = true ∧ btw n t a b = false := by
  unfold redp
  simp only [List.mem_flatMap, List.mem_range, List.mem_filterMap, Option.ite_none_right_eq_some, Bool.and_eq_true, Bool.not_eq_true', Option.some.injEq, Prod.mk.injEq]
  constructor
  · rintro ⟨a', ha, b', hb, ⟨h1, h2⟩, rfl, rfl⟩
    exact ⟨ha, hb, h1, h2⟩
  · rintro ⟨ha, hb, h1, h2⟩
    exact ⟨a, ha, b, hb, ⟨h1, h2⟩, rfl, rfl⟩
theorem btw_iff {R : Nat → Nat → Prop} {n : Nat} {t : List (List Bool)} (ht : ∀ a b, a < n → b < n → (tget t a b = true ↔ Bef R a b)) {a b : Nat} (ha : a < n) (hb : b < n) : btw n t a b = true ↔ ∃ i, i < n ∧ Bef R a i ∧ Bef R i b := by
  unfold btw
  simp only [List.any_eq_true, List.mem_range, Bool.and_eq_true]
  exact ⟨fun ⟨i, hi, h1, h2⟩ => ⟨i, hi, (ht a i ha hi).1 h1, (ht i b hi hb).1 h2⟩, fun ⟨i, hi, h1, h2⟩ => ⟨i, hi, (ht a i ha hi).2 h1, (ht i b hi hb).2 h2⟩⟩
theorem red_lt {n : Nat} {t : List (List Bool)} : ∀ a b, RL (redp n t) a b → a < n ∧ b < n := fun a b h => by
  obtain ⟨h1, h2, -⟩ := redp_mem.1 h
  exact ⟨h1, h2⟩
theorem bef_lt {R : Nat → Nat → Prop} {n : Nat} (hR : ∀ a b, R a b → a < n ∧ b < n) {a b : Nat} : Bef R a b → a < n ∧ b < n := fun ⟨_, h⟩ => h.lt hR
theorem red_bef {l : Prs} {n : Nat} {t : List (List Bool)} (hl : ∀ a b, RL l a b → a < n ∧ b < n) (hac : Acyc (RL l)) (ht : ∀ a b, a < n → b < n → (tget t a b = true ↔ Bef (RL l) a b)) (a b : Nat) : Bef (RL (redp n t)) a b ↔ Bef (RL l) a b := by
  constructor
  · exact bef_le fun a b h => by
      obtain ⟨h1, h2, h3, -⟩ := redp_mem.1 h
      exact (ht a b h1 h2).1 h3
  · intro h
    have hab := bef_lt hl h
    obtain ⟨m, hm⟩ := lev_ex hl hac a hab.1
    obtain ⟨j, hj⟩ := lev_ex hl hac b hab.2
    suffices H : ∀ d a b m j, j - m ≤ d → Lev (RL l) a m → Lev (RL l) b j → Bef (RL l) a b → Bef (RL (redp n t)) a b from H _ a b m j (Nat.le_refl _) hm hj h
    intro d
    induction d with
    | zero =>
      intro a b m j hd ha hb h
      have := lev_lt h ha hb
      omega
    | succ d ih =>
      intro a b m j hd ha hb h
      have hab := bef_lt hl h
      cases hbt : btw n t a b with
      | false => exact ⟨1, .one (redp_mem.2 ⟨hab.1, hab.2, (ht a b hab.1 hab.2).2 h, hbt⟩)⟩
      | true =>
        obtain ⟨i, hi, h1, h2⟩ := (btw_iff ht hab.1 hab.2).1 hbt
        obtain ⟨q, hq⟩ := lev_ex hl hac i hi
        have g1 := lev_lt h1 ha hq
        have g2 := lev_lt h2 hq hb
        exact (ih a i m q (by omega) ha hq h1).trans (ih i b q j (by omega) hq hb h2)
theorem redp_nodup (n : Nat) (t : List (List Bool)) : (redp n t).Nodup := by
  unfold redp List.Nodup
  rw [List.pairwise_flatMap]
  refine ⟨fun a _ => ?_, ?_⟩
  · rw [List.pairwise_filterMap]
    refine List.pairwise_lt_range.imp fun {x y} hxy p hp q hq e => ?_
    subst e
    split at hp
    · split at hq
      · simp only [Option.some.injEq] at hp hq
        rw [← hp] at hq
        simp at hq
        omega
      · cases hq
    · cases hp
  · refine List.pairwise_lt_range.imp fun {x y} hxy => ?_
    intro p hp q hq e
    subst e
    simp only [List.mem_filterMap, Option.ite_none_right_eq_some, Option.some.injEq] at hp hq
    obtain ⟨b, -, -, rfl⟩ := hp
    obtain ⟨c, -, -, h⟩ := hq
    simp at h
    omega
theorem red_needs {l : Prs} {n : Nat} {t : List (List Bool)} (hl : ∀ a b, RL l a b → a < n ∧ b < n) (ht : ∀ a b, a < n → b < n → (tget t a b = true ↔ Bef (RL l) a b)) {i : Nat} {a b : Nat} (hi : (redp n t)[i]? = some (a, b)) : ¬ Bef (RL ((redp n t).eraseIdx i)) a b := by
  rintro ⟨m, hc⟩
  obtain ⟨hi', he⟩ := List.getElem?_eq_some_iff.1 hi
  have hm : (a, b) ∈ redp n t := he ▸ List.getElem_mem hi'
  obtain ⟨ha, hb, -, hn⟩ := redp_mem.1 hm
  have sub : ∀ x y, RL ((redp n t).eraseIdx i) x y → Bef (RL l) x y := fun x y h => by
    have h1 : (x, y) ∈ redp n t := List.mem_of_mem_eraseIdx h
    obtain ⟨g1, g2, g3, -⟩ := redp_mem.1 h1
    exact (ht x y g1 g2).1 g3
  cases hc with
  | one h =>
    have hnd := redp_nodup n t
    have h' : (a, b) ∈ (redp n t).eraseIdx i := h
    rw [List.mem_eraseIdx_iff_getElem] at h'
    obtain ⟨j, hj, hne, hj2⟩ := h'
    exact hne (by
      have h9 : (redp n t)[j] = (redp n t)[i] := by rw [hj2, he]
      unfold List.Nodup at hnd
      rw [List.pairwise_iff_getElem] at hnd
      rcases Nat.lt_trichotomy j i with h7 | h7 | h7
      · exact absurd h9 (hnd j i _ _ h7)
      · exact h7
      · exact absurd h9.symm (hnd i j _ _ h7))
  | cons h g =>
    rename_i c m
    have h1 := sub _ _ h
    have h2 := bef_le sub ⟨m, g⟩
    have := (btw_iff ht ha hb).2 ⟨c, (bef_lt hl h1).2, h1, h2⟩
    rw [hn] at this; cases this
end Go.Proofs.Ytinenohgemndiaa
