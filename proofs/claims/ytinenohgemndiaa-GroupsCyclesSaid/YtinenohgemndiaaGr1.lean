/-
  Finite relations: a table of truths, closed under chains, tells which numbers come before which. No program is in sight here.
-/
namespace Go.Proofs.Ytinenohgemndiaa
inductive Pt (R : Nat → Nat → Prop) (k : Nat) : Nat → Nat → Prop
  | one {a b : Nat} (h : R a b) : Pt R k a b
  | cat {a b c : Nat} (h : Pt R k a c) (hc : c < k) (g : Pt R k c b) : Pt R k a b
theorem Pt.mono {R : Nat → Nat → Prop} {k j : Nat} (hj : k ≤ j) {a b : Nat} (h : Pt R k a b) : Pt R j a b := by
  induction h with
  | one h => exact .one h
  | cat _ hc _ ih ih' => exact .cat ih (by omega) ih'
theorem Pt.zero {R : Nat → Nat → Prop} {a b : Nat} (h : Pt R 0 a b) : R a b := by
  cases h with
  | one h => exact h
  | cat _ hc _ => omega
theorem Pt.succ {R : Nat → Nat → Prop} {k a b : Nat} : Pt R (k + 1) a b ↔ Pt R k a b ∨ Pt R k a k ∧ Pt R k k b := by
  constructor
  · intro h
    induction h with
    | one h => exact .inl (.one h)
    | @cat a b c _ hc _ ih ih' =>
      by_cases hk : c = k
      · subst hk
        refine .inr ⟨?_, ?_⟩
        · rcases ih with h | h
          · exact h
          · exact h.1
        · rcases ih' with h | h
          · exact h
          · exact h.2
      · have hck : c < k := by omega
        rcases ih with h | ⟨h1, h2⟩
        · rcases ih' with g | ⟨g1, g2⟩
          · exact .inl (.cat h hck g)
          · exact .inr ⟨.cat h hck g1, g2⟩
        · rcases ih' with g | ⟨g1, g2⟩
          · exact .inr ⟨h1, .cat h2 hck g⟩
          · exact .inr ⟨h1, g2⟩
  · rintro (h | ⟨h, g⟩)
    · exact h.mono (by omega)
    · exact .cat (h.mono (by omega)) (by omega) (g.mono (by omega))
inductive Ch (R : Nat → Nat → Prop) : Nat → Nat → Nat → Prop
  | one {a b : Nat} (h : R a b) : Ch R 1 a b
  | cons {a b c m : Nat} (h : R a c) (g : Ch R m c b) : Ch R (m + 1) a b
theorem Ch.append {R : Nat → Nat → Prop} {a b c m j : Nat} (h : Ch R m a c) (g : Ch R j c b) : Ch R (m + j) a b := by
  induction h with
  | one h => rw [Nat.add_comm]; exact .cons h g
  | @cons a c' d m h _ ih =>
    have := Ch.cons h (ih g)
    rw [show m + 1 + j = m + j + 1 by omega]; exact this
theorem Ch.pos {R : Nat → Nat → Prop} {a b m : Nat} (h : Ch R m a b) : 1 ≤ m := by cases h <;> omega
theorem Pt.ch {R : Nat → Nat → Prop} {k a b : Nat} (h : Pt R k a b) : ∃ m, Ch R m a b := by
  induction h with
  | one h => exact ⟨1, .one h⟩
  | cat _ _ _ ih ih' =>
    obtain ⟨m, h⟩ := ih
    obtain ⟨j, g⟩ := ih'
    exact ⟨m + j, h.append g⟩
theorem Ch.pt {R : Nat → Nat → Prop} {n : Nat} (hR : ∀ a b, R a b → a < n ∧ b < n) {m a b : Nat} (h : Ch R m a b) : Pt R n a b := by
  induction h with
  | one h => exact .one h
  | cons h _ ih => exact .cat (.one h) (hR _ _ h).2 ih
theorem Ch.lt {R : Nat → Nat → Prop} {n : Nat} (hR : ∀ a b, R a b → a < n ∧ b < n) {m a b : Nat} (h : Ch R m a b) : a < n ∧ b < n := by
  induction h with
  | one h => exact hR _ _ h
  | cons h _ ih => exact ⟨(hR _ _ h).1, ih.2⟩
def tget (t : List (List Bool)) (i j : Nat) : Bool := (t[i]?.getD [])[j]?.getD false
def tset (t : List (List Bool)) (i j : Nat) (b : Bool) : List (List Bool) := t.set i ((t[i]?.getD []).set j b)
structure Sq (n : Nat) (t : List (List Bool)) : Prop where
  len : t.length = n
  row : ∀ r ∈ t, r.length = n
theorem Sq.at {n : Nat} {t : List (List Bool)} (h : Sq n t) {i : Nat} (hi : i < n) : (t[i]?.getD []).length = n := by
  have hi' : i < t.length := by rw [h.len]; exact hi
  rw [List.getElem?_eq_getElem hi']
  exact h.row _ (List.getElem_mem hi')
theorem tset_sq {n : Nat} {t : List (List Bool)} (h : Sq n t) {i : Nat} (hi : i < n) (j : Nat) (b : Bool) : Sq n (tset t i j b) := by
  refine ⟨by simp [tset, h.len], fun r hr => ?_⟩
  rcases List.mem_or_eq_of_mem_set hr with hr | rfl
  · exact h.row _ hr
  · rw [List.length_set]; exact h.at hi
theorem tget_tset {n : Nat} {t : List (List Bool)} (h : Sq n t) {i j : Nat} (hi : i < n) (hj : j < n) (b : Bool) (a c : Nat) : tget (tset t i j b) a c = if a = i ∧ c = j then b else tget t a c := by
  have hi' : i < t.length := by rw [h.len]; exact hi
  have hl := h.at hi
  unfold tget tset
  rw [List.getElem?_set]
  by_cases ha : i = a
  · subst ha
    simp only [if_true, hi', Option.getD_some, true_and]
    rw [List.getElem?_set]
    by_cases hc : j = c
    · subst hc
      simp [hl, hj]
    · rw [if_neg hc, if_neg (fun e => hc e.symm)]
  · rw [if_neg ha, if_neg (fun e => ha e.1.symm)]
def wst (k i j : Nat) (t : List (List Bool)) : List (List Bool) := tset t i j (tget t i j || tget t i k && tget t k j)
def wrow (n k i : Nat) (t : List (List Bool)) : List (List Bool) := (List.range n).foldl (fun t j => wst k i j t) t
def wcol (n k : Nat) (t : List (List Bool)) : List (List Bool) := (List.range n).foldl (fun t i => wrow n k i t) t
def wars (n : Nat) (t : List (List Bool)) : List (List Bool) := (List.range n).foldl (fun t k => wcol n k t) t
structure WI (n k : Nat) (t : List (List Bool)) (i j : Nat) (s : List (List Bool)) : Prop where
  sq : Sq n s
  get : ∀ a b, tget s a b = if (a < i ∨ a = i ∧ b < j) ∧ a < n ∧ b < n then (tget t a b || tget t a k && tget t k b) else tget t a b
theorem WI.step {n k : Nat} {t : List (List Bool)} (hk : k < n) {i j : Nat} (hi : i < n) (hj : j < n) {s : List (List Bool)} (h : WI n k t i j s) : WI n k t i (j + 1) (wst k i j s) := by
  refine ⟨tset_sq h.sq hi _ _, fun a b => ?_⟩
  unfold wst
  rw [tget_tset h.sq hi hj]
  by_cases hab : a = i ∧ b = j
  · obtain ⟨rfl, rfl⟩ := hab
    rw [if_pos ⟨rfl, rfl⟩, if_pos ⟨by omega, hi, hj⟩]
    have h1 : tget s a b = tget t a b := by rw [h.get, if_neg (by omega)]
    have h2 : tget s a k = tget t a k := by
      rw [h.get]; split
      · cases tget t a k <;> simp
      · rfl
    have h3 : tget s k b = tget t k b := by
      rw [h.get]; split
      · cases tget t k b <;> simp
      · rfl
    rw [h1, h2, h3]
  · rw [if_neg hab, h.get]
    by_cases c1 : (a < i ∨ a = i ∧ b < j) ∧ a < n ∧ b < n
    · rw [if_pos c1, if_pos (by omega)]
    · rw [if_neg c1, if_neg (by omega)]
theorem foldl_range {α : Type} (f : α → Nat → α) (P : Nat → α → Prop) (n : Nat) {x : α} (h0 : P 0 x) (hs : ∀ i y, i < n → P i y → P (i + 1) (f y i)) : P n ((List.range n).foldl f x) := by
  induction n with
  | zero => exact h0
  | succ n ih =>
    rw [List.range_succ, List.foldl_append]
    exact hs n _ (by omega) (ih fun i y hi hy => hs i y (by omega) hy)
theorem wcol_get {n k : Nat} {t : List (List Bool)} (hk : k < n) (ht : Sq n t) : Sq n (wcol n k t) ∧ ∀ a b, a < n → b < n → tget (wcol n k t) a b = (tget t a b || tget t a k && tget t k b) := by
  have h := foldl_range (fun t i => wrow n k i t) (fun i s => WI n k t i 0 s) n (x := t) ⟨ht, fun a b => by rw [if_neg (by omega)]⟩ (fun i s hi hs => by
    have h2 := foldl_range (fun t j => wst k i j t) (fun j s => WI n k t i j s) n hs (fun j y hj hy => hy.step hk hi hj)
    refine ⟨h2.sq, fun a b => ?_⟩
    show tget ((List.range n).foldl (fun t j => wst k i j t) s) a b = _
    rw [h2.get]
    by_cases c1 : (a < i ∨ a = i ∧ b < n) ∧ a < n ∧ b < n
    · rw [if_pos c1, if_pos (by omega)]
    · rw [if_neg c1, if_neg (by omega)])
  refine ⟨h.sq, fun a b ha hb => ?_⟩
  show tget ((List.range n).foldl (fun t i => wrow n k i t) t) a b = _
  rw [h.get, if_pos (by omega)]
theorem wars_get {R : Nat → Nat → Prop} {n : Nat} {t : List (List Bool)} (ht : Sq n t) (hR : ∀ a b, a < n → b < n → (tget t a b = true ↔ R a b)) : Sq n (wars n t) ∧ ∀ a b, a < n → b < n → (tget (wars n t) a b = true ↔ Pt R n a b) := by
  have h := foldl_range (fun t k => wcol n k t) (fun k s => Sq n s ∧ ∀ a b, a < n → b < n → (tget s a b = true ↔ Pt R k a b)) n (x := t) ⟨ht, fun a b ha hb => by
    rw [hR a b ha hb]
    exact ⟨.one, Pt.zero⟩⟩ (fun k s hk ⟨h1, h2⟩ => by
    obtain ⟨g1, g2⟩ := wcol_get hk h1
    refine ⟨g1, fun a b ha hb => ?_⟩
    rw [g2 a b ha hb, Pt.succ, Bool.or_eq_true, Bool.and_eq_true, h2 a b ha hb, h2 a k ha hk, h2 k b hk hb])
  exact h
end Go.Proofs.Ytinenohgemndiaa
