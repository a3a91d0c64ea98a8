/-
  Plain laws of tokens: joined tokens are read again, two sources one after the other. No program is in sight here.
-/
import Derived.Test.YtdglhbelfjcffaaDoorLex
import Derived.Lib.ItoaNum
set_option linter.unusedVariables false
set_option linter.unusedSimpArgs false
namespace Go.Proofs.YtdglhbelfjcffaaDoor
open Go.RowKit

theorem tw_all {p : UInt8 → Bool} : ∀ {t q : Bs}, (∀ x, x ∈ t → p x = true) → (∀ x, q.head? = some x → p x = false) → (t ++ q).takeWhile p = t
  | [], [], _, _ => rfl
  | [], x :: q, _, h => by rw [List.nil_append, List.takeWhile_cons_of_neg (by rw [h x rfl]; decide)]
  | a :: t, q, ht, h => by
    rw [List.cons_append, List.takeWhile_cons_of_pos (ht a (by simp)), tw_all (fun x hx => ht x (by simp [hx])) h]
theorem tw_more {p : UInt8 → Bool} {x : UInt8} (hx : p x = false) : ∀ (l q : Bs), (l ++ x :: q).takeWhile p = l.takeWhile p
  | [], q => by rw [List.nil_append, List.takeWhile_cons_of_neg (by rw [hx]; decide)]; rfl
  | a :: l, q => by
    by_cases h : p a = true
    · rw [List.cons_append, List.takeWhile_cons_of_pos h, List.takeWhile_cons_of_pos h, tw_more hx l q]
    · rw [List.cons_append, List.takeWhile_cons_of_neg h, List.takeWhile_cons_of_neg h]
theorem marks_plain : ∀ m, m ∈ markList → ∀ x, x ∈ m → x ≠ 10 := by decide
theorem marks_short : ∀ m, m ∈ markList → m.length ≤ 2 := by decide
theorem prefix_more {m l q : Bs} (hm : ∀ x, x ∈ m → x ≠ 10) : m.isPrefixOf (l ++ 10 :: q) = m.isPrefixOf l := by
  induction m generalizing l with
  | nil => simp
  | cons a m ih =>
    cases l with
    | nil =>
      have : (a == (10 : UInt8)) = false := beq_eq_false_iff_ne.2 (hm a (by simp))
      simp [List.isPrefixOf, this]
    | cons b l => simp only [List.cons_append, List.isPrefixOf, ih (l := l) (fun x hx => hm x (by simp [hx]))]
theorem best_more (l q : Bs) : bestM (l ++ 10 :: q) = bestM l := by
  suffices H : ∀ (ms : List Bs), (∀ m, m ∈ ms → m ∈ markList) → ∀ b, bestF ms b (l ++ 10 :: q) = bestF ms b l from H markList (fun _ h => h) 0
  intro ms
  induction ms with
  | nil => intro _ b; rfl
  | cons m ms ih =>
    intro h b
    simp only [bestF, prefix_more (marks_plain m (h m (by simp)))]
    exact ih (fun x hx => h x (by simp [hx])) _
theorem read_more {l : Bs} (h : l ≠ []) (q : Bs) : readL (l ++ 10 :: q) = readL l := by
  match l, h with
  | c :: r, _ =>
    have h1 := tw_more (p := inn) (x := 10) (by decide) (c :: r) q
    have h2 := best_more (c :: r) q
    rw [List.cons_append] at h1 h2 ⊢
    simp only [readL, h1, h2]
theorem dw_more {p : UInt8 → Bool} {x : UInt8} (hx : p x = false) : ∀ (l q : Bs), (l ++ x :: q).dropWhile p = l.dropWhile p ++ x :: q
  | [], q => by rw [List.nil_append, List.dropWhile_cons_of_neg (by rw [hx]; decide)]; rfl
  | a :: l, q => by
    by_cases h : p a = true
    · rw [List.cons_append, List.dropWhile_cons_of_pos h, List.dropWhile_cons_of_pos h, dw_more hx l q]
    · rw [List.cons_append, List.dropWhile_cons_of_neg h, List.dropWhile_cons_of_neg h]; rfl
theorem skip_more : ∀ (k : Nat) (l q : Bs), l.length ≤ k → skipL (l ++ 10 :: q) = if skipL l = [] then skipL q else skipL l ++ 10 :: q := by
  intro k
  have nl : ∀ q, skipL (10 :: q) = skipL q := fun q => by rw [skipL_cons, if_pos (by decide)]
  induction k with
  | zero =>
    intro l q h
    have : l = [] := List.eq_nil_of_length_eq_zero (by omega)
    subst this
    rw [List.nil_append, nl, skipL_nil, if_pos rfl]
  | succ k ih =>
    intro l q h
    match l with
    | [] => rw [List.nil_append, nl, skipL_nil, if_pos rfl]
    | c :: r =>
      have hr : r.length ≤ k := by simpa using h
      rw [List.cons_append, skipL_cons, skipL_cons]
      by_cases hb : blankB c = true
      · rw [if_pos hb, if_pos hb]; exact ih r q hr
      · rw [if_neg hb, if_neg hb]
        by_cases hc : c = 47 ∧ r.head? = some 47
        · have hc2 : c = 47 ∧ (r ++ 10 :: q).head? = some 47 := ⟨hc.1, by
            cases r with
            | nil => simp at hc
            | cons a r => simpa using hc.2⟩
          rw [if_pos hc, if_pos hc2, ← List.cons_append, dw_more (by decide)]
          exact ih _ q (Nat.le_trans (drop_line hc.1) hr)
        · have hc2 : ¬ (c = 47 ∧ (r ++ 10 :: q).head? = some 47) := by
            rintro ⟨h1, h2⟩
            cases r with
            | nil => simp at h2
            | cons a r => exact hc ⟨h1, by simpa using h2⟩
          rw [if_neg hc, if_neg hc2, if_neg (by simp)]; rfl
/-- A source and another one behind it, on a new line. -/
theorem toks_more : ∀ (k : Nat) (N : Int) (s t : Bs) (a : List Tok), s.length ≤ k → toksN (N - ((10 :: t).count 10 : Nat)) s = .ok a → toksN N (s ++ 10 :: t) = (toksN N t).app a := by
  intro k
  induction k with
  | zero =>
    intro N s t a h ht
    have : s = [] := List.eq_nil_of_length_eq_zero (by omega)
    subst this
    rw [toksN_step, skipL_nil] at ht
    cases ht
    rw [toksN_step, toksN_step N t, skip_more 0 [] t (by simp), if_pos skipL_nil]
    cases skipL t with
    | nil => rfl
    | cons c r =>
      simp only
      cases readL (c :: r) with
      | err e => rfl
      | tok kd n len => simp only; cases (toksN N ((c :: r).drop len)).cons _ <;> rfl
  | succ k ih =>
    intro N s t a h ht
    rw [toksN_step] at ht
    rw [toksN_step, skip_more _ s t (Nat.le_refl _)]
    cases hsk : skipL s with
    | nil =>
      rw [hsk] at ht
      cases ht
      rw [if_pos rfl, toksN_step N t]
      cases skipL t with
      | nil => rfl
      | cons c r =>
        simp only
        cases readL (c :: r) with
        | err e => rfl
        | tok kd n len => simp only; cases (toksN N ((c :: r).drop len)).cons _ <;> rfl
    | cons c r =>
      rw [hsk] at ht
      have hs := (skip_suffix s).length_le
      rw [hsk] at hs
      rw [if_neg (by simp)]
      simp only [List.cons_append] at ht ⊢
      have hrm := read_more (l := c :: r) (by simp) t
      rw [List.cons_append] at hrm
      rw [hrm]
      cases hrd : readL (c :: r) with
      | err e => rw [hrd] at ht; cases ht
      | tok kd n len =>
        rw [hrd] at ht
        obtain ⟨h1, h2⟩ := read_len hrd
        simp only at ht ⊢
        have hd : (c :: (r ++ 10 :: t)).drop len = (c :: r).drop len ++ 10 :: t := by
          rw [← List.cons_append, List.drop_append_of_le_length h2]
        have htk : (c :: (r ++ 10 :: t)).take len = (c :: r).take len := by
          rw [← List.cons_append, List.take_append_of_le_length h2]
        have hcnt : ((c :: (r ++ 10 :: t)).count 10 : Nat) = (c :: r).count 10 + (10 :: t).count 10 := by
          rw [← List.cons_append, List.count_append]
        rw [hd]
        cases hx : toksN (N - ((10 :: t).count 10 : Nat)) ((c :: r).drop len) with
        | err x e => rw [hx] at ht; cases ht
        | ok ts =>
          rw [hx] at ht
          cases ht
          rw [ih N _ t ts (by rw [List.length_drop]; simp only [List.length_cons] at hs h2 ⊢; omega) hx]
          have hcut : cutTok N (c :: (r ++ 10 :: t)) kd n len = cutTok (N - ((10 :: t).count 10 : Nat)) (c :: r) kd n len := by
            unfold cutTok
            rw [htk, hcnt]
            congr 1
            omega
          rw [hcut]
          cases toksN N t <;> rfl
end Go.Proofs.YtdglhbelfjcffaaDoor
