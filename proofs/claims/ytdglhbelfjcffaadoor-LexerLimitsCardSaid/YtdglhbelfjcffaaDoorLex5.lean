/-
  Plain laws of tokens: lines, gaps, long sources. No program is in sight here.
-/
import Derived.Test.YtdglhbelfjcffaaDoorLex4
set_option linter.unusedVariables false
set_option linter.unusedSimpArgs false
namespace Go.Proofs.YtdglhbelfjcffaaDoor
open Go.RowKit

def Tok.down (d : Int) (t : Tok) : Tok := ⟨t.kind, t.num, t.text, t.line + d⟩
def Lx.down (d : Int) : Lx → Lx
  | .ok l => .ok (l.map (Tok.down d))
  | .err n e => .err (n + d) e
theorem toks_down (d : Int) : ∀ (k : Nat) (N : Int) (l : Bs), l.length ≤ k → toksN (N + d) l = (toksN N l).down d := by
  intro k
  induction k with
  | zero =>
    intro N l h
    have : l = [] := List.eq_nil_of_length_eq_zero (by omega)
    subst this
    rw [toksN_step, toksN_step N, skipL_nil]; rfl
  | succ k ih =>
    intro N l h
    rw [toksN_step, toksN_step N]
    have hs := (skip_suffix l).length_le
    cases hsk : skipL l with
    | nil => rfl
    | cons c r =>
      rw [hsk] at hs
      simp only
      cases hrd : readL (c :: r) with
      | err e => simp only [Lx.down]; congr 1; omega
      | tok kd n len =>
        obtain ⟨h1, h2⟩ := read_len hrd
        simp only
        rw [ih N _ (by rw [List.length_drop]; simp only [List.length_cons] at hs h2 ⊢; omega)]
        cases toksN N ((c :: r).drop len) with
        | ok ts =>
          simp only [Lx.down, Lx.cons, List.map_cons]
          congr 2
          simp only [cutTok, Tok.down]
          congr 1
          omega
        | err x e => rfl
/-- Two sources one after the other, lines counted from the start of both. -/
theorem toksL_more (s t : Bs) (a : List Tok) (h : toksL s = .ok a) : toksL (s ++ 10 :: t) = ((toksL t).down (1 + (s.count 10 : Nat))).app a := by
  unfold toksL at h ⊢
  have hc : ((s ++ 10 :: t).count 10 : Nat) = s.count 10 + (10 :: t).count 10 := List.count_append
  have hc2 : ((10 :: t).count 10 : Nat) = t.count 10 + 1 := by simp
  have e1 : (1 + ((s ++ 10 :: t).count 10 : Nat) : Int) - ((10 :: t).count 10 : Nat) = 1 + (s.count 10 : Nat) := by rw [hc]; omega
  rw [toks_more s.length _ s t a (Nat.le_refl _) (by rw [e1]; exact h)]
  have e2 : (1 + ((s ++ 10 :: t).count 10 : Nat) : Int) = (1 + (t.count 10 : Nat)) + (1 + (s.count 10 : Nat)) := by rw [hc, hc2]; omega
  rw [e2, toks_down _ t.length _ t (Nat.le_refl _)]
theorem skip_comment {u r : Bs} (h : ∀ x, x ∈ u → x ≠ 10) : skipL (47 :: 47 :: (u ++ 10 :: r)) = skipL r := by
  rw [skipL_cons, if_neg (by decide), if_pos ⟨rfl, rfl⟩, List.dropWhile_cons_of_pos (by decide), List.dropWhile_cons_of_pos (by decide)]
  have : ∀ (u : Bs), (∀ x, x ∈ u → x ≠ 10) → (u ++ 10 :: r).dropWhile (· != 10) = 10 :: r := by
    intro u
    induction u with
    | nil => intro _; rw [List.nil_append, List.dropWhile_cons_of_neg (by decide)]
    | cons a u ih =>
      intro hu
      rw [List.cons_append, List.dropWhile_cons_of_pos (by simpa using hu a (by simp))]
      exact ih fun x hx => hu x (by simp [hx])
  rw [this u h, skip_blank (by decide)]
/-- The gaps of the law. -/
def gapS (k : Nat) : Bs := if k = 0 then [32, 9, 32] else if k = 1 then [10, 10] else if k = 2 then [32, 47, 47, 32, 120, 32, 123, 32, 34, 32, 64, 10] else if k = 3 then [10, 47, 47, 10, 32] else [32]
theorem gapS_gap (k : Nat) : Gap (gapS k) ∧ gapS k ≠ [] := by
  unfold gapS
  split
  · exact ⟨.blank (by decide) fun r => by rw [List.cons_append, skip_blank (by decide), List.cons_append, skip_blank (by decide)]; rfl, by simp⟩
  · split
    · exact ⟨.blank (by decide) fun r => by rw [List.cons_append, skip_blank (by decide)]; rfl, by simp⟩
    · split
      · refine ⟨.blank (by decide) fun r => ?_, by simp⟩
        exact skip_comment (u := [32, 120, 32, 123, 32, 34, 32, 64]) (r := r) (by decide)
      · split
        · refine ⟨.blank (by decide) fun r => ?_, by simp⟩
          refine (skip_comment (u := []) (r := [32] ++ r) (by simp)).trans ?_
          rw [List.cons_append, skip_blank (by decide)]; rfl
        · exact ⟨gap32, by simp⟩
theorem gaps_of : ∀ {l : List (Tok × Bs)}, (∀ p, p ∈ l → vTok p.1 = true ∧ Gap p.2 ∧ p.2 ≠ []) → Gaps l
  | [], _ => trivial
  | [(t, g)], h => ⟨(h (t, g) (by simp)).1, (h (t, g) (by simp)).2.1⟩
  | (t, g) :: p :: r, h => ⟨(h (t, g) (by simp)).1, (h (t, g) (by simp)).2.1, (h (t, g) (by simp)).2.2, gaps_of fun x hx => h x (by simp at hx ⊢; exact .inr hx)⟩
theorem lined_len (N : Int) : ∀ l, (lined N l).length = l.length
  | [] => rfl
  | (t, g) :: r => by simp [lined, lined_len N r]
theorem join_texts : ∀ {a b : List Tok}, a.map Tok.text = b.map Tok.text → joinL a = joinL b
  | [], [], _ => rfl
  | [], _ :: _, h => by simp at h
  | _ :: _, [], h => by simp at h
  | [t], [u], h => by simp at h; simp [joinL, h]
  | [t], u :: v :: r, h => by simp at h
  | t :: v :: r, [u], h => by simp at h
  | t :: v :: r, t' :: v' :: r', h => by
    simp only [List.map_cons, List.cons.injEq] at h
    simp only [joinL, h.1]
    rw [join_texts (a := v :: r) (b := v' :: r') (by simp [h.2.1, h.2.2])]
theorem lined_texts (N : Int) : ∀ l, (lined N l).map Tok.text = l.map fun p => p.1.text
  | [] => rfl
  | (t, g) :: r => by simp [lined, lined_texts N r]
theorem lined_valid (N : Int) : ∀ l, Gaps l → ∀ t, t ∈ lined N l → vTok t = true
  | [], _, t, h => by cases h
  | (u, g) :: r, hg, t, h => by
    obtain ⟨h1, -, -, h4⟩ := hg.head
    simp only [lined, List.mem_cons] at h
    rcases h with rfl | h
    · exact h1
    · exact lined_valid N r h4 t h
theorem skip_many (k : Nat) (l : Bs) : skipL (List.replicate k 32 ++ l) = skipL l := by
  induction k with
  | zero => rfl
  | succ k ih => rw [List.replicate_succ, List.cons_append, skip_blank (by decide)]; exact ih
/-- Blanks and one mark. -/
theorem toks_at (k : Nat) : toksL (List.replicate k 32 ++ [64]) = .ok [⟨4, 0, ⟨#[64]⟩, 1⟩] := by
  have hc : ((List.replicate k 32 ++ [64] : Bs).count 10 : Nat) = 0 := by
    rw [List.count_eq_zero]; intro h; simp only [List.mem_append, List.mem_replicate, List.mem_singleton] at h
    rcases h with ⟨-, h⟩ | h <;> revert h <;> decide
  unfold toksL
  rw [hc, toksN_step, skip_many, show skipL [64] = [64] from by decide]
  have hr : readL [64] = .tok 4 0 1 := by
    have := (read_mark (l := [64]) (q := []) (by decide) (fun x h => by simp at h)).2.1
    simpa using this
  simp only [hr]
  rw [show ([64] : Bs).drop 1 = [] from rfl, toksN_step, skipL_nil]
  rfl
end Go.Proofs.YtdglhbelfjcffaaDoor
