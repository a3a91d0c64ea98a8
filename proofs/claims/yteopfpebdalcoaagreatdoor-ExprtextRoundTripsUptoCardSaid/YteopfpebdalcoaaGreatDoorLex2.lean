/-
  Tokens of a source, as a function on bytes. No program is in sight here. Plain laws of tokens: joined tokens are read again, two sources one after the other. No program is in sight here.
-/
import Derived.Test.YteopfpebdalcoaaGreatDoorNames
import Derived.Lib.ItoaNum
set_option linter.unusedVariables false
set_option linter.unusedSimpArgs false
set_option linter.unusedSectionVars false
namespace Go.Proofs.YteopfpebdalcoaaGreatDoor
open Go.RowKit
abbrev Bs := List UInt8
def inn (c : UInt8) : Bool := folB c.toNat
def blankB (c : UInt8) : Bool := c == 32 || c == 9 || c == 10
def skipF : Nat → Bs → Bs
  | 0, l => l
  | _ + 1, [] => []
  | k + 1, c :: r => if blankB c = true then skipF k r else if c = 47 ∧ r.head? = some 47 then skipF k ((c :: r).dropWhile (· != 10)) else c :: r
def skipL (l : Bs) : Bs := skipF l.length l
theorem drop_line {c : UInt8} {r : Bs} (h : c = 47) : ((c :: r).dropWhile (· != 10)).length ≤ r.length := by
  subst h
  rw [List.dropWhile_cons_of_pos (by decide)]
  exact List.IsSuffix.length_le (List.dropWhile_suffix _)
theorem skipF_eq : ∀ (k : Nat) (l : Bs), l.length ≤ k → skipF k l = skipL l := by
  intro k
  induction k using Nat.strongRecOn with
  | ind k ih =>
  intro l hk
  match l with
  | [] => cases k <;> rfl
  | c :: r =>
    match k with
    | 0 => simp at hk
    | k + 1 =>
      have hr : r.length ≤ k := by simpa using hk
      unfold skipL
      simp only [List.length_cons, skipF]
      split
      · by_cases e : r.length < k
        · rw [ih k (by omega) r hr]; rfl
        · have : r.length = k := by omega
          rw [this]
      · split
        · rename_i h
          have hd := drop_line (r := r) h.1
          rw [ih k (by omega) _ (by omega)]
          by_cases e : r.length < k + 1
          · exact (ih r.length e _ hd).symm
          · omega
        · rfl
theorem skipL_nil : skipL [] = [] := rfl
theorem skipL_cons (c : UInt8) (r : Bs) : skipL (c :: r) = if blankB c = true then skipL r else if c = 47 ∧ r.head? = some 47 then skipL ((c :: r).dropWhile (· != 10)) else c :: r := by
  show skipF (r.length + 1) (c :: r) = _
  rw [skipF]
  split
  · rfl
  · split
    · rename_i h
      exact skipF_eq _ _ (drop_line h.1)
    · rfl
theorem skipL_suffix : ∀ (k : Nat) (l : Bs), l.length ≤ k → skipL l <:+ l := by
  intro k
  induction k with
  | zero => intro l h; have : l = [] := List.eq_nil_of_length_eq_zero (by omega); subst this; exact List.suffix_refl _
  | succ k ih =>
    intro l h
    match l with
    | [] => exact List.suffix_refl _
    | c :: r =>
      have hr : r.length ≤ k := by simpa using h
      rw [skipL_cons]
      split
      · exact (ih r hr).trans (List.suffix_cons _ _)
      · split
        · rename_i hc
          exact (ih _ (Nat.le_trans (drop_line hc.1) hr)).trans (List.dropWhile_suffix _)
        · exact List.suffix_refl _
theorem skip_suffix (l : Bs) : skipL l <:+ l := skipL_suffix _ l (Nat.le_refl _)
theorem skip_idem (l : Bs) : skipL (skipL l) = skipL l := by
  suffices H : ∀ (k : Nat) (l : Bs), l.length ≤ k → skipL (skipL l) = skipL l from H _ l (Nat.le_refl _)
  intro k
  induction k with
  | zero => intro l h; have : l = [] := List.eq_nil_of_length_eq_zero (by omega); subst this; rfl
  | succ k ih =>
    intro l h
    match l with
    | [] => rfl
    | c :: r =>
      have hr : r.length ≤ k := by simpa using h
      rw [skipL_cons]
      split
      · exact ih r hr
      · split
        · rename_i hc
          exact ih _ (Nat.le_trans (drop_line hc.1) hr)
        · rename_i h1 h2
          rw [skipL_cons, if_neg h1, if_neg h2]
def markList : List Bs := [[40], [41], [123], [125], [91], [93], [44], [59], [58], [46, 46], [63], [61], [61, 61], [33, 61], [60], [60, 61], [62], [62, 61], [60, 60], [62, 62], [43], [45], [42], [38], [124], [94], [126], [33], [38, 38], [124, 124], [45, 62], [61, 62], [58, 61], [58, 47], [35, 35], [64]]
def bestF : List Bs → Nat → Bs → Nat
  | [], b, _ => b
  | m :: r, b, l => bestF r (if b < m.length ∧ m.isPrefixOf l = true then m.length else b) l
def bestM (l : Bs) : Nat := bestF markList 0 l
def decN (l : Bs) : Nat := l.foldl (fun n c => 10 * n + (c.toNat - 48)) 0
inductive Rd where
  | err (e : Int)
  | tok (kind num : Int) (len : Nat)
def readL : Bs → Rd
  | [] => .err 5
  | c :: r =>
    if lowB c.toNat = true then
      if 16 < ((c :: r).takeWhile inn).length then .err 2
      else .tok (if inB ⟨((c :: r).takeWhile inn).toArray⟩ kwList = true then 2 else 1) 0 ((c :: r).takeWhile inn).length
    else if digB c.toNat = true then
      if (((c :: r).takeWhile inn).all fun x => digB x.toNat) = false ∨ (1 < ((c :: r).takeWhile inn).length ∧ c = 48) then .err 5
      else if 2147483647 < decN ((c :: r).takeWhile inn) then .err 3
      else .tok 3 (decN ((c :: r).takeWhile inn)) ((c :: r).takeWhile inn).length
    else if bestM (c :: r) = 0 then .err 5 else .tok 4 0 (bestM (c :: r))
structure Tok where
  kind : Int
  num : Int
  text : ByteArray
  line : Int
inductive Lx where
  | ok (l : List Tok)
  | err (line e : Int)
def Lx.cons (t : Tok) : Lx → Lx
  | .ok l => .ok (t :: l)
  | .err n e => .err n e
def Lx.app (ts : List Tok) : Lx → Lx
  | .ok l => .ok (ts ++ l)
  | .err n e => .err n e
def cutTok (N : Int) (r : Bs) (kind num : Int) (len : Nat) : Tok := ⟨kind, num, ⟨(r.take len).toArray⟩, N - (r.count 10 : Nat)⟩
def tokF : Nat → Int → Bs → Lx
  | 0, _, _ => .ok []
  | k + 1, N, l => match skipL l with
    | [] => .ok []
    | c :: r => match readL (c :: r) with
      | .err e => .err (N - ((c :: r).count 10 : Nat)) e
      | .tok kind num len => (tokF k N ((c :: r).drop len)).cons (cutTok N (c :: r) kind num len)
def toksN (N : Int) (l : Bs) : Lx := tokF (l.length + 1) N l
def toksL (l : Bs) : Lx := toksN (1 + (l.count 10 : Nat)) l
theorem best_in : ∀ (ms : List Bs) (b : Nat) (l : Bs), bestF ms b l = b ∨ ∃ m, m ∈ ms ∧ m.isPrefixOf l = true ∧ bestF ms b l = m.length
  | [], b, l => .inl rfl
  | m :: r, b, l => by
    simp only [bestF]
    split
    · rename_i h
      rcases best_in r m.length l with h1 | ⟨m', h1, h2, h3⟩
      · exact .inr ⟨m, by simp, h.2, h1⟩
      · exact .inr ⟨m', by simp [h1], h2, h3⟩
    · rcases best_in r b l with h1 | ⟨m', h1, h2, h3⟩
      · exact .inl h1
      · exact .inr ⟨m', by simp [h1], h2, h3⟩
theorem best_le (l : Bs) : bestM l ≤ l.length ∧ bestM l ≤ 2 := by
  rcases best_in markList 0 l with h | ⟨m, h1, h2, h3⟩
  · unfold bestM; rw [h]; omega
  · have h4 := (List.isPrefixOf_iff_prefix.1 h2).length_le
    have h5 : m.length ≤ 2 := (by decide : ∀ m, m ∈ markList → m.length ≤ 2) m h1
    unfold bestM; omega
theorem read_len {l : Bs} {kind num : Int} {len : Nat} (h : readL l = .tok kind num len) : 1 ≤ len ∧ len ≤ l.length := by
  match l with
  | [] => cases h
  | c :: r =>
    have htw : ((c :: r).takeWhile inn).length ≤ (c :: r).length := (List.takeWhile_prefix _).length_le
    have h1 : inn c = true → 1 ≤ ((c :: r).takeWhile inn).length := fun hi => by rw [List.takeWhile_cons_of_pos hi]; simp
    simp only [readL] at h
    split at h
    · rename_i hl
      split at h
      · cases h
      · cases h
        exact ⟨h1 (by unfold inn folB; simp [hl]), htw⟩
    · split at h
      · rename_i hd
        split at h
        · cases h
        · split at h
          · cases h
          · cases h
            exact ⟨h1 (by unfold inn folB; simp [hd]), htw⟩
      · split at h
        · cases h
        · cases h
          have := best_le (c :: r)
          omega
theorem tokF_eq : ∀ (k : Nat) (N : Int) (l : Bs), l.length < k → tokF k N l = toksN N l := by
  intro k
  induction k using Nat.strongRecOn with
  | ind k ih =>
  intro N l hk
  match k with
  | 0 => omega
  | k + 1 =>
    unfold toksN
    simp only [tokF]
    have hs := (skip_suffix l).length_le
    cases hsk : skipL l with
    | nil => rfl
    | cons c r =>
      rw [hsk] at hs
      simp only
      cases hrd : readL (c :: r) with
      | err e => rfl
      | tok kind num len =>
        obtain ⟨h1, h2⟩ := read_len hrd
        have h3 : ((c :: r).drop len).length < l.length := by rw [List.length_drop]; omega
        simp only
        rw [ih k (by omega) N _ (by omega)]
        by_cases e : l.length < k + 1
        · rw [ih l.length (by omega) N _ h3]
        · omega
theorem toksN_step (N : Int) (l : Bs) : toksN N l = match skipL l with
    | [] => .ok []
    | c :: r => match readL (c :: r) with
      | .err e => .err (N - ((c :: r).count 10 : Nat)) e
      | .tok kind num len => (toksN N ((c :: r).drop len)).cons (cutTok N (c :: r) kind num len) := by
  have : toksN N l = tokF (l.length + 1) N l := rfl
  rw [this, tokF]
  have hs := (skip_suffix l).length_le
  cases hsk : skipL l with
  | nil => rfl
  | cons c r =>
    rw [hsk] at hs
    simp only
    cases hrd : readL (c :: r) with
    | err e => rfl
    | tok kind num len =>
      obtain ⟨h1, h2⟩ := read_len hrd
      simp only
      rw [tokF_eq _ N _ (by rw [List.length_drop]; omega)]
end Go.Proofs.YteopfpebdalcoaaGreatDoor
namespace Go.Proofs.YteopfpebdalcoaaGreatDoor
open Go.RowKit
theorem tw_all {p : UInt8 → Bool} : ∀ {t q : Bs}, (∀ x, x ∈ t → p x = true) → (∀ x, q.head? = some x → p x = false) → (t ++ q).takeWhile p = t
  | [], [], _, _ => rfl
  | [], x :: q, _, h => by rw [List.nil_append, List.takeWhile_cons_of_neg (by rw [h x rfl]; decide)]
  | a :: t, q, ht, h => by
    rw [List.cons_append, List.takeWhile_cons_of_pos (ht a (by simp)), tw_all (fun x hx => ht x (by simp [hx])) h]
theorem marks_plain : ∀ m, m ∈ markList → ∀ x, x ∈ m → x ≠ 10 := by decide
theorem marks_short : ∀ m, m ∈ markList → m.length ≤ 2 := by decide
end Go.Proofs.YteopfpebdalcoaaGreatDoor
