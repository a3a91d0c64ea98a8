/-
  Plain laws of tokens: a list of valid tokens with gaps between them. No program is in sight here. Plain laws of tokens: lines, gaps, long sources. No program is in sight here. Strings as lists of bytes. No program is in sight here.
-/
import Derived.Test.YteopfpebdalcoaaGreatDoorLex3
import Derived.Test.YteopfpebdalcoaaGreatDoorA20
set_option linter.unusedVariables false
set_option linter.unusedSimpArgs false
set_option linter.unusedSectionVars false
namespace Go.Proofs.YteopfpebdalcoaaGreatDoor
open Go.RowKit
def gapped : List (Tok × Bs) → Bs
  | [] => []
  | (t, g) :: r => t.text.data.toList ++ (g ++ gapped r)
def Gap (g : Bs) : Prop := (∀ x, g.head? = some x → blankB x = true) ∧ ∀ r, skipL (g ++ r) = skipL r
theorem Gap.nil : Gap [] := ⟨fun x h => by simp at h, fun r => rfl⟩
theorem Gap.blank {c : UInt8} {g : Bs} (hc : blankB c = true) (hg : ∀ r, skipL (g ++ r) = skipL r) : Gap (c :: g) :=
  ⟨fun x h => by simp at h; exact h ▸ hc, fun r => by rw [List.cons_append, skipL_cons, if_pos hc]; exact hg r⟩
theorem skip_blank {c : UInt8} {r : Bs} (hc : blankB c = true) : skipL (c :: r) = skipL r := by rw [skipL_cons, if_pos hc]
def Gaps : List (Tok × Bs) → Prop
  | [] => True
  | [(t, g)] => vTok t = true ∧ Gap g
  | (t, g) :: p :: r => vTok t = true ∧ Gap g ∧ g ≠ [] ∧ Gaps (p :: r)
theorem Gaps.head {t : Tok} {g : Bs} {r : List (Tok × Bs)} (h : Gaps ((t, g) :: r)) : vTok t = true ∧ Gap g ∧ (g ≠ [] ∨ r = []) ∧ Gaps r := by
  match r, h with
  | [], ⟨h1, h2⟩ => exact ⟨h1, h2, .inr rfl, trivial⟩
  | p :: r, ⟨h1, h2, h3, h4⟩ => exact ⟨h1, h2, .inl h3, h4⟩
def lined (N : Int) : List (Tok × Bs) → List Tok
  | [] => []
  | (t, g) :: r => ⟨t.kind, t.num, t.text, N - ((gapped ((t, g) :: r)).count 10 : Nat)⟩ :: lined N r
theorem toks_skip {N : Int} {l : Bs} : toksN N (skipL l) = toksN N l := by
  rw [toksN_step, toksN_step N l, skip_idem]
theorem toks_gap {N : Int} {g l : Bs} (h : Gap g) : toksN N (g ++ l) = toksN N l := by
  rw [toksN_step, toksN_step N l, h.2]
theorem toks_gapped : ∀ (l : List (Tok × Bs)) (N : Int), Gaps l → toksN N (gapped l) = .ok (lined N l)
  | [], N, _ => by rw [gapped, toksN_step, skipL_nil]; rfl
  | (t, g) :: r, N, h => by
    obtain ⟨h1, h2, h3, h4⟩ := h.head
    have hq : Behind (g ++ gapped r) := by
      intro x hx
      rcases h3 with h3 | rfl
      · cases g with
        | nil => exact absurd rfl h3
        | cons a g => exact h2.1 x (by simpa using hx)
      · simp only [gapped, List.append_nil] at hx
        exact h2.1 x hx
    obtain ⟨r1, r2, r3⟩ := read_valid h1 hq
    have ih := toks_gapped r N h4
    rw [toksN_step]
    simp only [gapped, lined] at r2 r3 ⊢
    rw [r3]
    generalize hl : t.text.data.toList = l at *
    cases l with
    | nil => exact absurd rfl r1
    | cons c s =>
      simp only [List.cons_append] at r2 ⊢
      rw [r2]
      simp only
      have hd : (c :: (s ++ (g ++ gapped r))).drop (c :: s).length = g ++ gapped r := by
        rw [← List.cons_append, List.drop_left]
      have ht : (c :: (s ++ (g ++ gapped r))).take (c :: s).length = c :: s := by
        rw [← List.cons_append, List.take_left]
      rw [hd, toks_gap h2, ih]
      unfold cutTok
      rw [ht, ← hl, text_eq]
      rfl
def joinL : List Tok → Bs
  | [] => []
  | [t] => t.text.data.toList
  | t :: u :: r => t.text.data.toList ++ 32 :: joinL (u :: r)
def spaced : List Tok → List (Tok × Bs)
  | [] => []
  | [t] => [(t, [])]
  | t :: u :: r => (t, [32]) :: spaced (u :: r)
theorem join_spaced : ∀ l, joinL l = gapped (spaced l)
  | [] => rfl
  | [t] => by simp [joinL, spaced, gapped]
  | t :: u :: r => by simp only [joinL, spaced, gapped, join_spaced (u :: r)]; rfl
theorem gap32 : Gap [32] := .blank (by decide) fun _ => rfl
theorem spaced_gaps : ∀ {l : List Tok}, (∀ t, t ∈ l → vTok t = true) → Gaps (spaced l)
  | [], _ => trivial
  | [t], h => ⟨h t (by simp), .nil⟩
  | [t, u], h => ⟨h t (by simp), gap32, by simp, h u (by simp), .nil⟩
  | t :: u :: v :: r, h => by
    have := spaced_gaps (l := u :: v :: r) (fun x hx => h x (by simp at hx ⊢; exact .inr hx))
    exact ⟨h t (by simp), gap32, by simp, this⟩
theorem inn_ne {x : UInt8} (h : inn x = true) : x ≠ 10 := by rintro rfl; revert h; decide
theorem text_flat {t : Tok} (h : vTok t = true) : t.text.data.toList.count 10 = 0 := by
  rw [List.count_eq_zero]
  intro hx
  unfold vTok at h
  split at h
  · simp only [Bool.and_eq_true, beq_iff_eq] at h
    have := dec_dig t.num.toNat 10 (h.2 ▸ hx)
    revert this; decide
  · split at h
    · simp only [Bool.and_eq_true] at h
      have hw := h.2
      simp only [nameB, Bool.and_eq_true, wordB] at hw
      generalize t.text.data.toList = l at *
      match l, hw.1.1 with
      | c :: r, hw2 =>
        simp only [wordL, Bool.and_eq_true] at hw2
        exact inn_ne (List.all_eq_true.1 hw2.2 10 hx) rfl
    · split at h
      · simp only [Bool.and_eq_true] at h
        have hf := kw_facts _ (inB_mem h.2)
        generalize t.text.data.toList = l at *
        match l, hf with
        | c :: r, hf =>
          simp only [Bool.and_eq_true] at hf
          exact inn_ne (List.all_eq_true.1 hf.1.2 10 hx) rfl
      · split at h
        · simp only [Bool.and_eq_true] at h
          exact marks_plain _ (by simpa using h.2) 10 hx rfl
        · cases h
theorem join_flat : ∀ {l : List Tok}, (∀ t, t ∈ l → vTok t = true) → (gapped (spaced l)).count 10 = 0
  | [], _ => rfl
  | [t], h => by simp only [spaced, gapped, List.append_nil]; exact text_flat (h t (by simp))
  | t :: u :: r, h => by
    have h1 := text_flat (h t (by simp))
    have h2 := join_flat (l := u :: r) (fun x hx => h x (by simp at hx ⊢; exact .inr hx))
    simp only [spaced, gapped, List.count_append, h1, h2]; rfl
theorem lined_flat : ∀ {l : List Tok} (N : Int), (∀ t, t ∈ l → vTok t = true) → lined N (spaced l) = l.map fun t => ⟨t.kind, t.num, t.text, N⟩
  | [], _, _ => rfl
  | [t], N, h => by
    have := join_flat (l := [t]) h
    simp only [spaced] at this
    simp only [spaced, lined, this, List.map_cons, List.map_nil]; simp
  | t :: u :: r, N, h => by
    have h1 := join_flat (l := t :: u :: r) h
    have h2 := lined_flat (l := u :: r) N (fun x hx => h x (by simp at hx ⊢; exact .inr hx))
    simp only [spaced] at h1
    simp only [spaced, lined, h1, h2, List.map_cons]; simp
theorem toks_join {l : List Tok} (h : ∀ t, t ∈ l → vTok t = true) : toksL (joinL l) = .ok (l.map fun t => ⟨t.kind, t.num, t.text, 1⟩) := by
  have h1 := join_flat h
  unfold toksL
  rw [join_spaced, h1]
  rw [toks_gapped _ _ (spaced_gaps h), lined_flat _ h]
  rfl
end Go.Proofs.YteopfpebdalcoaaGreatDoor
namespace Go.Proofs.YteopfpebdalcoaaGreatDoor
open Go.RowKit
end Go.Proofs.YteopfpebdalcoaaGreatDoor
namespace Go.Proofs.YteopfpebdalcoaaGreatDoor
open Go.RowKit
def bs (l : Bs) : ByteArray := ⟨l.toArray⟩
theorem bs_list (l : Bs) : (bs l).data.toList = l := by simp [bs]
theorem bs_self (s : ByteArray) : bs s.data.toList = s := Lib.mk_data s
theorem bs_size (l : Bs) : (bs l).size = l.length := by rw [Lib.size_eq, bs_list]
theorem bs_take (l : Bs) (n : Nat) : (bs l).extract 0 n = bs (l.take n) := by rw [Lib.extract_eq, bs_list]; rfl
theorem bs_drop (l : Bs) (n : Nat) : (bs l).extract n (bs l).size = bs (l.drop n) := by
  rw [Lib.extract_eq, bs_list, bs_size]
  unfold bs
  rw [List.take_of_length_le (by simp)]
theorem bs_inj {a b : Bs} : bs a = bs b ↔ a = b := ⟨fun h => by rw [← bs_list a, ← bs_list b, h], fun h => by rw [h]⟩
theorem bs_nil : bs [] = ⟨#[]⟩ := rfl
theorem bs_append (a b : Bs) : bs a ++ bs b = bs (a ++ b) := by
  apply ByteArray.ext; apply Array.ext'; simp [bs]
theorem bs_dec (a b : Bs) : decide (bs a = bs b) = decide (a = b) := by rw [decide_eq_decide]; exact bs_inj
end Go.Proofs.YteopfpebdalcoaaGreatDoor
