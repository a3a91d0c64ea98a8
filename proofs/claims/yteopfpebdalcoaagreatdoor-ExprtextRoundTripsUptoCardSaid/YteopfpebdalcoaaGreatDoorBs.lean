/-
  Plain laws of tokens: valid tokens, written with blanks behind them, are read again. No program is in sight here. Plain laws of tokens: a list of valid tokens with gaps between them. No program is in sight here. Plain laws of tokens: lines, gaps, long sources. No program is in sight here. Strings as lists of bytes. No program is in sight here.
-/
import Derived.Test.YteopfpebdalcoaaGreatDoorLex2
import Derived.Test.YteopfpebdalcoaaGreatDoorA20
set_option linter.unusedVariables false
set_option linter.unusedSimpArgs false
set_option linter.unusedSectionVars false
namespace Go.Proofs.YteopfpebdalcoaaGreatDoor
open Go.RowKit
def vTok (t : Tok) : Bool :=
  if t.kind = 3 then decide (0 ≤ t.num) && decide (t.num ≤ 2147483647) && (t.text.data.toList == Lib.decDigits t.num.toNat)
  else if t.kind = 1 then decide (t.num = 0) && nameB t.text
  else if t.kind = 2 then decide (t.num = 0) && inB t.text kwList
  else if t.kind = 4 then decide (t.num = 0) && markList.contains t.text.data.toList
  else false
theorem inn_blank {x : UInt8} (h : blankB x = true) : inn x = false := by
  simp only [blankB, Bool.or_eq_true, beq_iff_eq] at h
  rcases h with (rfl | rfl) | rfl <;> decide
def Behind (q : Bs) : Prop := ∀ x, q.head? = some x → blankB x = true
theorem dig_byte (d : Nat) (h : d < 10) : (UInt8.ofNat (48 + d)).toNat = 48 + d := by
  have : ∀ d, d < 10 → (UInt8.ofNat (48 + d)).toNat = 48 + d := by decide
  exact this d h
theorem dec_dig (u : Nat) : ∀ x, x ∈ Lib.decDigits u → digB x.toNat = true := by
  induction u using Nat.strongRecOn with
  | ind u ih =>
  intro x hx
  rw [Lib.decDigits] at hx
  split at hx
  · rename_i h
    simp only [List.mem_singleton] at hx
    subst hx
    rw [dig_byte u h]
    simp only [digB, Bool.and_eq_true, decide_eq_true_eq]; omega
  · rename_i h
    rcases List.mem_append.1 hx with h1 | h1
    · exact ih (u / 10) (by omega) x h1
    · simp only [List.mem_singleton] at h1
      subst h1
      rw [dig_byte _ (by omega)]
      simp only [digB, Bool.and_eq_true, decide_eq_true_eq]; omega
theorem dec_val (u : Nat) : decN (Lib.decDigits u) = u := by
  induction u using Nat.strongRecOn with
  | ind u ih =>
  rw [Lib.decDigits]
  split
  · rename_i h
    simp only [decN, List.foldl_cons, List.foldl_nil, dig_byte u h]; omega
  · rename_i h
    have := ih (u / 10) (by omega)
    unfold decN at this ⊢
    rw [List.foldl_append, this]
    simp only [List.foldl_cons, List.foldl_nil, dig_byte (u % 10) (by omega)]; omega
theorem dec_head (u : Nat) : ∃ c r, Lib.decDigits u = c :: r ∧ (1 ≤ u → c ≠ 48) ∧ (u < 10 → r = []) := by
  induction u using Nat.strongRecOn with
  | ind u ih =>
  rw [Lib.decDigits]
  split
  · rename_i h
    refine ⟨_, _, rfl, fun h1 e => ?_, fun _ => rfl⟩
    have := congrArg UInt8.toNat e
    rw [dig_byte u h] at this
    have h48 : (48 : UInt8).toNat = 48 := rfl
    omega
  · rename_i h
    obtain ⟨c, r, h1, h2, h3⟩ := ih (u / 10) (by omega)
    exact ⟨c, r ++ _, by rw [h1]; rfl, fun _ => h2 (by omega), fun hh => absurd hh h⟩
theorem best_take (l : Bs) : bestM l = bestM (l.take 2) := by
  suffices H : ∀ (ms : List Bs), (∀ m, m ∈ ms → m.length ≤ 2) → ∀ b, bestF ms b l = bestF ms b (l.take 2) from H markList marks_short 0
  have hp : ∀ (m : Bs), m.length ≤ 2 → m.isPrefixOf l = m.isPrefixOf (l.take 2) := by
    intro m hm
    match m, l with
    | [], _ => simp
    | [a], [] => rfl
    | [a], b :: r => simp [List.isPrefixOf]
    | [a, a'], [] => rfl
    | [a, a'], [b] => rfl
    | [a, a'], b :: b' :: r => simp [List.isPrefixOf]
  intro ms
  induction ms with
  | nil => intro _ b; rfl
  | cons m ms ih =>
    intro h b
    simp only [bestF, hp m (h m (by simp))]
    exact ih (fun x hx => h x (by simp [hx])) _
theorem mark_facts : ∀ m, m ∈ markList → ∀ b, b ∈ [[], [32], [9], [10]] → bestM ((m ++ b).take 2) = m.length ∧ (match m with | [] => false | c :: _ => !(lowB c.toNat) && !(digB c.toNat) && !(blankB c) && (c != 47)) = true := by decide +kernel
theorem kw_facts : ∀ s, s ∈ kwList → (match s.data.toList with | [] => false | c :: r => lowB c.toNat && ((c :: r).all inn) && decide ((c :: r).length ≤ 16)) = true := by decide +kernel
theorem inB_mem {s : ByteArray} {l : List ByteArray} (h : inB s l = true) : s ∈ l := by
  apply Classical.byContradiction
  intro hn
  rw [inB_not.2 hn] at h; cases h
theorem dig_not_low {c : UInt8} (h : digB c.toNat = true) : lowB c.toNat = false := by
  simp only [lowB, digB, Bool.and_eq_true, decide_eq_true_eq, Bool.and_eq_false_iff, decide_eq_false_iff_not] at h ⊢; omega
theorem low_solid {c : UInt8} (h : lowB c.toNat = true ∨ digB c.toNat = true) : blankB c = false ∧ c ≠ 47 := by
  constructor
  · cases hb : blankB c with
    | false => rfl
    | true =>
      simp only [blankB, Bool.or_eq_true, beq_iff_eq] at hb
      rcases hb with (rfl | rfl) | rfl <;> revert h <;> decide
  · rintro rfl; revert h; decide
theorem skip_solid {c : UInt8} {r : Bs} (h : blankB c = false) (h2 : c ≠ 47) : skipL (c :: r) = c :: r := by
  rw [skipL_cons, if_neg (by rw [h]; decide), if_neg (fun h => h2 h.1)]
theorem text_eq (s : ByteArray) : (⟨s.data.toList.toArray⟩ : ByteArray) = s := Lib.mk_data s
theorem read_mark {l q : Bs} (hmem : l ∈ markList) (hq : Behind q) : l ≠ [] ∧ readL (l ++ q) = .tok 4 0 l.length ∧ skipL (l ++ q) = l ++ q := by
  have hbest : bestM (l ++ q) = l.length := by
    rw [best_take]
    match q, hq with
    | [], _ => exact (mark_facts l hmem [] (by simp)).1
    | x :: q, hq =>
      have hx := hq x rfl
      have hx2 : [x] ∈ ([[], [32], [9], [10]] : List Bs) := by
        simp only [blankB, Bool.or_eq_true, beq_iff_eq] at hx
        rcases hx with (rfl | rfl) | rfl <;> simp
      have h9 := (mark_facts l hmem [x] hx2).1
      have hne : 1 ≤ l.length := by
        have := (mark_facts l hmem [] (by simp)).2
        cases l with
        | nil => cases this
        | cons a r => simp
      have : (l ++ x :: q).take 2 = (l ++ [x]).take 2 := by
        rw [show l ++ x :: q = (l ++ [x]) ++ q by simp, List.take_append_of_le_length (by simp; omega)]
      rw [this]; exact h9
  have hc := (mark_facts l hmem [] (by simp)).2
  clear hmem
  cases l with
  | nil => cases hc
  | cons c r =>
    simp only [Bool.and_eq_true, Bool.not_eq_true', bne_iff_ne, ne_eq] at hc
    obtain ⟨⟨⟨c1, c2⟩, c3⟩, c4⟩ := hc
    rw [List.cons_append] at hbest ⊢
    have key : readL (c :: (r ++ q)) = if bestM (c :: (r ++ q)) = 0 then .err 5 else .tok 4 0 (bestM (c :: (r ++ q))) := by
      simp only [readL, c1, c2, Bool.false_eq_true, if_false]
    refine ⟨by simp, ?_, skip_solid c3 c4⟩
    rw [key, hbest]
    rfl
theorem read_valid {t : Tok} (h : vTok t = true) {q : Bs} (hq : Behind q) : t.text.data.toList ≠ [] ∧ readL (t.text.data.toList ++ q) = .tok t.kind t.num t.text.data.toList.length ∧ skipL (t.text.data.toList ++ q) = t.text.data.toList ++ q := by
  have hqi : ∀ x, q.head? = some x → inn x = false := fun x hx => inn_blank (hq x hx)
  unfold vTok at h
  split at h
  · rename_i hk
    simp only [Bool.and_eq_true, decide_eq_true_eq, beq_iff_eq] at h
    obtain ⟨⟨h0, h1⟩, h2⟩ := h
    obtain ⟨c, r, h3, h4, h5⟩ := dec_head t.num.toNat
    have hd := dec_dig t.num.toNat
    have hv := dec_val t.num.toNat
    rw [h2, h3] at *
    have hin : ∀ x, x ∈ c :: r → inn x = true := fun x hx => by have := hd x hx; simp [inn, folB, this]
    have htw := tw_all hin hqi
    have hdc := hd c (by simp)
    obtain ⟨hb, h47⟩ := low_solid (.inr hdc)
    refine ⟨by simp, ?_, ?_⟩
    · rw [List.cons_append] at htw ⊢
      simp only [readL, htw, dig_not_low hdc, hdc, hv, if_true, Bool.false_eq_true, if_false]
      rw [if_neg, if_neg (by omega)]
      · rw [hk]; congr 1; omega
      · rintro (ha | ⟨ha, rfl⟩)
        · have : ((c :: r).all fun x => digB x.toNat) = true := List.all_eq_true.2 hd
          rw [this] at ha; cases ha
        · by_cases h10 : t.num.toNat < 10
          · rw [h5 h10] at ha; simp at ha
          · exact h4 (by omega) rfl
    · rw [List.cons_append]; exact skip_solid hb h47
  · split at h
    · rename_i hk
      simp only [Bool.and_eq_true, decide_eq_true_eq] at h
      obtain ⟨h0, h1⟩ := h
      simp only [nameB, Bool.and_eq_true, decide_eq_true_eq, Bool.not_eq_true'] at h1
      obtain ⟨⟨hw, hz⟩, hkw⟩ := h1
      unfold wordB at hw
      have htx := text_eq t.text
      rw [Lib.size_eq] at hz
      generalize hl : t.text.data.toList = l at *
      match l, hw with
      | c :: r, hw =>
        simp only [wordL, Bool.and_eq_true] at hw
        have hin : ∀ x, x ∈ c :: r → inn x = true := fun x hx => List.all_eq_true.1 hw.2 x hx
        have htw := tw_all hin hqi
        obtain ⟨hb, h47⟩ := low_solid (.inl hw.1)
        refine ⟨by simp, ?_, ?_⟩
        · rw [List.cons_append] at htw ⊢
          simp only [readL, htw, hw.1, if_true]
          rw [if_neg (by omega), htx, hkw, hk, h0]; rfl
        · rw [List.cons_append]; exact skip_solid hb h47
    · split at h
      · rename_i hk
        simp only [Bool.and_eq_true, decide_eq_true_eq] at h
        obtain ⟨h0, h1⟩ := h
        have hf := kw_facts _ (inB_mem h1)
        have htx := text_eq t.text
        generalize hl : t.text.data.toList = l at *
        match l, hf with
        | c :: r, hf =>
          simp only [Bool.and_eq_true, decide_eq_true_eq] at hf
          obtain ⟨⟨hlow, hall⟩, hz⟩ := hf
          have hin : ∀ x, x ∈ c :: r → inn x = true := fun x hx => List.all_eq_true.1 hall x hx
          have htw := tw_all hin hqi
          obtain ⟨hb, h47⟩ := low_solid (.inl hlow)
          refine ⟨by simp, ?_, ?_⟩
          · rw [List.cons_append] at htw ⊢
            simp only [readL, htw, hlow, if_true]
            rw [if_neg (by omega), htx, h1, hk, h0]; rfl
          · rw [List.cons_append]; exact skip_solid hb h47
      · split at h
        · rename_i hk
          simp only [Bool.and_eq_true, decide_eq_true_eq] at h
          obtain ⟨h0, h1⟩ := h
          have hmem : t.text.data.toList ∈ markList := by simpa using h1
          rw [hk, h0]
          exact read_mark hmem hq
        · cases h
end Go.Proofs.YteopfpebdalcoaaGreatDoor
namespace Go.Proofs.YteopfpebdalcoaaGreatDoor
open Go.RowKit
theorem skip_blank {c : UInt8} {r : Bs} (hc : blankB c = true) : skipL (c :: r) = skipL r := by rw [skipL_cons, if_pos hc]
theorem toks_skip {N : Int} {l : Bs} : toksN N (skipL l) = toksN N l := by
  rw [toksN_step, toksN_step N l, skip_idem]
def joinL : List Tok → Bs
  | [] => []
  | [t] => t.text.data.toList
  | t :: u :: r => t.text.data.toList ++ 32 :: joinL (u :: r)
theorem inn_ne {x : UInt8} (h : inn x = true) : x ≠ 10 := by rintro rfl; revert h; decide
theorem text_flat {t : Tok} (h : vTok t = true) : t.text.data.toList.count 10 = 0 := by
  rw [List.count_eq_zero]
  intro hx
  unfold vTok at h
  split at h
  · simp only [Bool.and_eq_true, beq_iff_eq] at h
    have := dec_dig t.num.toNat 10 (h.2 ▸ hx)
    revert this; decide
  · split at h
    · simp only [Bool.and_eq_true] at h
      have hw := h.2
      simp only [nameB, Bool.and_eq_true, wordB] at hw
      generalize t.text.data.toList = l at *
      match l, hw.1.1 with
      | c :: r, hw2 =>
        simp only [wordL, Bool.and_eq_true] at hw2
        exact inn_ne (List.all_eq_true.1 hw2.2 10 hx) rfl
    · split at h
      · simp only [Bool.and_eq_true] at h
        have hf := kw_facts _ (inB_mem h.2)
        generalize t.text.data.toList = l at *
        match l, hf with
        | c :: r, hf =>
          simp only [Bool.and_eq_true] at hf
          exact inn_ne (List.all_eq_true.1 hf.1.2 10 hx) rfl
      · split at h
        · simp only [Bool.and_eq_true] at h
          exact marks_plain _ (by simpa using h.2) 10 hx rfl
        · cases h
end Go.Proofs.YteopfpebdalcoaaGreatDoor
namespace Go.Proofs.YteopfpebdalcoaaGreatDoor
open Go.RowKit
end Go.Proofs.YteopfpebdalcoaaGreatDoor
namespace Go.Proofs.YteopfpebdalcoaaGreatDoor
open Go.RowKit
def bs (l : Bs) : ByteArray := ⟨l.toArray⟩
theorem bs_list (l : Bs) : (bs l).data.toList = l := by simp [bs]
theorem bs_self (s : ByteArray) : bs s.data.toList = s := Lib.mk_data s
theorem bs_size (l : Bs) : (bs l).size = l.length := by rw [Lib.size_eq, bs_list]
theorem bs_take (l : Bs) (n : Nat) : (bs l).extract 0 n = bs (l.take n) := by rw [Lib.extract_eq, bs_list]; rfl
theorem bs_drop (l : Bs) (n : Nat) : (bs l).extract n (bs l).size = bs (l.drop n) := by
  rw [Lib.extract_eq, bs_list, bs_size]
  unfold bs
  rw [List.take_of_length_le (by simp)]
theorem bs_inj {a b : Bs} : bs a = bs b ↔ a = b := ⟨fun h => by rw [← bs_list a, ← bs_list b, h], fun h => by rw [h]⟩
theorem bs_nil : bs [] = ⟨#[]⟩ := rfl
theorem bs_append (a b : Bs) : bs a ++ bs b = bs (a ++ b) := by
  apply ByteArray.ext; apply Array.ext'; simp [bs]
theorem bs_dec (a b : Bs) : decide (bs a = bs b) = decide (a = b) := by rw [decide_eq_decide]; exact bs_inj
theorem bs_at (l : Bs) (i : Nat) : (bs l).data.toList[i]? = l[i]? := by rw [bs_list]
end Go.Proofs.YteopfpebdalcoaaGreatDoor
