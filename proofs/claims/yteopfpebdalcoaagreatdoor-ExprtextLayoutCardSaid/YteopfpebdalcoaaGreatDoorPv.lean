/-
  The tokens that the lexer finds: all are valid; and those of a source in parentheses. No program is in sight here.
-/
import Derived.Test.YteopfpebdalcoaaGreatDoorPu
import Derived.Test.YteopfpebdalcoaaGreatDoorBs
set_option linter.unusedVariables false
set_option linter.unusedSimpArgs false
set_option linter.unusedSectionVars false
namespace Go.Proofs.YteopfpebdalcoaaGreatDoor
open Go.RowKit
theorem decN_snoc (l : Bs) (d : UInt8) : decN (l ++ [d]) = 10 * decN l + (d.toNat - 48) := by
  unfold decN; rw [List.foldl_append]; rfl
theorem decN_ge : ∀ (l : Bs) (n : Nat), n ≤ l.foldl (fun n c => 10 * n + (c.toNat - 48)) n
  | [], n => Nat.le_refl _
  | c :: l, n => Nat.le_trans (by omega) (decN_ge l (10 * n + (c.toNat - 48)))
theorem dec_back : ∀ (k : Nat) (l : Bs), l.length = k + 1 → (∀ x, x ∈ l → digB x.toNat = true) → (1 < l.length → l.head? ≠ some 48) → Lib.decDigits (decN l) = l := by
  intro k
  induction k with
  | zero =>
    intro l hl hd _
    match l, hl with
    | [d], _ =>
      have := hd d (by simp)
      simp only [digB, Bool.and_eq_true, decide_eq_true_eq] at this
      have e : decN [d] = d.toNat - 48 := by simp [decN]
      rw [e, Lib.decDigits, dif_pos (by omega)]
      congr 1
      rw [← UInt8.toNat_inj, dig_byte _ (by omega)]
      omega
  | succ k ih =>
    intro l hl hd hz
    obtain ⟨x, d, rfl⟩ : ∃ x d, l = x ++ [d] := by
      rcases List.eq_nil_or_concat l with h | ⟨x, d, h⟩
      · rw [h] at hl; simp at hl
      · exact ⟨x, d, by rw [h]; simp⟩
    have hxl : x.length = k + 1 := by simpa using hl
    have hdd := hd d (by simp)
    simp only [digB, Bool.and_eq_true, decide_eq_true_eq] at hdd
    have hx := ih x hxl (fun y hy => hd y (by simp [hy])) (fun h1 h2 => hz (by simp; omega) (by
      cases x with
      | nil => simp at hxl
      | cons a x => simpa using h2))
    have hpos : 1 ≤ decN x := by
      match x, hxl with
      | a :: r, _ =>
        have ha := hd a (by simp)
        simp only [digB, Bool.and_eq_true, decide_eq_true_eq] at ha
        have hne : a ≠ 48 := fun e => hz (by simp) (by simp [e])
        have h49 : 49 ≤ a.toNat := by
          apply Classical.byContradiction
          intro hh
          exact hne (by rw [← UInt8.toNat_inj]; show a.toNat = 48; omega)
        have := decN_ge r (10 * 0 + (a.toNat - 48))
        show 1 ≤ (a :: r).foldl _ 0
        rw [List.foldl_cons]
        omega
    rw [decN_snoc, Lib.decDigits, dif_neg (by omega)]
    have e1 : (10 * decN x + (d.toNat - 48)) / 10 = decN x := by omega
    have e2 : (10 * decN x + (d.toNat - 48)) % 10 = d.toNat - 48 := by omega
    rw [e1, e2, hx]
    congr 2
    rw [← UInt8.toNat_inj, dig_byte _ (by omega)]
    omega
theorem dec_len9 : ∀ (k u : Nat), u < 10 ^ (k + 1) → (Lib.decDigits u).length ≤ k + 1
  | 0, u, h => by rw [Lib.decDigits, dif_pos (by omega)]; simp
  | k + 1, u, h => by
    rw [Lib.decDigits]
    split
    · simp
    · have := dec_len9 k (u / 10) (by rw [Nat.pow_succ] at h; omega)
      simp; omega
theorem read_vtok {c : UInt8} {r : Bs} {kd n : Int} {len : Nat} (N : Int) (h : readL (c :: r) = .tok kd n len) : vTok (cutTok N (c :: r) kd n len) = true ∧ len ≤ 16 := by
  have htake : ∀ (p : UInt8 → Bool), (c :: r).take ((c :: r).takeWhile p).length = (c :: r).takeWhile p := fun p => (List.prefix_iff_eq_take.1 (List.takeWhile_prefix p)).symm
  simp only [readL] at h
  split at h
  · rename_i hl
    split at h
    · cases h
    · rename_i h16
      cases h
      refine ⟨?_, by omega⟩
      unfold cutTok
      rw [htake]
      have hall : ∀ x, x ∈ (c :: r).takeWhile inn → inn x = true := fun x hx => by
        have := List.all_takeWhile (p := inn) (l := c :: r)
        exact List.all_eq_true.1 this x hx
      have hinc : inn c = true := by unfold inn folB; simp [hl]
      have hne : (c :: r).takeWhile inn = c :: r.takeWhile inn := List.takeWhile_cons_of_pos hinc
      have hw : wordB (⟨((c :: r).takeWhile inn).toArray⟩ : ByteArray) = true := by
        unfold wordB
        show wordL ((c :: r).takeWhile inn) = true
        rw [hne] at hall ⊢
        simp only [wordL, hl, Bool.true_and]
        rw [List.all_eq_true]
        exact hall
      by_cases hk : inB ⟨((c :: r).takeWhile inn).toArray⟩ kwList = true
      · rw [if_pos hk]
        unfold vTok
        simp [hk]
      · have hsz : (⟨((c :: r).takeWhile inn).toArray⟩ : ByteArray).size ≤ 16 := by rw [Lib.size_eq]; simpa using h16
        rw [if_neg hk]
        have hk2 : inB ⟨((c :: r).takeWhile inn).toArray⟩ kwList = false := by simpa using hk
        unfold vTok nameB
        simp only [hw, hk2, hsz, decide_true, Bool.and_self, Bool.not_false]
        rfl
  · split at h
    · rename_i hd
      split at h
      · cases h
      · rename_i h1
        split at h
        · cases h
        · rename_i h2
          cases h
          have hd2 : ∀ x, x ∈ (c :: r).takeWhile inn → digB x.toNat = true := fun x hx => by
            have : ((c :: r).takeWhile inn).all (fun x => digB x.toNat) = true := by
              cases hh : ((c :: r).takeWhile inn).all fun x => digB x.toNat with
              | true => rfl
              | false => exact absurd (.inl hh) h1
            exact List.all_eq_true.1 this x hx
          have hne : (c :: r).takeWhile inn = c :: r.takeWhile inn := List.takeWhile_cons_of_pos (by unfold inn folB; simp [hd])
          have hz : 1 < ((c :: r).takeWhile inn).length → ((c :: r).takeWhile inn).head? ≠ some 48 := fun hh e => by
            rw [hne] at e
            simp at e
            exact h1 (.inr ⟨hh, e⟩)
          have hb := dec_back (r.takeWhile inn).length _ (by rw [hne]; rfl) hd2 hz
          have hlen : ((c :: r).takeWhile inn).length ≤ 16 := by
            have := dec_len9 9 (decN ((c :: r).takeWhile inn)) (by omega)
            rw [hb] at this
            omega
          refine ⟨?_, hlen⟩
          unfold cutTok
          rw [htake]
          unfold vTok
          simp [hb]
          omega
    · split at h
      · cases h
      · rename_i hb
        cases h
        rcases best_in markList 0 (c :: r) with h1 | ⟨m, h1, h2, h3⟩
        · exact absurd h1 hb
        · have h5 := marks_short m h1
          have h6 : bestM (c :: r) = m.length := h3
          refine ⟨?_, by rw [h6]; omega⟩
          unfold cutTok
          rw [h6, ← List.prefix_iff_eq_take.1 (List.isPrefixOf_iff_prefix.1 h2)]
          unfold vTok
          simp [h1]
theorem toks_vtok : ∀ (k : Nat) (N : Int) (l : Bs) (ts : List Tok), l.length ≤ k → toksN N l = .ok ts → (∀ t, t ∈ ts → vTok t = true ∧ t.text.size ≤ 16) ∧ ts.length ≤ l.length := by
  intro k
  induction k with
  | zero =>
    intro N l ts h ht
    have : l = [] := List.eq_nil_of_length_eq_zero (by omega)
    subst this
    rw [toksN_step, skipL_nil] at ht
    cases ht; simp
  | succ k ih =>
    intro N l ts h ht
    rw [toksN_step] at ht
    have hs := (skip_suffix l).length_le
    cases hsk : skipL l with
    | nil => rw [hsk] at ht; cases ht; simp
    | cons c r =>
      rw [hsk] at ht hs
      simp only at ht
      cases hrd : readL (c :: r) with
      | err e => rw [hrd] at ht; cases ht
      | tok kd n len =>
        obtain ⟨g1, g2⟩ := read_len hrd
        obtain ⟨v1, v2⟩ := read_vtok N hrd
        rw [hrd] at ht
        simp only at ht
        have hdl := List.length_drop (l := c :: r) (i := len)
        cases hq : toksN N ((c :: r).drop len) with
        | err x e => rw [hq] at ht; cases ht
        | ok us =>
          rw [hq] at ht
          cases ht
          obtain ⟨i1, i2⟩ := ih N _ us (by omega) hq
          refine ⟨fun t ht => ?_, by simp only [List.length_cons] at *; omega⟩
          rcases List.mem_cons.1 ht with rfl | ht
          · refine ⟨v1, ?_⟩
            unfold cutTok
            rw [Lib.size_eq]
            simp only [List.length_take]
            simp
            omega
          · exact i1 t ht
theorem toks_good9 {l : Bs} {ts : List Tok} (h : toksL l = .ok ts) : (∀ t, t ∈ ts → vTok t = true ∧ t.text.size ≤ 16) ∧ ts.length ≤ l.length := toks_vtok _ _ l ts (Nat.le_refl _) h
theorem toks_paren {s : Bs} {ts : List Tok} (h : toksL s = .ok ts) : ∃ n, toksL (40 :: (s ++ [10, 41])) = .ok (tm (mark1 40) :: (ts ++ [⟨4, 0, mark1 41, n⟩])) := by
  have hc : (40 :: (s ++ [10, 41]) : Bs).count 10 = s.count 10 + 1 := by
    rw [List.count_cons_of_ne (by decide), List.count_append]; rfl
  have hm := toks_more s.length (1 + ((s.count 10 + 1 : Nat) : Int)) s [41] ts (Nat.le_refl _) (by
    have : (1 + ((s.count 10 + 1 : Nat) : Int)) - ((10 :: [41] : Bs).count 10 : Nat) = 1 + (s.count 10 : Nat) := by
      rw [show (10 :: [41] : Bs).count 10 = 1 by decide]; omega
    rw [this]; exact h)
  have h41 : ∀ N : Int, toksN N [41] = .ok [⟨4, 0, mark1 41, N⟩] := fun N => by
    rw [toksN_step]
    have e1 : skipL [41] = [41] := by decide
    have e2 : readL [41] = .tok 4 0 1 := by
      simp only [readL]
      have hb1 : bestM [41] = 1 := by decide +kernel
      rw [if_neg (by decide), if_neg (by decide), hb1]
      rfl
    rw [e1]
    simp only [e2]
    rw [show ([41] : Bs).drop 1 = [] from rfl, toksN_step, skipL_nil]
    simp only [Lx.cons, cutTok]
    rw [show ([41] : Bs).count 10 = 0 by decide]
    simp [mark1]
  rw [h41] at hm
  refine ⟨1 + ((s.count 10 + 1 : Nat) : Int), ?_⟩
  have hb : bestM (40 :: (s ++ [10, 41])) = 1 := by
    rcases best_in markList 0 (40 :: (s ++ [10, 41])) with h1 | ⟨m, h1, h2, h3⟩
    · exfalso
      have : ∀ (ms : List Bs) (b : Nat) (l : Bs), b ≤ bestF ms b l ∧ ∀ m, m ∈ ms → m.isPrefixOf l = true → m.length ≤ bestF ms b l := by
        intro ms
        induction ms with
        | nil => intro b l; exact ⟨Nat.le_refl _, fun m hm => by cases hm⟩
        | cons x ms ih =>
          intro b l
          simp only [bestF]
          split
          · rename_i hx
            obtain ⟨i1, i2⟩ := ih x.length l
            refine ⟨by omega, fun m hm hp => ?_⟩
            rcases List.mem_cons.1 hm with rfl | hm
            · exact i1
            · exact i2 m hm hp
          · rename_i hx
            obtain ⟨i1, i2⟩ := ih b l
            refine ⟨i1, fun m hm hp => ?_⟩
            rcases List.mem_cons.1 hm with rfl | hm
            · have : ¬ b < m.length := fun hb => hx ⟨hb, hp⟩
              omega
            · exact i2 m hm hp
      have := (this markList 0 (40 :: (s ++ [10, 41]))).2 [40] (by decide) (by simp [List.isPrefixOf])
      rw [h1] at this
      simp at this
    · unfold bestM
      rw [h3]
      have key : ∀ m, m ∈ markList → m = [40] ∨ (match m with | [] => false | a :: _ => a != 40) = true := by decide +kernel
      rcases key m h1 with h | h
      · rw [h]; rfl
      · cases m with
        | nil => cases h
        | cons a r =>
          simp only [List.isPrefixOf, Bool.and_eq_true, beq_iff_eq] at h2
          rw [h2.1] at h
          cases h
  have hr : readL (40 :: (s ++ [10, 41])) = .tok 4 0 1 := by
    simp only [readL]
    rw [if_neg (by decide), if_neg (by decide), hb]
    rfl
  unfold toksL
  rw [hc, toksN_step, skip_solid (by decide) (by decide)]
  simp only [hr]
  rw [show (40 :: (s ++ [10, 41]) : Bs).drop 1 = s ++ 10 :: [41] from rfl, hm]
  simp only [Lx.app, Lx.cons, cutTok, hc]
  rw [show 1 + ((s.count 10 + 1 : Nat) : Int) - ((s.count 10 + 1 : Nat) : Int) = 1 by omega]
  rfl
end Go.Proofs.YteopfpebdalcoaaGreatDoor
