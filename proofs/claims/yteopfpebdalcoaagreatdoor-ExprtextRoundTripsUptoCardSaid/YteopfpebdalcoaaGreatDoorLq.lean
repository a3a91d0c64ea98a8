/-
  The text of a valid expression has its tokens. No program is in sight here.
-/
import Derived.Test.YteopfpebdalcoaaGreatDoorLp
set_option linter.unusedVariables false
set_option linter.unusedSimpArgs false
set_option linter.unusedSectionVars false
namespace Go.Proofs.YteopfpebdalcoaaGreatDoor
open Go.RowKit
theorem good_solo {c : UInt8} (h : c ∈ soloM) {X : It} {q : Bs} (hk : Kq (txt X ++ q)) (hX : good X q) : good (some (tm (mark1 c)) :: X) q := ⟨fine_solo h hk, hX⟩
theorem good_blank {t : Tok} (h : vTok t = true) {X : It} {q : Bs} (hX : good X q) : good (some t :: none :: X) q := ⟨fine_blank h _, hX⟩
theorem good_word {t : Tok} (h : vTok t = true) (hk : t.kind ≠ 4) {X : It} {q : Bs} (hq : Hq (txt X ++ q)) (hX : good X q) : good (some t :: X) q := ⟨fine_word h hk hq, hX⟩
structure GT (X : It) : Prop where
  g : ∀ q, Hq q → good X q
  h : Hd X
theorem gt_solo {c : UInt8} (h : c ∈ soloM) {X : It} (hX : GT X) : GT (some (tm (mark1 c)) :: X) :=
  ⟨fun q hq => good_solo h (hX.h.q q) (hX.g q hq), hd_solo h _⟩
theorem gt_at (k : Nat) {o : Int} {X : It} (hX : GT X) : GT (itAt k (o, X)) := by
  unfold itAt
  simp only
  split
  · refine ⟨fun q hq => good_solo (by decide) ?_ (good_app _ _ q (hX.g _ (hq_cons (by decide))) (good_solo (by decide) ?_ trivial)), hd_solo (by decide) _⟩
    · rw [txt_app, List.append_assoc]; exact hX.h.q _
    · exact hq.k
  · exact hX
theorem gt_mid {X Y : It} {m : ByteArray} (hm : vTok (tm m) = true) (hX : GT X) (hY : GT Y) : GT (X ++ none :: some (tm m) :: none :: Y) :=
  ⟨fun q hq => good_app _ _ q (hX.g _ (hq_cons (by decide))) (good_blank hm (hY.g q hq)), hX.h.app _⟩
theorem gt_pairs : ∀ (l : List (Int × It)), (∀ a, a ∈ l → GT a.2) → ∀ q, Hq q → good (itPairs l) q
  | [], _, _, _ => trivial
  | [_], _, _, _ => trivial
  | [a, b], h, q, hq => (gt_mid (tm_ok (mark2 46 46) (by simp)) (h a (by simp)) (h b (by simp))).g q hq
  | a :: b :: c :: r, h, q, hq => by
    have ih := gt_pairs (c :: r) (fun x hx => h x (by simp only [List.mem_cons] at hx ⊢; exact .inr (.inr hx))) q hq
    refine good_app _ _ q ((h a (by simp)).g _ (hq_cons (by decide))) (good_blank (tm_ok (mark2 46 46) (by simp)) ?_)
    refine good_app _ _ q ((h b (by simp)).g _ (hq_cons (by decide))) ?_
    exact good_blank (tm_ok (mark1 44) (by simp)) ih
theorem vtok_tn {s : ByteArray} (h : nameB s = true) : vTok (tn s) = true := by
  unfold vTok tn; simp [h]
theorem vtok_td {n : Int} (h0 : 0 ≤ n) (h1 : n ≤ 65535) : vTok (td n) = true := by
  unfold vTok td decS
  simp only [if_true, Bool.and_eq_true, decide_eq_true_eq, beq_iff_eq]
  exact ⟨⟨h0, by omega⟩, by simp⟩
theorem ne_tn (s : ByteArray) : (tn s).kind ≠ 4 := by show (1 : Int) ≠ 4; decide
theorem ne_td (n : Int) : (td n).kind ≠ 4 := by show (3 : Int) ≠ 4; decide
theorem gt_word {t : Tok} (h : vTok t = true) (hk : t.kind ≠ 4) : GT [some t] :=
  ⟨fun q hq => good_word h hk hq trivial, hd_word h hk _⟩
theorem gt_all (e : Ex) : errE e = 0 → GT (itE e) := by
  induction e using Ex.ind with
  | h o n s l ih =>
  intro he
  obtain ⟨hnode, hargs⟩ := errE_parts he
  obtain ⟨o1, o25, hc, hop, hvar, hname, hn0, hs0⟩ := node_facts hnode
  have hrt : ∀ a, a ∈ l → GT (itE a) := fun a ha => ih a ha (hargs a ha)
  by_cases c1 : o = 1
  · subst c1
    obtain ⟨h0, h1⟩ := hc rfl
    show GT [some (td n)]
    exact gt_word (vtok_td h0 h1) (ne_td _)
  by_cases c2 : o = 2
  · subst c2
    have hv := hvar rfl
    show GT ((varTk s).map some)
    by_cases hel : elemB s = true
    · obtain ⟨g1, g2, g3, g4⟩ := elem_name hel
      rw [show varTk s = [tn (cutA s 91), tm (mark1 64), td (elemDig s)] from if_pos hel]
      have h1 := gt_word (vtok_td g2 (by omega)) (ne_td _)
      have h2 := gt_solo (c := 64) (by decide) h1
      exact ⟨fun q hq => good_word (vtok_tn g1) (ne_tn _) (hq_cons (by decide)) (h2.g q hq), hd_word (vtok_tn g1) (ne_tn _) _⟩
    · have hnm : nameB s = true := by
        unfold isVarB at hv
        rw [Bool.or_eq_true] at hv
        exact hv.resolve_left hel
      rw [show varTk s = [tn s] from if_neg hel]
      exact gt_word (vtok_tn hnm) (ne_tn _)
  by_cases c3 : o = 3
  · subst c3
    have hnm := hname (.inl rfl)
    have hl : l.length = 1 := by have : (l.length : Int) = 1 := by simpa [operB, arity] using hop
                                 omega
    obtain ⟨x, rfl⟩ := List.length_eq_one_iff.1 hl
    have hx := hrt x (by simp)
    show GT (some (tn s) :: some (tm (mark1 91)) :: (itE x ++ [some (tm (mark1 93))]))
    refine ⟨fun q hq => good_word (vtok_tn hnm) (ne_tn _) (hq_cons (by decide)) (good_solo (by decide) ?_ (good_app _ _ q (hx.g _ (hq_cons (by decide))) (good_solo (by decide) hq.k trivial))), hd_word (vtok_tn hnm) (ne_tn _) _⟩
    rw [txt_app, List.append_assoc]; exact hx.h.q _
  by_cases c24 : o = 24
  · subst c24
    have hnm := hname (.inr rfl)
    show GT [some (tn sumW), some (tm (mark1 40)), some (tn s), some (tm (mark1 41))]
    have hsw : nameB sumW = true := by decide +kernel
    refine ⟨fun q hq => good_word (vtok_tn hsw) (ne_tn _) (hq_cons (by decide)) (good_solo (by decide) ?_ (good_word (vtok_tn hnm) (ne_tn _) (hq_cons (by decide)) (good_solo (by decide) hq.k trivial))), hd_word (vtok_tn hsw) (ne_tn _) _⟩
    exact (hd_word (vtok_tn hnm) (ne_tn _) _).q _
  by_cases c25 : o = 25
  · subst c25
    have hl : l.length = 1 := by have : (l.length : Int) = 1 := by simpa [operB, arity] using hop
                                 omega
    obtain ⟨x, rfl⟩ := List.length_eq_one_iff.1 hl
    have hx := hrt x (by simp)
    have how : nameB onesW = true := by decide +kernel
    show GT (some (tn onesW) :: some (tm (mark1 40)) :: (itE x ++ [some (tm (mark1 41))]))
    refine ⟨fun q hq => good_word (vtok_tn how) (ne_tn _) (hq_cons (by decide)) (good_solo (by decide) ?_ (good_app _ _ q (hx.g _ (hq_cons (by decide))) (good_solo (by decide) hq.k trivial))), hd_word (vtok_tn how) (ne_tn _) _⟩
    rw [txt_app, List.append_assoc]; exact hx.h.q _
  by_cases c456 : o = 4 ∨ o = 5 ∨ o = 6
  · have hl : l.length = 1 := by
      have : (l.length : Int) = 1 := by
        rcases c456 with rfl | rfl | rfl <;> simpa [operB, arity] using hop
      omega
    obtain ⟨x, rfl⟩ := List.length_eq_one_iff.1 hl
    have hx := gt_at 13 (o := x.op) (hrt x (by simp))
    rcases c456 with rfl | rfl | rfl
    · exact gt_solo (c := 33) (by decide) hx
    · exact gt_solo (c := 126) (by decide) hx
    · exact gt_solo (c := 45) (by decide) hx
  by_cases c22 : o = 22
  · subst c22
    have hl : l.length = 3 := by have : (l.length : Int) = 3 := by simpa [operB, arity] using hop
                                 omega
    match l, hl with
    | [x, y, z], _ =>
      exact gt_mid (tm_ok (mark1 63) (by simp)) (gt_at 2 (o := x.op) (hrt x (by simp))) (gt_mid (tm_ok (mark1 58) (by simp)) (gt_at 1 (o := y.op) (hrt y (by simp))) (gt_at 1 (o := z.op) (hrt z (by simp))))
  by_cases c23 : o = 23
  · subst c23
    have hl : l.length % 2 = 1 ∧ 3 ≤ l.length := by
      have : (decide (l.length % 2 = 1) && decide (3 ≤ l.length) && decide (l.length ≤ 33)) = true := by simpa [operB] using hop
      simp only [Bool.and_eq_true, decide_eq_true_eq] at this
      exact this.1
    match l, hl with
    | x :: m, ⟨h1, h2⟩ =>
      have hx := gt_at 9 (o := x.op) (hrt x (by simp))
      show GT (itAt 9 (x.op, itE x) ++ none :: some (tw insideW) :: none :: some (tm (mark1 123)) :: none :: (itPairs (itEs m) ++ [none, some (tm (mark1 125))]))
      refine ⟨fun q hq => good_app _ _ q (hx.g _ (hq_cons (by decide))) (good_blank inside_ok (good_blank (tm_ok (mark1 123) (by simp)) ?_)), hx.h.app _⟩
      refine good_app _ _ q (gt_pairs _ ?_ _ (hq_cons (by decide))) (good_solo (by decide) hq.k trivial)
      intro a ha
      rw [itEs_map] at ha
      obtain ⟨b, hb, rfl⟩ := List.mem_map.1 ha
      exact hrt b (by simp [hb])
  have hl : l.length = 2 := by
    have : (l.length : Int) = 2 := by
      have h1 : (l.length : Int) = arity o := by unfold operB at hop; rw [if_neg c23] at hop; exact of_decide_eq_true hop
      rw [h1]
      unfold arity
      rw [if_neg (by omega), if_neg (by omega), if_neg c22, if_neg c23, if_neg (by omega)]
    omega
  match l, hl with
  | [x, y], _ =>
    obtain ⟨k, hk⟩ := Int.eq_ofNat_of_zero_le (show 0 ≤ o by omega)
    have hb := ops_bin k (by omega) (by omega)
    rw [← hk] at hb
    obtain ⟨⟨m, p⟩, hp⟩ := Option.isSome_iff_exists.1 hb
    show GT (itNode o n s [(x.op, itE x), (y.op, itE y)])
    unfold itNode
    rw [hp]
    exact gt_mid (bin_ok _ (binL_some hp)) (gt_at _ (o := x.op) (hrt x (by simp))) (gt_at _ (o := y.op) (hrt y (by simp)))
theorem line_toks (e : Ex) : (toksE e).map (fun t => (⟨t.kind, t.num, t.text, 1⟩ : Tok)) = toksE e := by
  have : ∀ t, t ∈ toksE e → (⟨t.kind, t.num, t.text, 1⟩ : Tok) = t := by
    suffices H : ∀ e : Ex, ∀ t, t ∈ toksE e → t.line = 1 from fun t ht => by have := H e t ht; cases t; simp only at this; rw [this]
    have at1 : ∀ (k : Nat) (a : Int × List Tok), (∀ t, t ∈ a.2 → t.line = 1) → ∀ t, t ∈ tkAt k a → t.line = 1 := by
      intro k a h t ht
      unfold tkAt at ht
      split at ht
      · simp only [List.mem_cons, List.mem_append, List.not_mem_nil, or_false] at ht
        rcases ht with rfl | ht | rfl
        · rfl
        · exact h t ht
        · rfl
      · exact h t ht
    have pairs1 : ∀ (l : List (Int × List Tok)), (∀ a, a ∈ l → ∀ t, t ∈ a.2 → t.line = 1) → ∀ t, t ∈ tkPairs l → t.line = 1 := by
      intro l
      induction l using tkPairs.induct with
      | case1 => intro _ t ht; cases ht
      | case2 => intro _ t ht; cases ht
      | case3 a b =>
        intro h t ht
        simp only [tkPairs, List.mem_append, List.mem_cons] at ht
        rcases ht with ht | rfl | ht
        · exact h a (by simp) t ht
        · rfl
        · exact h b (by simp) t ht
      | case4 a b c r ih =>
        intro h t ht
        simp only [tkPairs, List.mem_append, List.mem_cons] at ht
        rcases ht with ht | rfl | ht | rfl | ht
        · exact h a (by simp) t ht
        · rfl
        · exact h b (by simp) t ht
        · rfl
        · exact ih (fun x hx => h x (by simp only [List.mem_cons] at hx ⊢; exact .inr (.inr hx))) t ht
    intro e
    induction e using Ex.ind with
    | h o n s l ih =>
    have hd : ∀ i, ∀ t, t ∈ ((toksEs l).getD i (1, [])).2 → t.line = 1 := by
      intro i t ht
      rw [toksEs_map, List.getD_eq_getElem?_getD, List.getElem?_map] at ht
      cases h : l[i]? with
      | none => rw [h] at ht; simp at ht
      | some a => rw [h] at ht; exact ih a (List.mem_of_getElem? h) t ht
    intro t ht
    show _
    replace ht : t ∈ tkNode o n s (toksEs l) := ht
    unfold tkNode at ht
    have hp := pairs1 (toksEs l).tail (fun a ha t ht => by
      have := List.mem_of_mem_tail ha
      rw [toksEs_map] at this
      obtain ⟨b, hb, rfl⟩ := List.mem_map.1 this
      exact ih b hb t ht)
    have hv : t ∈ varTk s → t.line = 1 := by
      intro h
      unfold varTk at h
      split at h
      · simp only [List.mem_cons, List.not_mem_nil, or_false] at h
        rcases h with rfl | rfl | rfl <;> rfl
      · simp only [List.mem_cons, List.not_mem_nil, or_false] at h
        subst h; rfl
    cases hb : binL o with
    | some p =>
      rw [hb] at ht
      simp only [List.mem_append, List.mem_cons] at ht
      rcases ht with ht | rfl | ht
      · exact at1 _ _ (hd 0) t ht
      · rfl
      · exact at1 _ _ (hd 1) t ht
    | none =>
      rw [hb] at ht
      simp only at ht
      repeat' split at ht
      all_goals first
        | exact hv ht
        | (simp only [List.mem_append, List.mem_cons, List.not_mem_nil, or_false] at ht
           rcases ht with ht | ht | ht | ht | ht <;> first | (subst ht; rfl) | exact at1 _ _ (hd _) t ht | exact hd _ t ht | exact hp t ht)
        | (simp only [List.mem_append, List.mem_cons, List.not_mem_nil, or_false] at ht
           rcases ht with ht | ht | ht | ht <;> first | (subst ht; rfl) | exact at1 _ _ (hd _) t ht | exact hd _ t ht | exact hp t ht)
        | (simp only [List.mem_cons, List.not_mem_nil, or_false] at ht
           rcases ht with ht | ht <;> first | (subst ht; rfl) | exact at1 _ _ (hd _) t ht | exact hd _ t ht | exact hp t ht)
        | (simp only [List.mem_cons, List.not_mem_nil, or_false] at ht
           subst ht; rfl)
  conv => rhs; rw [← List.map_id (toksE e)]
  exact List.map_congr_left this
theorem text_toks {e : Ex} (h : errE e = 0) : toksL (textE e) = .ok (toksE e) := by
  obtain ⟨h1, h2⟩ := toks_good (itE e) 1 ((gt_all e h).g [] hq_nil)
  unfold toksL textE
  rw [h2]
  have := h1
  rw [tks_text, line_toks] at this
  exact this
theorem text_parse {e : Ex} (h : errE e = 0) : par .W (toksE e) = .ok e [] := by
  have := (rt_all e h).at_ 1 (by omega) (by omega) [] (stop_nil 1)
  rw [tk1, List.append_nil] at this
  exact this
end Go.Proofs.YteopfpebdalcoaaGreatDoor
