/-
  The text of an expression, and its tokens. No program is in sight here.
-/
import Derived.Test.YteopfpebdalcoaaGreatDoorPt2
set_option linter.unusedVariables false
set_option linter.unusedSimpArgs false
set_option linter.unusedSectionVars false
namespace Go.Proofs.YteopfpebdalcoaaGreatDoor
open Go.RowKit
abbrev It := List (Option Tok)
def txt : It → Bs
  | [] => []
  | none :: r => 32 :: txt r
  | some t :: r => t.text.data.toList ++ txt r
def tks : It → List Tok
  | [] => []
  | none :: r => tks r
  | some t :: r => t :: tks r
theorem txt_app : ∀ a b : It, txt (a ++ b) = txt a ++ txt b
  | [], b => rfl
  | none :: r, b => by simp only [List.cons_append, txt, txt_app r b]
  | some t :: r, b => by simp only [List.cons_append, txt, txt_app r b, List.append_assoc]
theorem tks_app : ∀ a b : It, tks (a ++ b) = tks a ++ tks b
  | [], b => rfl
  | none :: r, b => by simp only [List.cons_append, tks, tks_app r b]
  | some t :: r, b => by simp only [List.cons_append, tks, tks_app r b]
theorem tks_some : ∀ l : List Tok, tks (l.map some) = l
  | [] => rfl
  | t :: r => by simp only [List.map_cons, tks, tks_some r]
structure Fine (t : Tok) (q : Bs) : Prop where
  v : vTok t = true
  n : t.text.data.toList ≠ []
  r : readL (t.text.data.toList ++ q) = .tok t.kind t.num t.text.data.toList.length
  s : skipL (t.text.data.toList ++ q) = t.text.data.toList ++ q
def good : It → Bs → Prop
  | [], _ => True
  | none :: r, q => good r q
  | some t :: r, q => Fine t (txt r ++ q) ∧ good r q
theorem good_app : ∀ (a b : It) (q : Bs), good a (txt b ++ q) → good b q → good (a ++ b) q
  | [], _, _, _, h => h
  | none :: r, b, q, h, h2 => good_app r b q h h2
  | some t :: r, b, q, h, h2 => ⟨by have h1 := h.1; show Fine t (txt (r ++ b) ++ q); rw [txt_app, List.append_assoc]; exact h1, good_app r b q h.2 h2⟩
theorem toks_good : ∀ (X : It) (N : Int), good X [] → toksN N (txt X) = .ok ((tks X).map fun t => ⟨t.kind, t.num, t.text, N⟩) ∧ (txt X).count 10 = 0
  | [], N, _ => ⟨by show toksN N [] = _; rw [toksN_step, skipL_nil]; rfl, rfl⟩
  | none :: r, N, h => by
    obtain ⟨h1, h2⟩ := toks_good r N h
    refine ⟨?_, by simp only [txt]; rw [List.count_cons_of_ne (by decide)]; exact h2⟩
    simp only [txt, tks]
    rw [← toks_skip, skip_blank (by decide), toks_skip]
    exact h1
  | some t :: r, N, h => by
    obtain ⟨h1, h2⟩ := toks_good r N h.2
    have hf := h.1
    rw [List.append_nil] at hf
    have h0 := text_flat hf.v
    have h3 : (txt (some t :: r)).count 10 = 0 := by simp only [txt]; rw [List.count_append, h0, h2]
    refine ⟨?_, h3⟩
    have hs := hf.s
    have hr := hf.r
    have hn := hf.n
    have htx := text_eq t.text
    simp only [txt] at h3
    simp only [txt, tks, List.map_cons]
    rw [toksN_step, hs]
    have hlen : (t.text.data.toList ++ txt r).drop t.text.data.toList.length = txt r := by simp
    have htk : (t.text.data.toList ++ txt r).take t.text.data.toList.length = t.text.data.toList := by simp
    generalize hg : t.text.data.toList ++ txt r = g at *
    match g, hg with
    | [], hg => simp at hg; exact absurd hg.1 (by simpa using hn)
    | c :: g, hg =>
      simp only [hr]
      rw [hlen, h1]
      simp only [Lx.cons, cutTok, htk, htx, h3]
      congr 2
      congr 1
      omega
def Kq (q : Bs) : Prop := ∀ x, q.head? = some x → x ≠ 61 ∧ x ≠ 62
def Hq (q : Bs) : Prop := ∀ x, q.head? = some x → inn x = false ∧ x ≠ 61 ∧ x ≠ 62
theorem Hq.k {q : Bs} (h : Hq q) : Kq q := fun x hx => (h x hx).2
theorem hq_nil : Hq [] := fun x h => by simp at h
theorem hq_cons {c : UInt8} {q : Bs} (h : c ∈ [(32 : UInt8), 40, 41, 91, 93, 64, 44]) : Hq (c :: q) := by
  intro x hx
  simp only [List.head?_cons, Option.some.injEq] at hx
  subst hx
  exact (by decide : ∀ c, c ∈ [(32 : UInt8), 40, 41, 91, 93, 64, 44] → inn c = false ∧ c ≠ 61 ∧ c ≠ 62) c h
theorem fine_word {t : Tok} (h : vTok t = true) (hk : t.kind ≠ 4) {q : Bs} (hq : Hq q) : Fine t q := by
  have hqi : ∀ x, q.head? = some x → inn x = false := fun x hx => (hq x hx).1
  suffices H : t.text.data.toList ≠ [] ∧ readL (t.text.data.toList ++ q) = .tok t.kind t.num t.text.data.toList.length ∧ skipL (t.text.data.toList ++ q) = t.text.data.toList ++ q from ⟨h, H.1, H.2.1, H.2.2⟩
  unfold vTok at h
  split at h
  · rename_i hk
    simp only [Bool.and_eq_true, decide_eq_true_eq, beq_iff_eq] at h
    obtain ⟨⟨h0, h1⟩, h2⟩ := h
    obtain ⟨c, r, h3, h4, h5⟩ := dec_head t.num.toNat
    have hd := dec_dig t.num.toNat
    have hv := dec_val t.num.toNat
    rw [h2, h3] at *
    have hin : ∀ x, x ∈ c :: r → inn x = true := fun x hx => by have := hd x hx; simp [inn, folB, this]
    have htw := tw_all hin hqi
    have hdc := hd c (by simp)
    obtain ⟨hb, h47⟩ := low_solid (.inr hdc)
    refine ⟨by simp, ?_, ?_⟩
    · rw [List.cons_append] at htw ⊢
      simp only [readL, htw, dig_not_low hdc, hdc, hv, if_true, Bool.false_eq_true, if_false]
      rw [if_neg, if_neg (by omega)]
      · rw [hk]; congr 1; omega
      · rintro (ha | ⟨ha, rfl⟩)
        · have : ((c :: r).all fun x => digB x.toNat) = true := List.all_eq_true.2 hd
          rw [this] at ha; cases ha
        · by_cases h10 : t.num.toNat < 10
          · rw [h5 h10] at ha; simp at ha
          · exact h4 (by omega) rfl
    · rw [List.cons_append]; exact skip_solid hb h47
  · split at h
    · rename_i hk
      simp only [Bool.and_eq_true, decide_eq_true_eq] at h
      obtain ⟨h0, h1⟩ := h
      simp only [nameB, Bool.and_eq_true, decide_eq_true_eq, Bool.not_eq_true'] at h1
      obtain ⟨⟨hw, hz⟩, hkw⟩ := h1
      unfold wordB at hw
      have htx := text_eq t.text
      rw [Lib.size_eq] at hz
      generalize hl : t.text.data.toList = l at *
      match l, hw with
      | c :: r, hw =>
        simp only [wordL, Bool.and_eq_true] at hw
        have hin : ∀ x, x ∈ c :: r → inn x = true := fun x hx => List.all_eq_true.1 hw.2 x hx
        have htw := tw_all hin hqi
        obtain ⟨hb, h47⟩ := low_solid (.inl hw.1)
        refine ⟨by simp, ?_, ?_⟩
        · rw [List.cons_append] at htw ⊢
          simp only [readL, htw, hw.1, if_true]
          rw [if_neg (by omega), htx, hkw, hk, h0]; rfl
        · rw [List.cons_append]; exact skip_solid hb h47
    · split at h
      · rename_i hk
        simp only [Bool.and_eq_true, decide_eq_true_eq] at h
        obtain ⟨h0, h1⟩ := h
        have hf := kw_facts _ (inB_mem h1)
        have htx := text_eq t.text
        generalize hl : t.text.data.toList = l at *
        match l, hf with
        | c :: r, hf =>
          simp only [Bool.and_eq_true, decide_eq_true_eq] at hf
          obtain ⟨⟨hlow, hall⟩, hz⟩ := hf
          have hin : ∀ x, x ∈ c :: r → inn x = true := fun x hx => List.all_eq_true.1 hall x hx
          have htw := tw_all hin hqi
          obtain ⟨hb, h47⟩ := low_solid (.inl hlow)
          refine ⟨by simp, ?_, ?_⟩
          · rw [List.cons_append] at htw ⊢
            simp only [readL, htw, hlow, if_true]
            rw [if_neg (by omega), htx, h1, hk, h0]; rfl
          · rw [List.cons_append]; exact skip_solid hb h47
      · cases h
def soloM : List UInt8 := [40, 41, 91, 93, 123, 125, 64, 44, 33, 126, 45]
theorem solo_facts : ∀ c, c ∈ soloM → [c] ∈ markList ∧ bestM [c] = 1 ∧ vTok (tm (mark1 c)) = true ∧ lowB c.toNat = false ∧ digB c.toNat = false ∧ blankB c = false ∧ c ≠ 47 := by decide +kernel
theorem solo_best : ∀ c, c ∈ soloM → ∀ n : Nat, n < 256 → n ≠ 61 → n ≠ 62 → bestM [c, UInt8.ofNat n] = 1 := by decide +kernel
theorem fine_solo {c : UInt8} (h : c ∈ soloM) {q : Bs} (hq : Kq q) : Fine (tm (mark1 c)) q := by
  obtain ⟨h1, h2, h3, h4, h5, h6, h7⟩ := solo_facts c h
  have hb : bestM (c :: q) = 1 := by
    rw [best_take]
    match q, hq with
    | [], _ => exact h2
    | x :: q, hq =>
      have hx := hq x rfl
      have hl : x.toNat < 256 := x.toNat_lt
      have hx1 : x.toNat ≠ 61 := fun e => hx.1 (UInt8.toNat.inj e)
      have hx2 : x.toNat ≠ 62 := fun e => hx.2 (UInt8.toNat.inj e)
      have := solo_best c h x.toNat hl hx1 hx2
      rw [UInt8.ofNat_toNat] at this
      exact this
  refine ⟨h3, by simp [tm, mark1], ?_, skip_solid h6 h7⟩
  show readL (c :: q) = .tok 4 0 1
  simp only [readL, h4, h5, hb]
  rfl
theorem fine_blank {t : Tok} (h : vTok t = true) (q : Bs) : Fine t (32 :: q) := by
  have hb : Behind (32 :: q) := fun x hx => by simp only [List.head?_cons, Option.some.injEq] at hx; subst hx; decide
  obtain ⟨h1, h2, h3⟩ := read_valid h hb
  exact ⟨h, h1, h2, h3⟩
theorem txt_solo (c : UInt8) (X : It) : txt (some (tm (mark1 c)) :: X) = c :: txt X := rfl
structure Hd (X : It) : Prop where
  n : txt X ≠ []
  k : Kq (txt X)
theorem Hd.q {X : It} (h : Hd X) (q : Bs) : Kq (txt X ++ q) := by
  have h1 := h.n
  have h2 := h.k
  cases e : txt X with
  | nil => exact absurd e h1
  | cons c r => rw [e] at h2; exact fun x hx => h2 x hx
theorem Hd.app {X : It} (h : Hd X) (Y : It) : Hd (X ++ Y) := by
  refine ⟨by rw [txt_app]; simp [h.n], by rw [txt_app]; exact h.q _⟩
theorem hd_solo {c : UInt8} (h : c ∈ soloM) (X : It) : Hd (some (tm (mark1 c)) :: X) :=
  ⟨by rw [txt_solo]; simp, by
    intro x hx
    rw [txt_solo] at hx
    simp only [List.head?_cons, Option.some.injEq] at hx
    subst hx
    exact (by decide : ∀ c, c ∈ soloM → c ≠ 61 ∧ c ≠ 62) c h⟩
theorem hd_word {t : Tok} (h : vTok t = true) (hk : t.kind ≠ 4) (X : It) : Hd (some t :: X) := by
  have hf := fine_word h hk hq_nil
  have hn := hf.n
  have hr := hf.r
  refine ⟨by simp [txt, hn], ?_⟩
  simp only [txt]
  cases e : t.text.data.toList with
  | nil => exact absurd e hn
  | cons c r =>
    rw [e] at hr
    intro x hx
    simp only [List.cons_append, List.head?_cons, Option.some.injEq] at hx
    subst hx
    rw [List.append_nil] at hr
    simp only [readL] at hr
    have hne : ∀ c : UInt8, c = 61 ∨ c = 62 → lowB c.toNat = false ∧ digB c.toNat = false := by rintro c (rfl | rfl) <;> decide
    have : ¬ (c = 61 ∨ c = 62) := by
      intro hc
      obtain ⟨g1, g2⟩ := hne c hc
      simp only [g1, g2, Bool.false_eq_true, if_false] at hr
      split at hr
      · cases hr
      · injection hr with h1; exact hk h1.symm
    exact ⟨fun e => this (.inl e), fun e => this (.inr e)⟩
def itAt (k : Nat) (a : Int × It) : It := if levO a.1 < k then some (tm (mark1 40)) :: (a.2 ++ [some (tm (mark1 41))]) else a.2
def itPairs : List (Int × It) → It
  | [] => []
  | [_] => []
  | [a, b] => a.2 ++ none :: some (tm (mark2 46 46)) :: none :: b.2
  | a :: b :: c :: r => a.2 ++ none :: some (tm (mark2 46 46)) :: none :: (b.2 ++ some (tm (mark1 44)) :: none :: itPairs (c :: r))
def itNode (o n : Int) (s : ByteArray) (xs : List (Int × It)) : It := match binL o with
  | some (m, l) => itAt (if l = 2 then 3 else l) (xs.getD 0 (1, [])) ++ none :: some (tm m) :: none :: itAt (if l = 2 then 2 else l + 1) (xs.getD 1 (1, []))
  | none =>
    if o = 4 then some (tm (mark1 33)) :: itAt 13 (xs.getD 0 (1, []))
    else if o = 5 then some (tm (mark1 126)) :: itAt 13 (xs.getD 0 (1, []))
    else if o = 6 then some (tm (mark1 45)) :: itAt 13 (xs.getD 0 (1, []))
    else if o = 22 then itAt 2 (xs.getD 0 (1, [])) ++ none :: some (tm (mark1 63)) :: none :: (itAt 1 (xs.getD 1 (1, [])) ++ none :: some (tm (mark1 58)) :: none :: itAt 1 (xs.getD 2 (1, [])))
    else if o = 23 then itAt 9 (xs.getD 0 (1, [])) ++ none :: some (tw insideW) :: none :: some (tm (mark1 123)) :: none :: (itPairs xs.tail ++ [none, some (tm (mark1 125))])
    else if o = 1 then [some (td n)]
    else if o = 3 then some (tn s) :: some (tm (mark1 91)) :: ((xs.getD 0 (1, [])).2 ++ [some (tm (mark1 93))])
    else if o = 24 then [some (tn sumW), some (tm (mark1 40)), some (tn s), some (tm (mark1 41))]
    else if o = 25 then some (tn onesW) :: some (tm (mark1 40)) :: ((xs.getD 0 (1, [])).2 ++ [some (tm (mark1 41))])
    else (varTk s).map some
mutual
def itE : Ex → It
  | .mk o n s l => itNode o n s (itEs l)
def itEs : List Ex → List (Int × It)
  | [] => []
  | a :: r => (a.op, itE a) :: itEs r
end
theorem itEs_map (l : List Ex) : itEs l = l.map fun a => (a.op, itE a) := by
  induction l with
  | nil => rfl
  | cons a r ih => simp only [itEs, ih, List.map_cons]
def textE (e : Ex) : Bs := txt (itE e)
theorem tks_at (k : Nat) (a : Int × It) : tks (itAt k a) = tkAt k (a.1, tks a.2) := by
  unfold itAt tkAt
  simp only
  split
  · simp only [tks, tks_app]
  · rfl
theorem tks_pairs : ∀ xs : List (Int × It), tks (itPairs xs) = tkPairs (xs.map fun a => (a.1, tks a.2))
  | [] => rfl
  | [_] => rfl
  | [a, b] => by simp only [itPairs, List.map_cons, List.map_nil, tkPairs, tks_app, tks]
  | a :: b :: c :: r => by
    have := tks_pairs (c :: r)
    simp only [itPairs, tks_app, tks, this]
    rfl
theorem getD_tks (xs : List (Int × It)) (i : Nat) : (xs.map fun a => (a.1, tks a.2)).getD i (1, []) = ((xs.getD i (1, [])).1, tks (xs.getD i (1, [])).2) := by
  rw [List.getD_eq_getElem?_getD, List.getD_eq_getElem?_getD, List.getElem?_map]
  cases xs[i]? <;> rfl
theorem tks_node (o n : Int) (s : ByteArray) (xs : List (Int × It)) : tks (itNode o n s xs) = tkNode o n s (xs.map fun a => (a.1, tks a.2)) := by
  unfold itNode tkNode
  simp only [getD_tks]
  cases binL o with
  | some p => simp only [tks_app, tks, tks_at]
  | none =>
    simp only
    repeat' split
    all_goals simp only [tks_app, tks, tks_at, tks_pairs, tks_some, List.map_tail]
theorem tks_text (e : Ex) : tks (itE e) = toksE e := by
  induction e using Ex.ind with
  | h o n s l ih =>
  show tks (itNode o n s (itEs l)) = tkNode o n s (toksEs l)
  rw [tks_node, itEs_map, toksEs_map, List.map_map]
  congr 1
  exact List.map_congr_left fun a ha => by simp only [Function.comp, ih a ha]
end Go.Proofs.YteopfpebdalcoaaGreatDoor
