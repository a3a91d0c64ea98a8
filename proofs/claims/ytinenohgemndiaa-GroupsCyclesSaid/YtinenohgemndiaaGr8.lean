/-
  The table of a relation, its closure, cycles. No program is in sight here.
-/
import Derived.Test.YtinenohgemndiaaGr7
set_option linter.unusedVariables false
set_option linter.unusedSimpArgs false
set_option linter.unusedSectionVars false
namespace Go.Proofs.Ytinenohgemndiaa
def ini (n : Nat) (l : Prs) : List (List Bool) := l.foldl (fun t p => tset t p.1 p.2 true) (List.replicate n (List.replicate n false))
theorem ini_fold {n : Nat} : ∀ (l : Prs) (t : List (List Bool)), (∀ a b, RL l a b → a < n ∧ b < n) → Sq n t → Sq n (l.foldl (fun t p => tset t p.1 p.2 true) t) ∧ ∀ a b, tget (l.foldl (fun t p => tset t p.1 p.2 true) t) a b = true ↔ tget t a b = true ∨ RL l a b
  | [], t, _, h => ⟨h, fun a b => by simp [RL]⟩
  | p :: r, t, hl, h => by
    have hp := hl p.1 p.2 (by simp [RL])
    obtain ⟨g1, g2⟩ := ini_fold r (tset t p.1 p.2 true) (fun a b hr => hl a b (List.mem_cons_of_mem _ hr)) (tset_sq h hp.1 _ _)
    rw [List.foldl_cons]
    refine ⟨g1, fun a b => ?_⟩
    rw [g2, tget_tset h hp.1 hp.2]
    obtain ⟨c, d⟩ := p
    simp only [RL, List.mem_cons, Prod.mk.injEq]
    by_cases e : a = c ∧ b = d
    · rw [if_pos e]; simp [e]
    · rw [if_neg e]; simp only [e, false_or]
theorem ini_sq (n : Nat) : Sq n (List.replicate n (List.replicate n false)) :=
  ⟨by simp, fun r hr => by rw [(List.mem_replicate.1 hr).2]; simp⟩
theorem ini_get {l : Prs} {n : Nat} (hl : ∀ a b, RL l a b → a < n ∧ b < n) : Sq n (ini n l) ∧ ∀ a b, tget (ini n l) a b = true ↔ RL l a b := by
  obtain ⟨h1, h2⟩ := ini_fold l _ hl (ini_sq n)
  refine ⟨h1, fun a b => ?_⟩
  have : tget (List.replicate n (List.replicate n false)) a b = false := by
    unfold tget
    rw [List.getElem?_replicate]
    split
    · rw [Option.getD_some, List.getElem?_replicate]; split <;> rfl
    · rfl
  unfold ini
  rw [h2, this]; simp
def clo (n : Nat) (l : Prs) : List (List Bool) := wars n (ini n l)
theorem clo_get {l : Prs} {n : Nat} (hl : ∀ a b, RL l a b → a < n ∧ b < n) : Sq n (clo n l) ∧ ∀ a b, a < n → b < n → (tget (clo n l) a b = true ↔ Bef (RL l) a b) := by
  obtain ⟨h1, h2⟩ := ini_get hl
  obtain ⟨g1, g2⟩ := wars_get h1 (fun a b _ _ => h2 a b)
  exact ⟨g1, fun a b ha hb => by
    show tget (wars n (ini n l)) a b = true ↔ _
    rw [g2 a b ha hb]; exact pt_bef hl⟩
theorem sq_ext {n : Nat} {t s : List (List Bool)} (ht : Sq n t) (hs : Sq n s) (h : ∀ a b, a < n → b < n → tget t a b = tget s a b) : t = s := by
  apply List.ext_getElem (by rw [ht.len, hs.len])
  intro i h1 h2
  have l1 := ht.row _ (List.getElem_mem h1)
  have l2 := hs.row _ (List.getElem_mem h2)
  apply List.ext_getElem (by rw [l1, l2])
  intro j g1 g2
  have := h i j (by rw [← ht.len]; exact h1) (by rw [← l1]; exact g1)
  unfold tget at this
  rw [List.getElem?_eq_getElem h1, List.getElem?_eq_getElem h2, Option.getD_some, Option.getD_some, List.getElem?_eq_getElem g1, List.getElem?_eq_getElem g2] at this
  exact this
theorem diag_iff {l : Prs} {n : Nat} (hl : ∀ a b, RL l a b → a < n ∧ b < n) : (∃ i, i < n ∧ tget (clo n l) i i = true) ↔ ¬ Acyc (RL l) := by
  obtain ⟨-, h2⟩ := clo_get hl
  constructor
  · rintro ⟨i, hi, h⟩ hac
    obtain ⟨m, hm⟩ := (h2 i i hi hi).1 h
    exact hac m i hm
  · intro hn
    apply Classical.byContradiction
    intro hno
    refine hn fun m a hc => hno ⟨a, (hc.lt hl).1, (h2 a a (hc.lt hl).1 (hc.lt hl).1).2 ⟨m, hc⟩⟩
theorem clen_ex {l : Prs} {n f : Nat} (hl : ∀ a b, RL l a b → a < n ∧ b < n) (h : Bef (RL l) f f) : ∃ L, CLen (RL l) f L ∧ L ≤ n := by
  have hf := (bef_lt hl h).1
  obtain ⟨w, m, hw, hm⟩ : ∃ w m, RL l f w ∧ Dst (RL l) f w m := by
    obtain ⟨m, hc⟩ := h
    rcases hc.first with ⟨-, hr⟩ | ⟨c, hr, -, hc⟩
    · exact ⟨f, 0, hr, .inl ⟨rfl, rfl⟩⟩
    · by_cases e : c = f
      · exact ⟨c, 0, hr, .inl ⟨e, rfl⟩⟩
      · obtain ⟨j, -, hd⟩ := Dst.of_ch hc e
        exact ⟨c, j, hr, hd⟩
  have H : ∀ t m, m ≤ t → (∃ w, RL l f w ∧ Dst (RL l) f w m) → ∃ m, (∃ w, RL l f w ∧ Dst (RL l) f w m) ∧ ∀ w j, RL l f w → Dst (RL l) f w j → m ≤ j := by
    intro t
    induction t with
    | zero => intro m hm h; exact ⟨m, h, fun _ _ _ _ => by omega⟩
    | succ t ih =>
      intro m hm h
      by_cases hh : ∃ j, j < m ∧ ∃ w, RL l f w ∧ Dst (RL l) f w j
      · obtain ⟨j, hj, hw⟩ := hh
        exact ih j (by omega) hw
      · exact ⟨m, h, fun w j hr hd => by
          apply Classical.byContradiction
          intro hn
          exact hh ⟨j, by omega, w, hr, hd⟩⟩
  obtain ⟨m', ⟨u, h1, h2⟩, h3⟩ := H m m (Nat.le_refl _) ⟨w, hw, hm⟩
  have := h2.lt hl hf
  exact ⟨m' + 1, ⟨by omega, ⟨u, h1, h2⟩, fun w j hr hd => by have := h3 w j hr hd; omega⟩, by omega⟩
def cyc (n : Nat) (l : Prs) (dv : Nat → Option Nat) (f L : Nat) : List Nat := f :: back n l dv (L - 1) f
theorem cyc_spec {l : Prs} {n f L : Nat} {dv : Nat → Option Nat} (hl : ∀ a b, RL l a b → a < n ∧ b < n) (hdv : DV l n f dv) (h : CLen (RL l) f L) : (cyc n l dv f L).length = L ∧ (∀ x ∈ cyc n l dv f L, x < n) ∧ Lnk (RL l) (cyc n l dv f L) f := by
  obtain ⟨h1, h2, -⟩ := h
  obtain ⟨g1, g2, g3⟩ := back_spec hl hdv (L - 1) f h2
  obtain ⟨w, hw, -⟩ := h2
  refine ⟨by simp only [cyc, List.length_cons, g1]; omega, fun x hx => ?_, g3⟩
  rcases List.mem_cons.1 hx with rfl | hx
  · exact (hl _ _ hw).1
  · exact g2 x hx
end Go.Proofs.Ytinenohgemndiaa
