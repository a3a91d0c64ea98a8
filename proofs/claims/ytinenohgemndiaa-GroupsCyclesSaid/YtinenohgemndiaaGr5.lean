/-
  Distances to a number: shortest chains; what the reference's relaxing comes to. No program is in sight here.
-/
import Derived.Test.YtinenohgemndiaaGr4
set_option linter.unusedVariables false
set_option linter.unusedSimpArgs false
set_option linter.unusedSectionVars false
namespace Go.Proofs.Ytinenohgemndiaa
def Dst (R : Nat → Nat → Prop) (f v m : Nat) : Prop := (v = f ∧ m = 0) ∨ (v ≠ f ∧ Ch R m v f ∧ ∀ j, Ch R j v f → m ≤ j)
theorem Dst.unique {R : Nat → Nat → Prop} {f v m j : Nat} (h : Dst R f v m) (g : Dst R f v j) : m = j := by
  rcases h with ⟨h1, rfl⟩ | ⟨h1, h2, h3⟩
  · rcases g with ⟨-, rfl⟩ | ⟨g1, -⟩
    · rfl
    · exact absurd h1 g1
  · rcases g with ⟨g1, -⟩ | ⟨-, g2, g3⟩
    · exact absurd g1 h1
    · have := h3 _ g2
      have := g3 _ h2
      omega
theorem Ch.first {R : Nat → Nat → Prop} {m a b : Nat} (h : Ch R m a b) : (m = 1 ∧ R a b) ∨ ∃ c, R a c ∧ 2 ≤ m ∧ Ch R (m - 1) c b := by
  cases h with
  | one h => exact .inl ⟨rfl, h⟩
  | cons h g =>
    have := g.pos
    exact .inr ⟨_, h, by omega, by simpa using g⟩
theorem Dst.down {R : Nat → Nat → Prop} {f v m : Nat} (h : Dst R f v (m + 1)) : v ≠ f ∧ ∃ c, R v c ∧ Dst R f c m := by
  rcases h with ⟨-, h⟩ | ⟨h1, h2, h3⟩
  · omega
  · refine ⟨h1, ?_⟩
    rcases h2.first with ⟨e, hr⟩ | ⟨c, hr, hm, hc⟩
    · have : m = 0 := by omega
      subst this
      exact ⟨f, hr, .inl ⟨rfl, rfl⟩⟩
    · refine ⟨c, hr, .inr ⟨fun e => ?_, by simpa using hc, fun j hj => ?_⟩⟩
      · subst e
        have := h3 1 (.one hr)
        omega
      · have := h3 (j + 1) (.cons hr hj)
        omega
theorem Dst.up {R : Nat → Nat → Prop} {f v c m : Nat} (h : Dst R f c m) (hr : R v c) (hv : v ≠ f) : ∃ j, j ≤ m + 1 ∧ Dst R f v j := by
  have hc : Ch R (m + 1) v f := by
    rcases h with ⟨rfl, rfl⟩ | ⟨-, h2, -⟩
    · exact .one hr
    · exact .cons hr h2
  obtain ⟨j, hj, hmin⟩ : ∃ j, Ch R j v f ∧ ∀ i, Ch R i v f → j ≤ i := by
    have H : ∀ t j, j ≤ t → Ch R j v f → ∃ j, Ch R j v f ∧ ∀ i, Ch R i v f → j ≤ i := by
      intro t
      induction t with
      | zero => intro j hj hc; have := hc.pos; omega
      | succ t ih =>
        intro j hj hc
        by_cases hh : ∃ i, i < j ∧ Ch R i v f
        · obtain ⟨i, hi, hci⟩ := hh
          exact ih i (by omega) hci
        · exact ⟨j, hc, fun i hi => by
            apply Classical.byContradiction
            intro hn
            exact hh ⟨i, by omega, hi⟩⟩
    exact H _ _ (Nat.le_refl _) hc
  exact ⟨j, hmin _ hc, .inr ⟨hv, hj, hmin⟩⟩
theorem Dst.of_ch {R : Nat → Nat → Prop} {f v m : Nat} (h : Ch R m v f) (hv : v ≠ f) : ∃ j, j ≤ m ∧ Dst R f v j := by
  induction h with
  | one h => exact (Dst.up (.inl ⟨rfl, rfl⟩) h hv)
  | @cons a b c m h g ih =>
    by_cases hc : c = b
    · subst hc
      obtain ⟨j, h1, h2⟩ := Dst.up (R := R) (.inl ⟨rfl, rfl⟩) h hv
      have := g.pos
      exact ⟨j, by omega, h2⟩
    · obtain ⟨j, h1, h2⟩ := ih hc
      obtain ⟨i, h3, h4⟩ := h2.up h hv
      exact ⟨i, by omega, h4⟩
theorem Dst.all {R : Nat → Nat → Prop} {f : Nat} : ∀ {m v : Nat}, Dst R f v m → ∀ j, j ≤ m → ∃ u, Dst R f u j
  | m, v, h, j, hj => by
    by_cases e : j = m
    · subst e; exact ⟨v, h⟩
    · cases m with
      | zero => omega
      | succ m =>
        obtain ⟨-, c, -, hc⟩ := h.down
        exact hc.all j (by omega)
theorem Dst.lt {R : Nat → Nat → Prop} {n f v m : Nat} (hR : ∀ a b, R a b → a < n ∧ b < n) (hf : f < n) (h : Dst R f v m) : m < n := by
  have hu : ∀ u j, Dst R f u j → u < n := fun u j hd => by
    rcases hd with ⟨rfl, -⟩ | ⟨-, hc, -⟩
    · exact hf
    · exact (hc.lt hR).1
  let g : Nat → Nat := fun j => if hj : j ≤ m then (h.all j hj).choose else 0
  have hg : ∀ j, j ≤ m → Dst R f (g j) j := fun j hj => by
    have : g j = (h.all j hj).choose := by simp only [g]; rw [dif_pos hj]
    rw [this]; exact (h.all j hj).choose_spec
  have hnd : ((List.range (m + 1)).map g).Nodup := by
    unfold List.Nodup
    rw [List.pairwise_map]
    refine List.Pairwise.imp_of_mem (fun {a b} ha hb hab he => ?_) List.pairwise_lt_range
    have h1 := hg a (by have := List.mem_range.1 ha; omega)
    have h2 := hg b (by have := List.mem_range.1 hb; omega)
    rw [he] at h1
    have := h1.unique h2
    omega
  have := nodup_lt n _ hnd (fun x hx => by
    obtain ⟨j, hj, rfl⟩ := List.mem_map.1 hx
    exact hu _ _ (hg j (by have := List.mem_range.1 hj; omega)))
  simp at this
  omega
def dst1 (lv : List Nat) (p : Nat × Nat) : List Nat := if at0 lv p.2 + 1 < at0 lv p.1 then lv.set p.1 (at0 lv p.2 + 1) else lv
def dsts (l : Prs) : Nat → List Nat → List Nat
  | 0, lv => lv
  | k + 1, lv => dsts l k (l.foldl dst1 lv)
structure DI (R : Nat → Nat → Prop) (n f : Nat) (lv : List Nat) : Prop where
  len : lv.length = n
  zero : at0 lv f = 0
  ch : ∀ v, v < n → v ≠ f → at0 lv v = n + 1 ∨ at0 lv v ≤ n ∧ Ch R (at0 lv v) v f
theorem DI.step {R : Nat → Nat → Prop} {n f : Nat} {lv : List Nat} (h : DI R n f lv) {p : Nat × Nat} (hp : R p.1 p.2) (h1 : p.1 < n) (h2 : p.2 < n) : DI R n f (dst1 lv p) ∧ (∀ v, at0 (dst1 lv p) v ≤ at0 lv v) ∧ at0 (dst1 lv p) p.1 ≤ at0 lv p.2 + 1 := by
  unfold dst1
  have hi : p.1 < lv.length := by rw [h.len]; exact h1
  by_cases hc : at0 lv p.2 + 1 < at0 lv p.1
  · rw [if_pos hc]
    have hpf : p.1 ≠ f := fun e => by rw [e, h.zero] at hc; omega
    refine ⟨⟨by simp [h.len], by rw [at0_set hi, if_neg (fun e => hpf e.symm)]; exact h.zero, fun v hv hvf => ?_⟩, fun v => ?_, ?_⟩
    · rw [at0_set hi]
      by_cases e : v = p.1
      · subst e
        rw [if_pos rfl]
        have h3 : at0 lv p.1 ≤ n + 1 := by rcases h.ch _ h1 hpf with h | h <;> omega
        refine .inr ⟨by omega, ?_⟩
        by_cases e2 : p.2 = f
        · rw [e2, h.zero]
          rw [e2] at hp
          exact .one hp
        · rcases h.ch p.2 h2 e2 with h4 | ⟨-, h4⟩
          · omega
          · exact .cons hp h4
      · rw [if_neg e]; exact h.ch v hv hvf
    · rw [at0_set hi]
      split
      · rename_i e; subst e; omega
      · exact Nat.le_refl _
    · rw [at0_set hi, if_pos rfl]; exact Nat.le_refl _
  · rw [if_neg hc]
    exact ⟨h, fun v => Nat.le_refl _, by omega⟩
theorem DI.pass {R : Nat → Nat → Prop} {n f : Nat} (hR : ∀ a b, R a b → a < n ∧ b < n) : ∀ (l : Prs) (lv : List Nat), DI R n f lv → (∀ p ∈ l, R p.1 p.2) → DI R n f (l.foldl dst1 lv) ∧ (∀ v, at0 (l.foldl dst1 lv) v ≤ at0 lv v) ∧ ∀ p ∈ l, at0 (l.foldl dst1 lv) p.1 ≤ at0 lv p.2 + 1
  | [], lv, h, _ => ⟨h, fun v => Nat.le_refl _, fun p hp => by cases hp⟩
  | p :: r, lv, h, hl => by
    have hp := hl p (by simp)
    obtain ⟨h1, h2, h3⟩ := h.step hp (hR _ _ hp).1 (hR _ _ hp).2
    obtain ⟨g1, g2, g3⟩ := DI.pass hR r (dst1 lv p) h1 (fun q hq => hl q (List.mem_cons_of_mem _ hq))
    refine ⟨g1, fun v => Nat.le_trans (g2 v) (h2 v), fun q hq => ?_⟩
    rcases List.mem_cons.1 hq with rfl | hq
    · exact Nat.le_trans (g2 _) h3
    · exact Nat.le_trans (g3 q hq) (Nat.add_le_add_right (h2 q.2) 1)
theorem DI.passes {l : Prs} {n f : Nat} (hl : ∀ a b, RL l a b → a < n ∧ b < n) : ∀ (k t : Nat) (lv : List Nat), DI (RL l) n f lv → (∀ v j, Ch (RL l) j v f → j ≤ t → at0 lv v ≤ j) → DI (RL l) n f (dsts l k lv) ∧ ∀ v j, Ch (RL l) j v f → j ≤ t + k → at0 (dsts l k lv) v ≤ j
  | 0, t, lv, h, hb => ⟨h, hb⟩
  | k + 1, t, lv, h, hb => by
    obtain ⟨h1, h2, h3⟩ := h.pass hl l lv (fun p hp => hp)
    have := DI.passes hl k (t + 1) (l.foldl dst1 lv) h1 (fun v j hc hj => by
      rcases hc.first with ⟨rfl, hr⟩ | ⟨c, hr, hj2, hc'⟩
      · have := h3 (v, f) hr
        simp only [h.zero] at this
        omega
      · have g1 := hb c (j - 1) hc' (by omega)
        have g2 := h3 (v, c) hr
        simp only at g2
        omega)
    rw [show t + (k + 1) = t + 1 + k by omega]
    exact this
theorem dsts_spec {l : Prs} {n f : Nat} (hl : ∀ a b, RL l a b → a < n ∧ b < n) (hf : f < n) (v : Nat) (hv : v < n) :
    (∃ m, m < n ∧ Dst (RL l) f v m ∧ at0 (dsts l n ((List.replicate n (n + 1)).set f 0)) v = m) ∨ ((∀ m, ¬ Dst (RL l) f v m) ∧ at0 (dsts l n ((List.replicate n (n + 1)).set f 0)) v = n + 1) := by
  have hi : f < (List.replicate n (n + 1)).length := by simpa using hf
  obtain ⟨g1, g2⟩ := DI.passes hl n 0 ((List.replicate n (n + 1)).set f 0) ⟨by simp, by rw [at0_set hi, if_pos rfl], fun v hv hvf => .inl (by
    rw [at0_set hi, if_neg hvf]; unfold at0; rw [List.getElem?_replicate, if_pos hv]; rfl)⟩ (fun v j hc hj => by have := hc.pos; omega)
  generalize dsts l n ((List.replicate n (n + 1)).set f 0) = lv at g1 g2
  by_cases e : v = f
  · subst e
    exact .inl ⟨0, by omega, .inl ⟨rfl, rfl⟩, g1.zero⟩
  · rcases g1.ch v hv e with h | ⟨h, hc⟩
    · refine .inr ⟨fun m hd => ?_, h⟩
      have hm := hd.lt hl hf
      rcases hd with ⟨h1, -⟩ | ⟨-, hc, -⟩
      · exact e h1
      · have := g2 v m hc (by omega)
        omega
    · obtain ⟨j, hj, hd⟩ := Dst.of_ch hc e
      have hm := hd.lt hl hf
      refine .inl ⟨j, hm, hd, ?_⟩
      rcases hd with ⟨h1, -⟩ | ⟨-, hc', hmin⟩
      · exact absurd h1 e
      · have := g2 v j hc' (by omega)
        have := hmin _ hc
        omega
end Go.Proofs.Ytinenohgemndiaa
