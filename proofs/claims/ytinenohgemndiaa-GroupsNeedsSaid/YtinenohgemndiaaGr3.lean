/-
  Levels by relaxing are those in rounds. No program is in sight here.
-/
import Derived.Test.YtinenohgemndiaaGr2
set_option linter.unusedVariables false
set_option linter.unusedSimpArgs false
set_option linter.unusedSectionVars false
namespace Go.Proofs.Ytinenohgemndiaa
theorem lvls_len {l : Prs} : ∀ (fuel : Nat) (rest : List Nat) (ls : List (List Nat)), lvls l fuel rest = some ls → ls.length ≤ fuel
  | 0, rest, ls, h => by
    unfold lvls at h
    split at h
    · cases h; simp
    · cases h
  | fuel + 1, rest, ls, h => by
    unfold lvls at h
    split at h
    · cases h; simp
    · simp only at h
      split at h
      · cases h
      · cases hr : lvls l fuel (rest.filter fun i => !(rest.filter (free l rest)).contains i) with
        | none => rw [hr] at h; cases h
        | some ls' =>
          rw [hr] at h
          simp only [Option.map_some, Option.some.injEq] at h
          subst h
          have := lvls_len fuel _ _ hr
          simp only [List.length_cons]; omega
theorem sorted_ext : ∀ {a b : List Nat}, a.Pairwise (· < ·) → b.Pairwise (· < ·) → (∀ i, i ∈ a ↔ i ∈ b) → a = b
  | [], [], _, _, _ => rfl
  | [], y :: r, _, _, h => absurd ((h y).2 (by simp)) (by simp)
  | x :: r, [], _, _, h => absurd ((h x).1 (by simp)) (by simp)
  | x :: r, y :: s, ha, hb, h => by
    rw [List.pairwise_cons] at ha hb
    have e : x = y := by
      rcases List.mem_cons.1 ((h x).1 (by simp)) with h1 | h1
      · exact h1
      · rcases List.mem_cons.1 ((h y).2 (by simp)) with h2 | h2
        · exact h2.symm
        · have := hb.1 x h1
          have := ha.1 y h2
          omega
    subst e
    rw [sorted_ext ha.2 hb.2 fun i => ?_]
    constructor
    · intro hi
      have := ha.1 i hi
      rcases List.mem_cons.1 ((h i).1 (List.mem_cons_of_mem _ hi)) with h1 | h1
      · omega
      · exact h1
    · intro hi
      have := hb.1 i hi
      rcases List.mem_cons.1 ((h i).2 (List.mem_cons_of_mem _ hi)) with h1 | h1
      · omega
      · exact h1
def at0 (lv : List Nat) (i : Nat) : Nat := lv[i]?.getD 0
theorem at0_set {lv : List Nat} {i : Nat} (hi : i < lv.length) (x j : Nat) : at0 (lv.set i x) j = if j = i then x else at0 lv j := by
  unfold at0
  rw [List.getElem?_set]
  by_cases h : i = j
  · subst h; simp [hi]
  · rw [if_neg h, if_neg (fun e => h e.symm)]
def rst (lv : List Nat) (p : Nat × Nat) : List Nat := if at0 lv p.2 ≤ at0 lv p.1 then lv.set p.2 (at0 lv p.1 + 1) else lv
def rlx (l : Prs) (lv : List Nat) : List Nat := l.foldl rst lv
def rlxs (l : Prs) : Nat → List Nat → List Nat
  | 0, lv => lv
  | k + 1, lv => rlxs l k (rlx l lv)
structure RI (R : Nat → Nat → Prop) (n : Nat) (lv : List Nat) : Prop where
  len : lv.length = n
  ch : ∀ v, v < n → at0 lv v = 0 ∨ ∃ u, Ch R (at0 lv v) u v
theorem RI.step {R : Nat → Nat → Prop} {n : Nat} {lv : List Nat} (h : RI R n lv) {p : Nat × Nat} (hp : R p.1 p.2) (h1 : p.1 < n) (h2 : p.2 < n) : RI R n (rst lv p) ∧ (∀ v, at0 lv v ≤ at0 (rst lv p) v) ∧ at0 lv p.1 + 1 ≤ at0 (rst lv p) p.2 := by
  unfold rst
  have hi : p.2 < lv.length := by rw [h.len]; exact h2
  by_cases hc : at0 lv p.2 ≤ at0 lv p.1
  · rw [if_pos hc]
    refine ⟨⟨by simp [h.len], fun v hv => ?_⟩, fun v => ?_, ?_⟩
    · rw [at0_set hi]
      by_cases e : v = p.2
      · subst e
        rw [if_pos rfl]
        right
        rcases h.ch p.1 h1 with h3 | ⟨u, h3⟩
        · rw [h3]; exact ⟨p.1, .one hp⟩
        · exact ⟨u, h3.snoc hp⟩
      · rw [if_neg e]; exact h.ch v hv
    · rw [at0_set hi]
      split
      · rename_i e; subst e; omega
      · exact Nat.le_refl _
    · rw [at0_set hi, if_pos rfl]; exact Nat.le_refl _
  · rw [if_neg hc]
    exact ⟨h, fun v => Nat.le_refl _, by omega⟩
theorem RI.pass {R : Nat → Nat → Prop} {n : Nat} (hR : ∀ a b, R a b → a < n ∧ b < n) : ∀ (l : Prs) (lv : List Nat), RI R n lv → (∀ p ∈ l, R p.1 p.2) → RI R n (rlx l lv) ∧ (∀ v, at0 lv v ≤ at0 (rlx l lv) v) ∧ ∀ p ∈ l, at0 lv p.1 + 1 ≤ at0 (rlx l lv) p.2
  | [], lv, h, _ => ⟨h, fun v => Nat.le_refl _, fun p hp => by cases hp⟩
  | p :: r, lv, h, hl => by
    have hp := hl p (by simp)
    obtain ⟨h1, h2, h3⟩ := h.step hp (hR _ _ hp).1 (hR _ _ hp).2
    obtain ⟨g1, g2, g3⟩ := RI.pass hR r (rst lv p) h1 (fun q hq => hl q (List.mem_cons_of_mem _ hq))
    refine ⟨g1, fun v => Nat.le_trans (h2 v) (g2 v), fun q hq => ?_⟩
    rcases List.mem_cons.1 hq with rfl | hq
    · exact Nat.le_trans h3 (g2 _)
    · exact Nat.le_trans (Nat.add_le_add_right (h2 q.1) 1) (g3 q hq)
theorem RI.passes {l : Prs} {n : Nat} (hl : ∀ a b, RL l a b → a < n ∧ b < n) : ∀ (k t : Nat) (lv : List Nat), RI (RL l) n lv → (∀ u v j, Ch (RL l) j u v → j ≤ t → j ≤ at0 lv v) → RI (RL l) n (rlxs l k lv) ∧ ∀ u v j, Ch (RL l) j u v → j ≤ t + k → j ≤ at0 (rlxs l k lv) v
  | 0, t, lv, h, hb => ⟨h, hb⟩
  | k + 1, t, lv, h, hb => by
    obtain ⟨h1, h2, h3⟩ := h.pass hl l lv (fun p hp => hp)
    have := RI.passes hl k (t + 1) (rlx l lv) h1 (fun u v j hc hj => by
      rcases hc.last with ⟨rfl, hr⟩ | ⟨c, hr, hc'⟩
      · have := h3 (u, v) hr
        simp only at this
        omega
      · have g1 := hb u c (j - 1) hc' (by omega)
        have g2 := h3 (c, v) hr
        simp only at g2
        have := hc'.pos
        omega)
    rw [show t + (k + 1) = t + 1 + k by omega]
    exact this
def rlevels (n : Nat) (lv : List Nat) : List (List Nat) := ((List.range n).map fun k => (List.range n).filter fun i => at0 lv i == k).filter fun l => !l.isEmpty
theorem at0_zero (n v : Nat) : at0 (List.replicate n 0) v = 0 := by
  unfold at0
  rw [List.getElem?_replicate]
  split <;> rfl
theorem rlevels_eq {l : Prs} {n : Nat} (hl : ∀ a b, RL l a b → a < n ∧ b < n) (hac : Acyc (RL l)) : lvls l n (List.range n) = some (rlevels n (rlxs l n (List.replicate n 0))) := by
  rcases lvls_spec hl n 0 (List.range n) (LI.start n) (by simp) with ⟨-, h⟩ | ⟨ls, h1, -, h3, h4⟩
  · exact absurd hac h
  · rw [h1]
    congr 1
    have hlen := lvls_len _ _ _ h1
    obtain ⟨g1, g2⟩ := RI.passes hl n 0 (List.replicate n 0) ⟨by simp, fun v hv => .inl (at0_zero _ _)⟩ (fun u v j hc hj => by omega)
    generalize rlxs l n (List.replicate n 0) = lv at g1 g2
    have hL : ∀ v, v < n → Lev (RL l) v (at0 lv v) := fun v hv => by
      obtain ⟨m, hm, hL⟩ := h4 v hv
      refine ⟨g1.ch v hv, fun u j hc => ?_⟩
      have := hL.2 u j hc
      exact g2 u v j hc (by omega)
    have hk : ∀ k, k < n → ((List.range n).filter fun i => at0 lv i == k) = ls[k]?.getD [] := fun k hk => by
      refine sorted_ext (List.pairwise_lt_range.filter _) ?_ fun i => ?_
      · cases hj : ls[k]? with
        | none => exact List.Pairwise.nil
        | some x => exact (h3 k x hj).2.1
      · simp only [List.mem_filter, List.mem_range, beq_iff_eq]
        cases hj : ls[k]? with
        | none =>
          simp only [Option.getD_none, List.not_mem_nil, iff_false, not_and]
          intro hi e
          obtain ⟨m, hm, hLm⟩ := h4 i hi
          have := hLm.unique (hL i hi)
          have := List.getElem?_eq_none_iff.1 hj
          omega
        | some x =>
          rw [Option.getD_some, (h3 k x hj).2.2 i, Nat.zero_add]
          exact ⟨fun ⟨a, b⟩ => ⟨a, b ▸ hL i a⟩, fun ⟨a, b⟩ => ⟨a, (hL i a).unique b⟩⟩
    unfold rlevels
    have e1 : ((List.range n).map fun k => (List.range n).filter fun i => at0 lv i == k) = (List.range n).map fun k => ls[k]?.getD [] := List.map_congr_left fun k hk' => hk k (List.mem_range.1 hk')
    rw [e1]
    have e2 : (List.range n).map (fun k => ls[k]?.getD []) = ls ++ List.replicate (n - ls.length) [] := by
      apply List.ext_getElem?
      intro i
      rw [List.getElem?_map]
      by_cases hi : i < n
      · rw [List.getElem?_range hi, Option.map_some]
        by_cases hi2 : i < ls.length
        · rw [List.getElem?_append_left hi2, List.getElem?_eq_getElem hi2, Option.getD_some]
        · rw [List.getElem?_append_right (by omega), List.getElem?_eq_none (by omega), Option.getD_none, List.getElem?_replicate, if_pos (by omega)]
      · rw [List.getElem?_eq_none (by simp; omega), List.getElem?_eq_none (by simp; omega)]; rfl
    rw [e2, List.filter_append, List.filter_eq_self.2, List.filter_eq_nil_iff.2, List.append_nil]
    · intro x hx
      rw [List.mem_replicate] at hx
      rw [hx.2]; simp
    · intro x hx
      obtain ⟨j, hj, rfl⟩ := List.getElem_of_mem hx
      have := (h3 j _ (List.getElem?_eq_getElem hj)).1
      simpa using this
theorem lvls_none {l : Prs} {n : Nat} (hl : ∀ a b, RL l a b → a < n ∧ b < n) : lvls l n (List.range n) = none ↔ ¬ Acyc (RL l) := by
  rcases lvls_spec hl n 0 (List.range n) (LI.start n) (by simp) with ⟨h1, h2⟩ | ⟨ls, h1, h2, -⟩
  · exact ⟨fun _ => h2, fun _ => h1⟩
  · rw [h1]
    exact ⟨(fun h => nomatch h), (fun h => absurd h2 h)⟩
end Go.Proofs.Ytinenohgemndiaa
