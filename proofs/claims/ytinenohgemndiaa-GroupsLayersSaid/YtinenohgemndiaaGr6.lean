/-
  Distances by fronts: what the program's search comes to. No program is in sight here.
-/
import Derived.Test.YtinenohgemndiaaGr5
set_option linter.unusedVariables false
set_option linter.unusedSimpArgs false
set_option linter.unusedSectionVars false
namespace Go.Proofs.Ytinenohgemndiaa
def ati (lv : List Int) (i : Nat) : Int := lv[i]?.getD (-1)
theorem ati_set {lv : List Int} {i : Nat} (hi : i < lv.length) (x : Int) (j : Nat) : ati (lv.set i x) j = if j = i then x else ati lv j := by
  unfold ati
  rw [List.getElem?_set]
  by_cases h : i = j
  · subst h; simp [hi]
  · rw [if_neg h, if_neg (fun e => h e.symm)]
def prd1 (i : Nat) (acc : List Nat) (p : Nat × Nat) : List Nat := if p.2 = i ∧ p.1 ∉ acc then acc ++ [p.1] else acc
def preds (l : Prs) (i : Nat) : List Nat := l.foldl (prd1 i) []
theorem preds_fold {i k : Nat} : ∀ (l : Prs) (acc : List Nat), k ∈ l.foldl (prd1 i) acc ↔ k ∈ acc ∨ (k, i) ∈ l
  | [], acc => by simp
  | p :: r, acc => by
    rw [List.foldl_cons, preds_fold r]
    unfold prd1
    obtain ⟨a, b⟩ := p
    by_cases h : b = i ∧ a ∉ acc
    · rw [if_pos h]
      obtain ⟨rfl, h⟩ := h
      simp only [List.mem_append, List.mem_cons, List.not_mem_nil, or_false, Prod.mk.injEq, and_true, or_assoc]
    · rw [if_neg h]
      simp only [List.mem_cons, Prod.mk.injEq]
      constructor
      · rintro (h1 | h1)
        · exact .inl h1
        · exact .inr (.inr h1)
      · rintro (h1 | ⟨rfl, rfl⟩ | h1)
        · exact .inl h1
        · exact .inl (Classical.byContradiction fun hn => h ⟨rfl, hn⟩)
        · exact .inr h1
theorem preds_mem {l : Prs} {i k : Nat} : k ∈ preds l i ↔ RL l k i := by
  unfold preds RL
  rw [preds_fold]; simp
def bst (d : Int) (s : List Int × List Nat) (k : Nat) : List Int × List Nat := if ati s.1 k < 0 then (s.1.set k d, s.2 ++ [k]) else s
def bround (l : Prs) (d : Int) (s : List Int × List Nat) : List Int × List Nat := (s.2.flatMap (preds l)).foldl (bst d) (s.1, [])
def bfs (l : Prs) : Nat → Int → List Int × List Nat → List Int
  | 0, _, s => s.1
  | k + 1, d, s => if s.2 = [] then s.1 else bfs l k (d + 1) (bround l d s)
open Classical in
theorem bst_fold {n : Nat} {d : Int} (hd : 0 ≤ d) {o : List Int} (ho : o.length = n) : ∀ (ks : List Nat) (s : List Int × List Nat) (P : Nat → Prop), (∀ k ∈ ks, k < n) → s.1.length = n → (∀ v, v < n → (ati s.1 v = if ati o v < 0 ∧ P v then d else ati o v)) → (∀ v, v ∈ s.2 ↔ v < n ∧ ati o v < 0 ∧ P v) →
    (ks.foldl (bst d) s).1.length = n ∧ (∀ v, v < n → (ati (ks.foldl (bst d) s).1 v = if ati o v < 0 ∧ (P v ∨ v ∈ ks) then d else ati o v)) ∧ ∀ v, v ∈ (ks.foldl (bst d) s).2 ↔ v < n ∧ ati o v < 0 ∧ (P v ∨ v ∈ ks)
  | [], s, P, _, h1, h2, h3 => ⟨h1, fun v hv => by simpa using h2 v hv, fun v => by simpa using h3 v⟩
  | k :: r, s, P, hk, h1, h2, h3 => by
    have hkn := hk k (by simp)
    have step : (bst d s k).1.length = n ∧ (∀ v, v < n → (ati (bst d s k).1 v = if ati o v < 0 ∧ (P v ∨ v = k) then d else ati o v)) ∧ ∀ v, v ∈ (bst d s k).2 ↔ v < n ∧ ati o v < 0 ∧ (P v ∨ v = k) := by
      unfold bst
      by_cases hc : ati s.1 k < 0
      · rw [if_pos hc]
        have hok : ati o k < 0 := by
          rw [h2 k hkn] at hc
          split at hc
          · omega
          · exact hc
        refine ⟨by simp [h1], fun v hv => ?_, fun v => ?_⟩
        · rw [ati_set (by rw [h1]; exact hkn)]
          by_cases e : v = k
          · subst e; simp [hok]
          · simp only [e, if_false, or_false]; exact h2 v hv
        · simp only [List.mem_append, List.mem_singleton, h3 v]
          constructor
          · rintro (⟨a, b, c⟩ | rfl)
            · exact ⟨a, b, .inl c⟩
            · exact ⟨hkn, hok, .inr rfl⟩
          · rintro ⟨a, b, c | c⟩
            · exact .inl ⟨a, b, c⟩
            · exact .inr c
      · rw [if_neg hc]
        have hpk : ati o k < 0 → P k := fun ho' => by
          apply Classical.byContradiction
          intro hn
          rw [h2 k hkn, if_neg (fun e => hn e.2)] at hc
          exact hc ho'
        refine ⟨h1, fun v hv => ?_, fun v => ?_⟩
        · rw [h2 v hv]
          by_cases e : v = k
          · subst e
            by_cases ho' : ati o v < 0
            · rw [if_pos ⟨ho', hpk ho'⟩, if_pos ⟨ho', .inr rfl⟩]
            · rw [if_neg (fun e => ho' e.1), if_neg (fun e => ho' e.1)]
          · simp only [e, or_false]
        · rw [h3 v]
          constructor
          · exact fun ⟨a, b, c⟩ => ⟨a, b, .inl c⟩
          · rintro ⟨a, b, c | rfl⟩
            · exact ⟨a, b, c⟩
            · exact ⟨a, b, hpk b⟩
    obtain ⟨g1, g2, g3⟩ := step
    have := bst_fold hd ho r (bst d s k) (fun v => P v ∨ v = k) (fun q hq => hk q (List.mem_cons_of_mem _ hq)) g1 (fun v hv => (g2 v hv).trans (by congr)) g3
    rw [List.foldl_cons]
    obtain ⟨q1, q2, q3⟩ := this
    have e : ∀ v, ((P v ∨ v = k) ∨ v ∈ r) ↔ (P v ∨ v ∈ k :: r) := fun v => by rw [List.mem_cons, or_assoc]
    refine ⟨q1, fun v hv => ?_, fun v => by rw [q3 v, e v]⟩
    rw [q2 v hv]
    by_cases hc : ati o v < 0 ∧ (P v ∨ v ∈ k :: r)
    · rw [if_pos hc, if_pos ⟨hc.1, (e v).2 hc.2⟩]
    · rw [if_neg hc, if_neg (fun hh => hc ⟨hh.1, (e v).1 hh.2⟩)]
structure BI (R : Nat → Nat → Prop) (n f d : Nat) (s : List Int × List Nat) : Prop where
  len : s.1.length = n
  out : ∀ v, v < n → (∃ m, m < d ∧ Dst R f v m ∧ ati s.1 v = (m : Nat)) ∨ (ati s.1 v = -1 ∧ ∀ m, Dst R f v m → d ≤ m)
  front : ∀ v, v ∈ s.2 ↔ v < n ∧ Dst R f v (d - 1)
theorem BI.next {l : Prs} {n f d : Nat} (hl : ∀ a b, RL l a b → a < n ∧ b < n) (hf : f < n) (hd : 1 ≤ d) {s : List Int × List Nat} (h : BI (RL l) n f d s) : BI (RL l) n f (d + 1) (bround l d s) := by
  have hks : ∀ k, k ∈ s.2.flatMap (preds l) ↔ ∃ i, i < n ∧ Dst (RL l) f i (d - 1) ∧ RL l k i := fun k => by
    simp only [List.mem_flatMap, h.front, preds_mem]
    exact ⟨fun ⟨i, ⟨a, b⟩, c⟩ => ⟨i, a, b, c⟩, fun ⟨i, a, b, c⟩ => ⟨i, ⟨a, b⟩, c⟩⟩
  obtain ⟨g1, g2, g3⟩ := bst_fold (d := (d : Nat)) (by omega) h.len (s.2.flatMap (preds l)) (s.1, []) (fun _ => False) (fun k hk => by
    obtain ⟨i, -, -, hr⟩ := (hks k).1 hk
    exact (hl _ _ hr).1) h.len (fun v hv => by rw [if_neg (fun e => e.2)]) (fun v => by simp)
  have hnew : ∀ v, v < n → ati s.1 v < 0 → (v ∈ s.2.flatMap (preds l) ↔ Dst (RL l) f v d) := fun v hv hneg => by
    have hmin : ∀ m, Dst (RL l) f v m → d ≤ m := by
      rcases h.out v hv with ⟨m, -, -, e⟩ | ⟨-, hh⟩
      · rw [e] at hneg; omega
      · exact hh
    have hvf : v ≠ f := fun e => by have := hmin 0 (.inl ⟨e, rfl⟩); omega
    rw [hks]
    constructor
    · rintro ⟨i, -, hi, hr⟩
      obtain ⟨j, hj, hdj⟩ := hi.up hr hvf
      have := hmin j hdj
      have e : j = d := by omega
      exact e ▸ hdj
    · intro hdv
      obtain ⟨t, rfl⟩ : ∃ t, d = t + 1 := ⟨d - 1, by omega⟩
      obtain ⟨-, c, hr, hc⟩ := hdv.down
      exact ⟨c, (hl _ _ hr).2, hc, hr⟩
  refine ⟨g1, fun v hv => ?_, fun v => ?_⟩
  · show (∃ m, m < d + 1 ∧ Dst (RL l) f v m ∧ ati ((s.2.flatMap (preds l)).foldl (bst (d : Nat)) (s.1, [])).1 v = (m : Nat)) ∨ _
    by_cases hneg : ati s.1 v < 0
    · by_cases hk : v ∈ s.2.flatMap (preds l)
      · exact .inl ⟨d, by omega, (hnew v hv hneg).1 hk, by rw [g2 v hv, if_pos ⟨hneg, .inr hk⟩]⟩
      · rcases h.out v hv with ⟨m, -, -, e⟩ | ⟨e, hh⟩
        · rw [e] at hneg; omega
        · refine .inr ⟨?_, fun m hm => ?_⟩
          · show ati ((s.2.flatMap (preds l)).foldl (bst (d : Nat)) (s.1, [])).1 v = -1
            rw [g2 v hv, if_neg (fun e => by rcases e.2 with h | h; exact h; exact hk h)]; exact e
          · have := hh m hm
            by_cases em : m = d
            · subst em; exact absurd ((hnew v hv hneg).2 hm) hk
            · omega
    · rcases h.out v hv with ⟨m, h1, h2, e⟩ | ⟨e, -⟩
      · exact .inl ⟨m, by omega, h2, by rw [g2 v hv, if_neg (fun e => hneg e.1)]; exact e⟩
      · rw [e] at hneg; omega
  · show v ∈ ((s.2.flatMap (preds l)).foldl (bst (d : Nat)) (s.1, [])).2 ↔ _
    rw [g3, Nat.add_sub_cancel]
    constructor
    · rintro ⟨hv, hneg, h | h⟩
      · exact h.elim
      · exact ⟨hv, (hnew v hv hneg).1 h⟩
    · rintro ⟨hv, hdv⟩
      have hneg : ati s.1 v < 0 := by
        rcases h.out v hv with ⟨m, h1, h2, -⟩ | ⟨e, -⟩
        · have := h2.unique hdv; omega
        · rw [e]; omega
      exact ⟨hv, hneg, .inr ((hnew v hv hneg).2 hdv)⟩
theorem bfs_spec {l : Prs} {n f : Nat} (hl : ∀ a b, RL l a b → a < n ∧ b < n) (hf : f < n) : ∀ (k d : Nat) (s : List Int × List Nat), 1 ≤ d → n + 1 ≤ d + k → BI (RL l) n f d s →
    (bfs l k d s).length = n ∧ ∀ v, v < n → (∃ m, m < n ∧ Dst (RL l) f v m ∧ ati (bfs l k d s) v = (m : Nat)) ∨ ((∀ m, ¬ Dst (RL l) f v m) ∧ ati (bfs l k d s) v = -1) := by
  have fin : ∀ (d : Nat) (s : List Int × List Nat), 1 ≤ d → BI (RL l) n f d s → (∀ v, ¬ Dst (RL l) f v (d - 1)) → s.1.length = n ∧ ∀ v, v < n → (∃ m, m < n ∧ Dst (RL l) f v m ∧ ati s.1 v = (m : Nat)) ∨ ((∀ m, ¬ Dst (RL l) f v m) ∧ ati s.1 v = -1) := fun d s hd h hn => by
    refine ⟨h.len, fun v hv => ?_⟩
    rcases h.out v hv with ⟨m, -, h2, e⟩ | ⟨e, hh⟩
    · exact .inl ⟨m, h2.lt hl hf, h2, e⟩
    · refine .inr ⟨fun m hm => ?_, e⟩
      obtain ⟨u, hu⟩ := hm.all (d - 1) (by have := hh m hm; omega)
      exact hn u hu
  intro k
  induction k with
  | zero =>
    intro d s hd hk h
    exact fin d s hd h fun v hv => by have := hv.lt hl hf; omega
  | succ k ih =>
    intro d s hd hk h
    unfold bfs
    by_cases hs : s.2 = []
    · rw [if_pos hs]
      refine fin d s hd h fun v hv => ?_
      have hvn : v < n := by
        rcases hv with ⟨rfl, -⟩ | ⟨-, hc, -⟩
        · exact hf
        · exact (hc.lt hl).1
      have := (h.front v).2 ⟨hvn, hv⟩
      rw [hs] at this; cases this
    · rw [if_neg hs]
      have := ih (d + 1) (bround l d s) (by omega) (by omega) (h.next hl hf hd)
      exact this
theorem BI.start {R : Nat → Nat → Prop} {n f : Nat} (hf : f < n) : BI R n f 1 ((List.replicate n (-1)).set f 0, [f]) := by
  have hi : f < (List.replicate n (-1 : Int)).length := by simpa using hf
  have hr : ∀ v, ati (List.replicate n (-1)) v = -1 := fun v => by unfold ati; rw [List.getElem?_replicate]; split <;> rfl
  refine ⟨by simp, fun v hv => ?_, fun v => ?_⟩
  · rw [ati_set hi]
    by_cases e : v = f
    · rw [if_pos e]; exact .inl ⟨0, by omega, .inl ⟨e, rfl⟩, rfl⟩
    · rw [if_neg e, hr]
      refine .inr ⟨rfl, fun m hm => ?_⟩
      rcases hm with ⟨h1, -⟩ | ⟨-, hc, -⟩
      · exact absurd h1 e
      · exact hc.pos
  · simp only [List.mem_singleton, Nat.sub_self]
    constructor
    · rintro rfl; exact ⟨hf, .inl ⟨rfl, rfl⟩⟩
    · rintro ⟨-, h⟩
      rcases h with ⟨h, -⟩ | ⟨-, hc, -⟩
      · exact h
      · have := hc.pos; omega
end Go.Proofs.Ytinenohgemndiaa
