/-
  What constraints are unrolled to fits the class, and is unrolled to itself. No program is in sight here.
-/
import Derived.Test.YthoebpnbhgmoiaaDoorItv
set_option linter.unusedVariables false
set_option linter.unusedSimpArgs false
set_option linter.unusedSectionVars false
namespace Go.Proofs.YthoebpnbhgmoiaaDoor
open Go.RowKit
theorem inB_app (s : ByteArray) (l r : List ByteArray) : inB s (l ++ r) = (inB s l || inB s r) := by
  unfold inB; rw [List.any_append]
theorem inB_one (s t : ByteArray) : inB s [t] = decide (t = s) := by unfold inB; simp
theorem wkE_mem (f : It → Nat → List ByteArray → Int) (l : List It) (d : Nat) (bd : List ByteArray) : wkE f l d bd = 0 ↔ ∀ x, x ∈ l → f x d bd = 0 ∧ wkE f x.items (dep x d) (bnd x bd) = 0 ∧ wkE f x.els (dep x d) bd = 0 := by
  induction l with
  | nil => simp [wkE_nil]
  | cons a r ih =>
    rw [wkE_cons, List.forall_mem_cons, ← ih]
    by_cases h1 : f a d bd = 0
    · rw [if_pos h1]
      by_cases h2 : wkE f a.items (dep a d) (bnd a bd) = 0
      · rw [if_pos h2]
        by_cases h3 : wkE f a.els (dep a d) bd = 0
        · rw [if_pos h3]; exact ⟨fun h => ⟨⟨h1, h2, h3⟩, h⟩, fun h => h.2⟩
        · rw [if_neg h3]; exact ⟨fun h => absurd h h3, fun h => absurd h.1.2.2 h3⟩
      · rw [if_neg h2]; exact ⟨fun h => absurd h h2, fun h => absurd h.1.2.1 h2⟩
    · rw [if_neg h1]; exact ⟨fun h => absurd h h1, fun h => absurd h.1.1 h1⟩
theorem nodesL_mem {l : List Ex} {n : Ex} : n ∈ nodesL l ↔ ∃ a, a ∈ l ∧ n ∈ nodesE a := by
  induction l with
  | nil => simp [nodesL]
  | cons b r ih => rw [nodesL, List.mem_append, ih]; simp
theorem nodes_sub (nm : ByteArray) (c : Int) (e : Ex) : ∀ n, n ∈ nodesE (subE nm (constE c) e) → n.op = 1 ∨ ∃ m, m ∈ nodesE e ∧ m.op = n.op ∧ m.name = n.name ∧ ¬ (n.op = 2 ∧ n.name = nm) := by
  induction e using Ex.ind with
  | h o k s l ih =>
  intro n hn
  rw [subE] at hn
  split at hn
  · left
    unfold constE at hn
    rw [nodesE, nodesL] at hn
    rw [List.mem_singleton.1 hn]; rfl
  · rename_i hc
    rw [nodesE] at hn
    rcases List.mem_cons.1 hn with rfl | hn
    · refine .inr ⟨.mk o k s l, by rw [nodesE]; exact List.mem_cons_self .., rfl, rfl, fun h => hc ?_⟩
      have h : o = 2 ∧ s = nm := h
      simp [h.1, h.2]
    · rw [subsE_map, nodesL_mem] at hn
      obtain ⟨a, ha, hn⟩ := hn
      obtain ⟨b, hb, rfl⟩ := List.mem_map.1 ha
      rcases ih b hb n hn with h | ⟨m, h1, h2⟩
      · exact .inl h
      · exact .inr ⟨m, by rw [nodesE]; exact List.mem_cons_of_mem _ (nodesL_mem.2 ⟨b, hb, h1⟩), h2⟩
section
variable (spl : ByteArray → Option (ByteArray × Int)) (fs : List (ByteArray × Int))
theorem first_zero (l : List Int) : firstE l = 0 ↔ ∀ a, a ∈ l → a = 0 := by
  unfold firstE
  cases h : l.find? (· ≠ 0) with
  | none =>
    rw [List.find?_eq_none] at h
    exact ⟨fun _ a ha => by have := h a ha; simpa using this, fun _ => rfl⟩
  | some x =>
    have h1 := List.find?_some h
    have h2 := List.mem_of_find?_eq_some h
    have h1 : x ≠ 0 := by simpa using h1
    exact ⟨fun hx => absurd hx h1, fun hx => absurd (hx x h2) h1⟩
theorem exprC_zero (bd : List ByteArray) (e : Ex) : exprC spl fs bd e = 0 ↔ ∀ n, n ∈ nodesE e → nodeC spl fs bd n = 0 := by
  unfold exprC
  rw [first_zero]; simp
def Less (ix : ByteArray) (bd' bd : List ByteArray) : Prop := ∀ s, inB s bd' = (inB s bd || decide (s = ix))
theorem Less.app {ix : ByteArray} {bd' bd : List ByteArray} (h : Less ix bd' bd) (y : ByteArray) : Less ix (bd' ++ [y]) (bd ++ [y]) := fun s => by
  rw [inB_app, inB_app, h s]
  cases inB s bd <;> cases inB s [y] <;> cases decide (s = ix) <;> rfl
theorem Less.start (ix : ByteArray) (bd : List ByteArray) : Less ix (bd ++ [ix]) bd := fun s => by
  rw [inB_app, inB_one]
  congr 1
  exact decide_eq_decide.2 ⟨Eq.symm, Eq.symm⟩
theorem exprC_sub {ix : ByteArray} {bd' bd : List ByteArray} (h : Less ix bd' bd) (c : Int) {e : Ex} (he : exprC spl fs bd' e = 0) : exprC spl fs bd (subE ix (constE c) e) = 0 := by
  rw [exprC_zero] at he ⊢
  intro n hn
  rcases nodes_sub ix c e n hn with h1 | ⟨m, h1, h2, h3, h4⟩
  · unfold nodeC; rw [h1]; rfl
  · have := he m h1
    unfold nodeC at this ⊢
    rw [h2, h3] at this
    by_cases e2 : n.op = 2
    · rw [if_pos e2] at this ⊢
      have e3 : ¬ n.name = ix := fun h => h4 ⟨e2, h⟩
      rw [h n.name, decide_eq_false e3, Bool.or_false] at this
      exact this
    · rw [if_neg e2] at this ⊢; exact this
theorem one_sub {ix : ByteArray} {bd' bd : List ByteArray} (h : Less ix bd' bd) (c : Int) {x : It} {d : Nat} (hx : oneE spl fs x d bd' = 0) : oneE spl fs (subI ix (constE c) x) d bd = 0 := by
  rw [subI_eq]
  unfold oneE at hx ⊢
  show (if x.kind = 3 then _ else if x.kind = 6 then _ else if x.kind = 5 then _ else exprC spl fs bd (subE ix (constE c) x.ex)) = 0
  split
  · rename_i h3; rw [if_pos h3] at hx; exact hx
  · rename_i h3
    rw [if_neg h3] at hx
    split
    · rename_i h6; rw [if_pos h6] at hx; exact hx
    · rename_i h6
      rw [if_neg h6] at hx
      split
      · rename_i h5
        rw [if_pos h5] at hx
        show (if arrE fs x.name ≠ 0 then arrE fs x.name else if (fsz fs x.idx).isSome = true ∨ inB x.idx bd = true then 8 else 0) = 0
        by_cases ha : arrE fs x.name ≠ 0
        · rw [if_pos ha] at hx; exact absurd hx ha
        · rw [if_neg ha] at hx ⊢
          by_cases hb : (fsz fs x.idx).isSome = true ∨ inB x.idx bd' = true
          · rw [if_pos hb] at hx; cases hx
          · rw [if_neg fun hh => hb (hh.imp_right fun hh => by rw [h x.idx, hh]; rfl)]
      · rename_i h5
        rw [if_neg h5] at hx
        exact exprC_sub spl fs h c hx
theorem chk_sub (ix : ByteArray) (c : Int) : ∀ (l : List It) (d : Nat) (bd' bd : List ByteArray), Less ix bd' bd → wkE (oneE spl fs) l d bd' = 0 → wkE (oneE spl fs) (subIs ix (constE c) l) d bd = 0 := by
  refine its_ind (fun d bd' bd _ _ => by rw [subIs, wkE_nil]) fun x r h1 h2 h3 d bd' bd hb h => ?_
  rw [wkE_mem] at h
  have hx := h x (List.mem_cons_self ..)
  rw [subIs, wkE_mem, List.forall_mem_cons, ← wkE_mem]
  have ek : (subI ix (constE c) x).kind = x.kind := by rw [subI_eq]; rfl
  have ei : (subI ix (constE c) x).idx = x.idx := by rw [subI_eq]; rfl
  have e1 : (subI ix (constE c) x).items = subIs ix (constE c) x.items := by rw [subI_eq]; rfl
  have e2 : (subI ix (constE c) x).els = subIs ix (constE c) x.els := by rw [subI_eq]; rfl
  have ed : dep (subI ix (constE c) x) d = dep x d := by unfold dep; rw [ek]
  have eb : bnd (subI ix (constE c) x) bd = bnd x bd := by unfold bnd; rw [ek, ei]
  rw [ed, eb, e1, e2]
  refine ⟨⟨one_sub spl fs hb c hx.1, h1 _ _ _ ?_ hx.2.1, h2 _ _ _ hb hx.2.2⟩, h3 _ _ _ hb ((wkE_mem _ _ _ _).2 fun y hy => h y (List.mem_cons_of_mem _ hy))⟩
  unfold bnd
  split
  · exact hb.app _
  · exact hb
theorem exprC_under {op : Int} (ho : op ≠ 2 ∧ op ≠ 3 ∧ op ≠ 24) {q : Option Ex} (hq : ∀ c, q = some c → exprC spl fs [] c = 0) {e : Ex} (he : exprC spl fs [] e = 0) : exprC spl fs [] (underE op q e) = 0 := by
  cases q with
  | none => exact he
  | some c =>
    have hc := hq c rfl
    rw [exprC_zero] at hc he ⊢
    intro n hn
    unfold underE at hn
    rw [nodesE, nodesL, nodesL, nodesL, List.append_nil, List.mem_cons, List.mem_append] at hn
    rcases hn with rfl | hn | hn
    · unfold nodeC
      rw [if_neg (show ¬ (Ex.mk op 0 ⟨#[]⟩ [c, e]).op = 2 from ho.1), if_neg (show ¬ ((Ex.mk op 0 ⟨#[]⟩ [c, e]).op = 3 ∨ (Ex.mk op 0 ⟨#[]⟩ [c, e]).op = 24) from fun h => h.elim ho.2.1 ho.2.2)]
    · exact hc n hn
    · exact he n hn
theorem exprC_not {e : Ex} (he : exprC spl fs [] e = 0) : exprC spl fs [] (notE e) = 0 := by
  rw [exprC_zero] at he ⊢
  intro n hn
  unfold notE at hn
  rw [nodesE, nodesL, nodesL, List.append_nil, List.mem_cons] at hn
  rcases hn with rfl | hn
  · rfl
  · exact he n hn
structure Flat (y : It) : Prop where
  one : oneE spl fs y 0 [] = 0
  form : (∃ e, y = itE y.kind e ∧ (y.kind = 1 ∨ y.kind = 2)) ∨ (itD y = y ∧ y.kind = 3) ∨ (itS y = y ∧ y.kind = 6)
theorem exps_flat : ∀ (k : Nat) (l : List It) (d : Nat) (q : Option Ex), frm l d → wkE (oneE spl fs) l d [] = 0 → (∀ c, q = some c → exprC spl fs [] c = 0) → ∀ y, y ∈ exps fs k l q → Flat spl fs y := by
  intro k
  induction k with
  | zero => intro l d q _ _ _ y hy; cases hy
  | succ k ih =>
    intro l d q hf hl hq y hy
    rw [exps_eq, List.mem_flatMap] at hy
    obtain ⟨x, hx, hy⟩ := hy
    obtain ⟨h1, h2, h3⟩ := (wkE_mem _ _ _ _).1 hl x hx
    obtain ⟨g1, g2, g3, g4, g5⟩ := (frm1_eq x d).1 (frm_mem hf hx)
    unfold exp1 at hy
    unfold oneE at h1
    split at hy
    · rename_i hk
      rw [if_neg (by omega), if_neg (by omega), if_neg (by omega)] at h1
      rw [List.mem_singleton.1 hy]
      refine ⟨?_, .inl ⟨_, rfl, hk⟩⟩
      unfold oneE
      show (if x.kind = 3 then _ else if x.kind = 6 then _ else if x.kind = 5 then _ else exprC spl fs [] (underE 21 q x.ex)) = 0
      rw [if_neg (by omega), if_neg (by omega), if_neg (by omega)]
      exact exprC_under spl fs (by decide) hq h1
    · split at hy
      · rename_i hk
        rw [if_neg (by omega), if_neg (by omega), if_neg (by omega)] at h1
        have hb : bnd x [] = [] := if_neg (by omega)
        have hd : dep x d = d + 1 := if_pos (.inl hk)
        rw [hb, hd] at h2
        rw [hd] at h3
        rcases List.mem_append.1 hy with hy | hy
        · exact ih _ _ _ g4 h2 (fun c hc => by cases hc; exact exprC_under spl fs (by decide) hq h1) y hy
        · exact ih _ _ _ g5 h3 (fun c hc => by cases hc; exact exprC_under spl fs (by decide) hq (exprC_not spl fs h1)) y hy
      · split at hy
        · rename_i hk
          rw [List.mem_flatMap] at hy
          obtain ⟨j, -, hy⟩ := hy
          have hb : bnd x [] = [] ++ [x.idx] := if_pos hk
          have hd : dep x d = d + 1 := if_pos (.inr hk)
          rw [hb, hd] at h2
          exact ih _ _ _ (frm_sub _ _ _ _ g4) (chk_sub spl fs _ _ _ _ _ _ (.start _ _) h2) hq y hy
        · split at hy
          · rename_i hk
            rw [if_pos hk] at h1
            rw [List.mem_singleton.1 hy]
            refine ⟨?_, .inr (.inl ⟨rfl, hk⟩)⟩
            unfold oneE
            show (if x.kind = 3 then (if eithB spl fs x.name = true then 0 else 7) else _) = 0
            rw [if_pos hk]; exact h1
          · rename_i hk
            have hk6 : x.kind = 6 := by omega
            rw [if_neg hk, if_pos hk6] at h1
            rw [List.mem_singleton.1 hy]
            refine ⟨?_, .inr (.inr ⟨rfl, hk6⟩)⟩
            unfold oneE
            show (if x.kind = 3 then _ else if x.kind = 6 then (if (x.bef ++ x.aft).all (eithB spl fs) = true then 0 else 7) else _) = 0
            rw [if_neg hk, if_pos hk6]; exact h1
theorem Flat.leaf {y : It} (h : Flat spl fs y) : y.items = [] ∧ y.els = [] := by
  rcases h.form with ⟨e, h, -⟩ | ⟨h, -⟩ | ⟨h, -⟩
  · rw [h]; exact ⟨rfl, rfl⟩
  · rw [← h]; exact ⟨rfl, rfl⟩
  · rw [← h]; exact ⟨rfl, rfl⟩
theorem flat_check {l : List It} (h : ∀ y, y ∈ l → Flat spl fs y) : wkE (oneE spl fs) l 0 [] = 0 := by
  rw [wkE_mem]
  intro x hx
  obtain ⟨h1, h2⟩ := (h x hx).leaf
  exact ⟨(h x hx).one, by rw [h1, wkE_nil], by rw [h2, wkE_nil]⟩
theorem flat_exps {l : List It} (k : Nat) (h : ∀ y, y ∈ l → Flat spl fs y) : exps fs (k + 1) l none = l := by
  rw [exps_eq]
  induction l with
  | nil => rfl
  | cons y r ih =>
    rw [List.flatMap_cons, ih fun x hx => h x (List.mem_cons_of_mem _ hx)]
    have : exp1 fs k y none = [y] := by
      unfold exp1
      rcases (h y (List.mem_cons_self ..)).form with ⟨e, h1, h2⟩ | ⟨h1, h2⟩ | ⟨h1, h2⟩
      · rw [if_pos h2, h1]; rfl
      · rw [if_neg (by omega), if_neg (by omega), if_neg (by omega), if_pos h2, h1]
      · rw [if_neg (by omega), if_neg (by omega), if_neg (by omega), if_neg (by omega), h1]
    rw [this]; rfl
end
end Go.Proofs.YthoebpnbhgmoiaaDoor
