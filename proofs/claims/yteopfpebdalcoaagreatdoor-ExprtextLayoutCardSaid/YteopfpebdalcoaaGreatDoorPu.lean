/-
  The grammar on tokens: what stands behind, what lines the tokens have, how many nodes there are. No program is in sight here.
-/
import Derived.Test.YteopfpebdalcoaaGreatDoorPt2
set_option linter.unusedVariables false
set_option linter.unusedSimpArgs false
set_option linter.unusedSectionVars false
namespace Go.Proofs.YteopfpebdalcoaaGreatDoor
open Go.RowKit
theorem acc_app {m : ByteArray} {r r1 : List Tok} (q : List Tok) (h : acc m r = some r1) : acc m (r ++ q) = some (r1 ++ q) := by
  cases r with
  | nil => cases h
  | cons t r =>
    simp only [acc, List.cons_append] at h ⊢
    split at h
    · rename_i hc; cases h; rw [if_pos hc]
    · cases h
theorem acc_none {m : ByteArray} {r q : List Tok} (h : acc m r = none) (hq : acc m q = none) : acc m (r ++ q) = none := by
  cases r with
  | nil => exact hq
  | cons t r =>
    simp only [acc, List.cons_append] at h ⊢
    split at h
    · cases h
    · rename_i hc; rw [if_neg hc]
theorem acc_cons {m : ByteArray} {t : Tok} {r q : List Tok} (h : acc m (t :: r) = none) : acc m (t :: r ++ q) = none := by
  simp only [acc, List.cons_append] at h ⊢
  split at h
  · cases h
  · rename_i hc; rw [if_neg hc]
theorem nameP_app {r r1 : List Tok} {s : ByteArray} (q : List Tok) (h : nameP r = some (s, r1)) : nameP (r ++ q) = some (s, r1 ++ q) := by
  cases r with
  | nil => cases h
  | cons t r =>
    simp only [nameP, List.cons_append] at h ⊢
    split at h
    · rename_i hc; cases h; rw [if_pos hc]
    · cases h
theorem numP_app {r r1 : List Tok} {n : Int} (q : List Tok) (h : numP r = some (n, r1)) : numP (r ++ q) = some (n, r1 ++ q) := by
  cases r with
  | nil => cases h
  | cons t r =>
    simp only [numP, List.cons_append] at h ⊢
    split at h
    · rename_i hc; cases h; rw [if_pos hc]
    · cases h
theorem numP_cons {t : Tok} {r q : List Tok} (h : numP (t :: r) = none) : numP (t :: r ++ q) = none := by
  simp only [numP, List.cons_append] at h ⊢
  split at h
  · cases h
  · rename_i hc; rw [if_neg hc]
theorem operL_app {k : Nat} {t : Tok} {r q : List Tok} : ∀ l, operL l k (t :: r ++ q) = (operL l k (t :: r)).map fun p => (p.1, p.2 ++ q)
  | [] => rfl
  | b :: l => by
    simp only [operL]
    split
    · cases h : acc b.1 (t :: r) with
      | some r1 => rw [acc_app q h]; rfl
      | none => rw [acc_cons h]; exact operL_app l
    · exact operL_app l
theorem operP_app {k : Nat} {t : Tok} {r q : List Tok} : operP k (t :: r ++ q) = (operP k (t :: r)).map fun p => (p.1, p.2.1, p.2.2 ++ q) := by
  unfold operP
  rw [operL_app]
  cases operL binTab k (t :: r) with
  | some p => rfl
  | none =>
    simp only [Option.map_none]
    split
    · cases h : acc (mark1 62) (t :: r) with
      | some r1 => rw [acc_app q h]; rfl
      | none =>
        rw [acc_cons h]
        simp only
        cases h2 : acc (mark2 62 61) (t :: r) with
        | some r1 => rw [acc_app q h2]; rfl
        | none => rw [acc_cons h2]; rfl
    · rfl
theorem bind_ok {x : PR} {f : Ex → List Tok → PR} {e : Ex} {r : List Tok} (h : x.bind f = .ok e r) : ∃ a r1, x = .ok a r1 ∧ f a r1 = .ok e r := by
  cases x with
  | out => cases h
  | bad c r => cases h
  | ok a r1 => exact ⟨a, r1, rfl, h⟩
theorem fail_ok {r r1 : List Tok} {e : Ex} : failP r ≠ .ok e r1 := by cases r <;> (intro h; cases h)
def PK.good : PK → Prop
  | .L k => 3 ≤ k
  | .Lp k _ => 3 ≤ k
  | _ => True
theorem ext_prim {rec : PK → List Tok → PR} {q : List Tok} (hq : Stop 1 q) (h : ∀ k r e r1, PK.good k → rec k r = .ok e r1 → par k (r ++ q) = .ok e (r1 ++ q)) {r : List Tok} {e : Ex} {r9 : List Tok} (hp : primP rec r = .ok e r9) : primP par (r ++ q) = .ok e (r9 ++ q) := by
  unfold primP at hp ⊢
  cases r with
  | nil => cases hp
  | cons t r =>
  cases h1 : acc (mark1 40) (t :: r) with
  | some r1 =>
    rw [h1] at hp
    rw [acc_app q h1]
    simp only at hp ⊢
    obtain ⟨a, r2, g1, g2⟩ := bind_ok hp
    rw [h _ _ _ _ (by trivial) g1]
    simp only [PR.bind]
    cases h2 : acc (mark1 41) r2 with
    | some r3 => rw [h2] at g2; rw [acc_app q h2]; cases g2; rfl
    | none => rw [h2] at g2; exact absurd g2 fail_ok
  | none =>
  rw [h1] at hp
  rw [acc_cons h1]
  simp only at hp ⊢
  cases h2 : numP (t :: r) with
  | some p =>
    obtain ⟨n, r1⟩ := p
    rw [h2] at hp
    rw [numP_app q h2]
    simp only at hp ⊢
    split at hp
    · cases hp
    · rename_i hc; rw [if_neg hc]; cases hp; rfl
  | none =>
  rw [h2] at hp
  rw [numP_cons h2]
  simp only at hp ⊢
  cases h3 : nameP (t :: r) with
  | none => rw [h3] at hp; exact absurd hp fail_ok
  | some p =>
  obtain ⟨s, r1⟩ := p
  rw [h3] at hp
  rw [nameP_app q h3]
  simp only at hp ⊢
  have hA : ∀ {m r2}, acc m r1 = some r2 → acc m (r1 ++ q) = some (r2 ++ q) := fun h => acc_app q h
  have hN : ∀ (c : Prop) [Decidable c], (if c then acc (mark1 40) r1 else none) = none → (if c then acc (mark1 40) (r1 ++ q) else none) = none := fun c _ hh => by
    split
    · rename_i hc; rw [if_pos hc] at hh; exact acc_none hh hq.p
    · rfl
  have hS : ∀ (c : Prop) [Decidable c] {r2}, (if c then acc (mark1 40) r1 else none) = some r2 → (if c then acc (mark1 40) (r1 ++ q) else none) = some (r2 ++ q) := fun c _ r2 hh => by
    split
    · rename_i hc; rw [if_pos hc] at hh; exact hA hh
    · rename_i hc; rw [if_neg hc] at hh; cases hh
  cases h4 : (if s = sumW then acc (mark1 40) r1 else none) with
  | some r2 =>
    rw [h4] at hp
    rw [hS _ h4]
    simp only at hp ⊢
    cases h5 : nameP r2 with
    | none => rw [h5] at hp; exact absurd hp fail_ok
    | some p =>
      obtain ⟨a, r3⟩ := p
      rw [h5] at hp
      rw [nameP_app q h5]
      simp only at hp ⊢
      cases h6 : acc (mark1 41) r3 with
      | some r4 => rw [h6] at hp; rw [acc_app q h6]; cases hp; rfl
      | none => rw [h6] at hp; exact absurd hp fail_ok
  | none =>
  rw [h4] at hp
  rw [hN _ h4]
  simp only at hp ⊢
  cases h5 : (if s = onesW then acc (mark1 40) r1 else none) with
  | some r2 =>
    rw [h5] at hp
    rw [hS _ h5]
    simp only at hp ⊢
    obtain ⟨a, r3, g1, g2⟩ := bind_ok hp
    rw [h _ _ _ _ (by trivial) g1]
    simp only [PR.bind]
    cases h6 : acc (mark1 41) r3 with
    | some r4 => rw [h6] at g2; rw [acc_app q h6]; cases g2; rfl
    | none => rw [h6] at g2; exact absurd g2 fail_ok
  | none =>
  rw [h5] at hp
  rw [hN _ h5]
  simp only at hp ⊢
  cases h6 : acc (mark1 91) r1 with
  | some r2 =>
    rw [h6] at hp
    rw [hA h6]
    simp only at hp ⊢
    obtain ⟨a, r3, g1, g2⟩ := bind_ok hp
    rw [h _ _ _ _ (by trivial) g1]
    simp only [PR.bind]
    cases h7 : acc (mark1 93) r3 with
    | some r4 => rw [h7] at g2; rw [acc_app q h7]; cases g2; rfl
    | none => rw [h7] at g2; exact absurd g2 fail_ok
  | none =>
  rw [h6] at hp
  rw [acc_none h6 hq.b]
  simp only at hp ⊢
  cases h7 : acc (mark1 64) r1 with
  | some r2 =>
    rw [h7] at hp
    rw [hA h7]
    simp only at hp ⊢
    cases h8 : numP r2 with
    | none => rw [h8] at hp; exact absurd hp fail_ok
    | some p =>
      obtain ⟨n, r3⟩ := p
      rw [h8] at hp
      rw [numP_app q h8]
      simp only at hp ⊢
      split at hp
      · cases hp
      · rename_i hc; rw [if_neg hc]; cases hp; rfl
  | none =>
    rw [h7] at hp
    rw [acc_none h7 hq.a]
    simp only at hp ⊢
    cases hp; rfl
theorem ext_step {rec : PK → List Tok → PR} {q : List Tok} (hq : Stop 1 q) (h : ∀ k r e r1, PK.good k → rec k r = .ok e r1 → par k (r ++ q) = .ok e (r1 ++ q)) (h0 : ∀ e r1, rec .P [] ≠ .ok e r1) (k : PK) (hk : k.good) {r : List Tok} {e : Ex} {r9 : List Tok} (hp : stepP rec k r = .ok e r9) : stepP par k (r ++ q) = .ok e (r9 ++ q) := by
  cases k with
  | W =>
    simp only [stepP] at hp ⊢
    obtain ⟨c, r1, g1, g2⟩ := bind_ok hp
    rw [h _ _ _ _ (by trivial) g1, PR.bind]
    cases h1 : acc (mark1 63) r1 with
    | none => rw [h1] at g2; rw [acc_none h1 (hq.q (by omega))]; cases g2; rfl
    | some r2 =>
      rw [h1] at g2
      rw [acc_app q h1]
      simp only at g2 ⊢
      obtain ⟨a, r3, k1, k2⟩ := bind_ok g2
      rw [h _ _ _ _ (by trivial) k1, PR.bind]
      cases h2 : acc (mark1 58) r3 with
      | none => rw [h2] at k2; exact absurd k2 fail_ok
      | some r4 =>
        rw [h2] at k2
        rw [acc_app q h2]
        simp only at k2 ⊢
        obtain ⟨b, r5, l1, l2⟩ := bind_ok k2
        rw [h _ _ _ _ (by trivial) l1, PR.bind]
        cases l2; rfl
  | I =>
    simp only [stepP] at hp ⊢
    obtain ⟨c, r1, g1, g2⟩ := bind_ok hp
    rw [h _ _ _ _ (by exact Nat.le_refl 3) g1, PR.bind]
    cases h1 : acc (mark2 61 62) r1 with
    | none => rw [h1] at g2; rw [acc_none h1 (hq.im (by omega))]; cases g2; rfl
    | some r2 =>
      rw [h1] at g2
      rw [acc_app q h1]
      simp only at g2 ⊢
      obtain ⟨a, r3, k1, k2⟩ := bind_ok g2
      rw [h _ _ _ _ (by trivial) k1, PR.bind]
      cases k2; rfl
  | L k =>
    simp only [stepP] at hp ⊢
    split at hp
    · rename_i hc; rw [if_pos hc]; exact h _ _ _ _ (by trivial) hp
    · rename_i hc
      rw [if_neg hc]
      obtain ⟨c, r1, g1, g2⟩ := bind_ok hp
      rw [h _ _ _ _ (by show 3 ≤ k + 1; exact Nat.le_succ_of_le hk) g1, PR.bind]
      exact h _ _ _ _ hk g2
  | Lp k a =>
    simp only [stepP] at hp ⊢
    cases h1 : (if k = 9 then acc insideW r else none) with
    | some r1 =>
      rw [h1] at hp
      have : (if k = 9 then acc insideW (r ++ q) else none) = some (r1 ++ q) := by
        split
        · rename_i hc; rw [if_pos hc] at h1; exact acc_app q h1
        · rename_i hc; rw [if_neg hc] at h1; cases h1
      rw [this]
      simp only at hp ⊢
      obtain ⟨c, r2, g1, g2⟩ := bind_ok hp
      rw [h _ _ _ _ (by trivial) g1, PR.bind]
      exact h _ _ _ _ hk g2
    | none =>
      rw [h1] at hp
      have : (if k = 9 then acc insideW (r ++ q) else none) = none := by
        split
        · rename_i hc; rw [if_pos hc] at h1; exact acc_none h1 (hq.ins (by omega))
        · rfl
      rw [this]
      simp only at hp ⊢
      cases r with
      | nil =>
        have hk3 : 3 ≤ k := hk
        have e1 : operP k [] = none := (stop_nil 1).op k (by omega) hk3
        rw [e1] at hp
        simp only at hp
        cases hp
        rw [List.nil_append, hq.op k (by omega) hk3]
      | cons t r =>
        rw [operP_app]
        cases h2 : operP k (t :: r) with
        | none => rw [h2] at hp; cases hp; rfl
        | some p =>
          obtain ⟨o, ex, r1⟩ := p
          rw [h2] at hp
          simp only [Option.map_some] at hp ⊢
          obtain ⟨c, r2, g1, g2⟩ := bind_ok hp
          rw [h _ _ _ _ (by show 3 ≤ k + 1; exact Nat.le_succ_of_le hk) g1, PR.bind]
          exact h _ _ _ _ hk g2
  | In a =>
    simp only [stepP] at hp ⊢
    cases h1 : acc (mark1 123) r with
    | none => rw [h1] at hp; exact absurd hp fail_ok
    | some r1 => rw [h1] at hp; rw [acc_app q h1]; exact h _ _ _ _ (by trivial) hp
  | Ip args =>
    simp only [stepP] at hp ⊢
    obtain ⟨lo, r1, g1, g2⟩ := bind_ok hp
    rw [h _ _ _ _ (by trivial) g1, PR.bind]
    cases h1 : acc (mark2 46 46) r1 with
    | none => rw [h1] at g2; exact absurd g2 fail_ok
    | some r2 =>
      rw [h1] at g2
      rw [acc_app q h1]
      simp only at g2 ⊢
      obtain ⟨hi, r3, k1, k2⟩ := bind_ok g2
      rw [h _ _ _ _ (by trivial) k1, PR.bind]
      cases h2 : acc (mark1 44) r3 with
      | some r4 => rw [h2] at k2; rw [acc_app q h2]; exact h _ _ _ _ (by trivial) k2
      | none =>
        rw [h2] at k2
        simp only at k2
        cases h3 : acc (mark1 125) r3 with
        | none => rw [h3] at k2; exact absurd k2 fail_ok
        | some r5 =>
          rw [h3] at k2
          have hne : acc (mark1 44) (r3 ++ q) = none := by
            cases r3 with
            | nil => cases h3
            | cons t r3 => exact acc_cons h2
          rw [hne, acc_app q h3]
          cases k2; rfl
  | U =>
    simp only [stepP] at hp ⊢
    cases r with
    | nil =>
      exact absurd hp (h0 _ _)
    | cons t r =>
      cases h1 : acc (mark1 33) (t :: r) with
      | some r1 =>
        rw [h1] at hp
        rw [acc_app q h1]
        simp only at hp ⊢
        obtain ⟨c, r2, g1, g2⟩ := bind_ok hp
        rw [h _ _ _ _ (by trivial) g1, PR.bind]
        cases g2; rfl
      | none =>
      rw [h1] at hp
      rw [acc_cons h1]
      simp only at hp ⊢
      cases h2 : acc (mark1 126) (t :: r) with
      | some r1 =>
        rw [h2] at hp
        rw [acc_app q h2]
        simp only at hp ⊢
        obtain ⟨c, r2, g1, g2⟩ := bind_ok hp
        rw [h _ _ _ _ (by trivial) g1, PR.bind]
        cases g2; rfl
      | none =>
      rw [h2] at hp
      rw [acc_cons h2]
      simp only at hp ⊢
      cases h3 : acc (mark1 45) (t :: r) with
      | some r1 =>
        rw [h3] at hp
        rw [acc_app q h3]
        simp only at hp ⊢
        obtain ⟨c, r2, g1, g2⟩ := bind_ok hp
        rw [h _ _ _ _ (by trivial) g1, PR.bind]
        cases g2; rfl
      | none =>
        rw [h3] at hp
        rw [acc_cons h3]
        exact h _ _ _ _ (by trivial) hp
  | P => exact ext_prim hq h hp
theorem ext_fuel {q : List Tok} (hq : Stop 1 q) : ∀ (n : Nat) (k : PK) (r : List Tok) (e : Ex) (r1 : List Tok), k.good → pfuel n k r = .ok e r1 → par k (r ++ q) = .ok e (r1 ++ q)
  | 0, _, _, _, _, _, h => by cases h
  | n + 1, k, r, e, r1, hk, h => by
    rw [par_eq]
    refine ext_step hq (fun k r e r1 hk h => ext_fuel hq n k r e r1 hk h) (fun e r1 h => ?_) k hk h
    cases n with
    | zero => cases h
    | succ n => cases h
theorem bp_of {T : List Tok} {e : Ex} (h : par .W T = .ok e []) : Bp 1 T e := fun r hr => by
  exact ext_fuel hr _ .W T e [] trivial h
theorem par_paren {T : List Tok} {e : Ex} (h : par .W T = .ok e []) : par .W (tm (mark1 40) :: (T ++ [tm (mark1 41)])) = .ok e [] := by
  have h14 := paren (bp_of h)
  have d13 : Bp 13 (tm (mark1 40) :: (T ++ [tm (mark1 41)])) e := desc h14 (by omega) (by omega) fun _ r => ⟨acc_ne (by decide +kernel), acc_ne (by decide +kernel), acc_ne (by decide +kernel)⟩
  have down : ∀ n k, k + n = 13 → 1 ≤ k → Bp k (tm (mark1 40) :: (T ++ [tm (mark1 41)])) e := by
    intro n
    induction n with
    | zero => intro k hk h1; have : k = 13 := by omega
              subst this; exact d13
    | succ n ih => intro k hk h1; exact desc (ih (k + 1) (by omega) (by omega)) h1 (by omega) fun e => by omega
  have := down 12 1 (by omega) (by omega) [] (stop_nil 1)
  simpa [pk] using this
def PR.mapT (f : Tok → Tok) : PR → PR
  | .out => .out
  | .bad c r => .bad c (r.map f)
  | .ok e r => .ok e (r.map f)
structure SameTok (f : Tok → Tok) : Prop where
  kind : ∀ t, (f t).kind = t.kind
  num : ∀ t, (f t).num = t.num
  text : ∀ t, (f t).text = t.text
section
variable {f : Tok → Tok} (hf : SameTok f)
include hf
theorem vTok_same (t : Tok) : vTok (f t) = vTok t := by unfold vTok; rw [hf.kind, hf.num, hf.text]
theorem acc_map (m : ByteArray) (r : List Tok) : acc m (r.map f) = (acc m r).map (List.map f) := by
  cases r with
  | nil => rfl
  | cons t r =>
    simp only [acc, List.map_cons, vTok_same hf, hf.kind, hf.text]
    split <;> rfl
theorem nameP_map (r : List Tok) : nameP (r.map f) = (nameP r).map fun p => (p.1, p.2.map f) := by
  cases r with
  | nil => rfl
  | cons t r =>
    simp only [nameP, List.map_cons, vTok_same hf, hf.kind, hf.text]
    split <;> rfl
theorem numP_map (r : List Tok) : numP (r.map f) = (numP r).map fun p => (p.1, p.2.map f) := by
  cases r with
  | nil => rfl
  | cons t r =>
    simp only [numP, List.map_cons, vTok_same hf, hf.kind, hf.num]
    split <;> rfl
theorem operL_map (k : Nat) (r : List Tok) : ∀ l, operL l k (r.map f) = (operL l k r).map fun p => (p.1, p.2.map f)
  | [] => rfl
  | b :: l => by
    simp only [operL, acc_map hf]
    split
    · cases acc b.1 r with
      | some r1 => rfl
      | none => exact operL_map k r l
    · exact operL_map k r l
theorem operP_map (k : Nat) (r : List Tok) : operP k (r.map f) = (operP k r).map fun p => (p.1, p.2.1, p.2.2.map f) := by
  unfold operP
  rw [operL_map hf, acc_map hf, acc_map hf]
  cases operL binTab k r with
  | some p => rfl
  | none =>
    simp only [Option.map_none]
    split
    · cases acc (mark1 62) r with
      | some r1 => rfl
      | none =>
        simp only [Option.map_none]
        cases acc (mark2 62 61) r with
        | some r1 => rfl
        | none => rfl
    · rfl
theorem fail_map (r : List Tok) : failP (r.map f) = (failP r).mapT f := by cases r <;> rfl
omit hf in
theorem bind_map {x : PR} {g h : Ex → List Tok → PR} (hg : ∀ e r, h e (r.map f) = (g e r).mapT f) : (x.mapT f).bind h = (x.bind g).mapT f := by
  cases x with
  | out => rfl
  | bad c r => rfl
  | ok e r => exact hg e r
theorem map_prim {rec : PK → List Tok → PR} (h : ∀ k r, rec k (r.map f) = (rec k r).mapT f) (r : List Tok) : primP rec (r.map f) = (primP rec r).mapT f := by
  have hif : ∀ (c : Prop) [Decidable c] (m : ByteArray) (r : List Tok), (if c then acc m (r.map f) else none) = (if c then acc m r else none).map (List.map f) := fun c _ m r => by split <;> simp [acc_map hf]
  unfold primP
  rw [acc_map hf, numP_map hf, nameP_map hf]
  cases acc (mark1 40) r with
  | some r1 =>
    simp only [Option.map_some, h]
    refine bind_map fun e r2 => ?_
    rw [acc_map hf]
    cases acc (mark1 41) r2 with
    | some r3 => rfl
    | none => exact fail_map hf r2
  | none =>
  simp only [Option.map_none]
  cases numP r with
  | some p => simp only [Option.map_some]; split <;> rfl
  | none =>
  simp only [Option.map_none]
  cases nameP r with
  | none => exact fail_map hf r
  | some p =>
  obtain ⟨s, r1⟩ := p
  simp only [Option.map_some, hif]
  cases (if s = sumW then acc (mark1 40) r1 else none) with
  | some r2 =>
    simp only [Option.map_some]
    rw [nameP_map hf]
    cases nameP r2 with
    | none => exact fail_map hf r2
    | some p =>
      obtain ⟨a, r3⟩ := p
      simp only [Option.map_some]
      rw [acc_map hf]
      cases acc (mark1 41) r3 with
      | some r4 => rfl
      | none => exact fail_map hf r3
  | none =>
  simp only [Option.map_none]
  cases (if s = onesW then acc (mark1 40) r1 else none) with
  | some r2 =>
    simp only [Option.map_some, h]
    refine bind_map fun e r3 => ?_
    rw [acc_map hf]
    cases acc (mark1 41) r3 with
    | some r4 => rfl
    | none => exact fail_map hf r3
  | none =>
  simp only [Option.map_none]
  rw [acc_map hf, acc_map hf]
  cases acc (mark1 91) r1 with
  | some r2 =>
    simp only [Option.map_some, h]
    refine bind_map fun e r3 => ?_
    rw [acc_map hf]
    cases acc (mark1 93) r3 with
    | some r4 => rfl
    | none => exact fail_map hf r3
  | none =>
  simp only [Option.map_none]
  cases acc (mark1 64) r1 with
  | some r2 =>
    simp only [Option.map_some]
    rw [numP_map hf]
    cases numP r2 with
    | none => exact fail_map hf r2
    | some p => simp only [Option.map_some]; split <;> rfl
  | none => rfl
theorem map_step {rec : PK → List Tok → PR} (h : ∀ k r, rec k (r.map f) = (rec k r).mapT f) (k : PK) (r : List Tok) : stepP rec k (r.map f) = (stepP rec k r).mapT f := by
  cases k with
  | W =>
    simp only [stepP, h]
    refine bind_map fun c r1 => ?_
    rw [acc_map hf]
    cases acc (mark1 63) r1 with
    | none => rfl
    | some r2 =>
      simp only [Option.map_some, h]
      refine bind_map fun a r3 => ?_
      rw [acc_map hf]
      cases acc (mark1 58) r3 with
      | none => exact fail_map hf r3
      | some r4 =>
        simp only [Option.map_some, h]
        exact bind_map fun b r5 => rfl
  | I =>
    simp only [stepP, h]
    refine bind_map fun c r1 => ?_
    rw [acc_map hf]
    cases acc (mark2 61 62) r1 with
    | none => rfl
    | some r2 =>
      simp only [Option.map_some, h]
      exact bind_map fun b r5 => rfl
  | L k =>
    simp only [stepP, h]
    split
    · rfl
    · exact bind_map fun a r1 => h _ _
  | Lp k a =>
    simp only [stepP]
    have hif : (if k = 9 then acc insideW (r.map f) else none) = (if k = 9 then acc insideW r else none).map (List.map f) := by split <;> simp [acc_map hf]
    rw [hif, operP_map hf]
    cases (if k = 9 then acc insideW r else none) with
    | some r1 =>
      simp only [Option.map_some, h]
      exact bind_map fun b r2 => h _ _
    | none =>
      simp only [Option.map_none]
      cases operP k r with
      | none => rfl
      | some p =>
        simp only [Option.map_some, h]
        exact bind_map fun b r2 => h _ _
  | In a =>
    simp only [stepP]
    rw [acc_map hf]
    cases acc (mark1 123) r with
    | none => exact fail_map hf r
    | some r1 => exact h _ _
  | Ip args =>
    simp only [stepP, h]
    refine bind_map fun lo r1 => ?_
    rw [acc_map hf]
    cases acc (mark2 46 46) r1 with
    | none => exact fail_map hf r1
    | some r2 =>
      simp only [Option.map_some, h]
      refine bind_map fun hi r3 => ?_
      rw [acc_map hf, acc_map hf]
      cases acc (mark1 44) r3 with
      | some r4 => exact h _ _
      | none =>
        simp only [Option.map_none]
        cases acc (mark1 125) r3 with
        | some r5 => rfl
        | none => exact fail_map hf r3
  | U =>
    simp only [stepP]
    rw [acc_map hf, acc_map hf, acc_map hf]
    cases acc (mark1 33) r with
    | some r1 => simp only [Option.map_some, h]; exact bind_map fun a r2 => rfl
    | none =>
    simp only [Option.map_none]
    cases acc (mark1 126) r with
    | some r1 => simp only [Option.map_some, h]; exact bind_map fun a r2 => rfl
    | none =>
    simp only [Option.map_none]
    cases acc (mark1 45) r with
    | some r1 => simp only [Option.map_some, h]; exact bind_map fun a r2 => rfl
    | none => exact h _ _
  | P => exact map_prim hf h r
theorem map_fuel : ∀ (n : Nat) (k : PK) (r : List Tok), pfuel n k (r.map f) = (pfuel n k r).mapT f
  | 0, _, _ => rfl
  | n + 1, k, r => map_step hf (map_fuel n) k r
theorem par_map (k : PK) (r : List Tok) : par k (r.map f) = (par k r).mapT f := by
  unfold par
  rw [List.length_map]
  exact map_fuel hf _ k r
end
def PK.size : PK → Nat
  | .Lp _ a => esize a
  | .In a => esize a
  | .Ip l => esizes l
  | _ => 0
theorem esizes_app (a b : List Ex) : esizes (a ++ b) = esizes a + esizes b := by
  induction a with
  | nil => simp [esizes]
  | cons x a ih => simp only [List.cons_append, esizes, ih]; omega
def Sz (k : Nat) (r : List Tok) (x : PR) : Prop := match x with
  | .ok e r1 => r1.length ≤ r.length ∧ esize e ≤ k + (r.length - r1.length)
  | _ => True
theorem sz_bind {k k2 : Nat} {r : List Tok} {x : PR} {f : Ex → List Tok → PR} (h : Sz k r x) (hf : ∀ e r1, x = .ok e r1 → r1.length ≤ r.length → esize e ≤ k + (r.length - r1.length) → Sz k2 r (f e r1)) : Sz k2 r (x.bind f) := by
  cases x with
  | out => trivial
  | bad c r => trivial
  | ok e r1 => exact hf e r1 rfl h.1 h.2
theorem sz_fail {k : Nat} {r r1 : List Tok} : Sz k r (failP r1) := by cases r1 <;> trivial
theorem Sz.up {k k2 : Nat} {r r2 : List Tok} {x : PR} (h : Sz k r2 x) (h1 : r2.length ≤ r.length) (h2 : k ≤ k2 + (r.length - r2.length)) : Sz k2 r x := by
  cases x with
  | out => trivial
  | bad c r => trivial
  | ok e r1 => exact ⟨Nat.le_trans h.1 h1, by have := h.1; have := h.2; omega⟩
theorem sz_prim {rec : PK → List Tok → PR} (h : ∀ k r, Sz k.size r (rec k r)) (r : List Tok) : Sz 0 r (primP rec r) := by
  unfold primP
  cases h1 : acc (mark1 40) r with
  | some r1 =>
    have a1 := (acc_len h1).2
    refine sz_bind (k := 0) ((h .W r1).up (by omega) (Nat.zero_le _)) fun e r2 _ l2 s2 => ?_
    cases h2 : acc (mark1 41) r2 with
    | some r3 => have := (acc_len h2).2; exact ⟨by omega, by omega⟩
    | none => exact sz_fail
  | none =>
  cases h2 : numP r with
  | some p =>
    obtain ⟨n, r1⟩ := p
    have := (numP_len h2).2
    simp only
    split
    · trivial
    · exact ⟨by omega, by simp only [esize, esizes]; omega⟩
  | none =>
  cases h3 : nameP r with
  | none => exact sz_fail
  | some p =>
  obtain ⟨s, r1⟩ := p
  have n1 := (nameP_len h3).2
  simp only
  cases h4 : (if s = sumW then acc (mark1 40) r1 else none) with
  | some r2 =>
    have a1 : r2.length < r1.length := by
      split at h4
      · exact (acc_len h4).2
      · cases h4
    simp only
    cases h5 : nameP r2 with
    | none => exact sz_fail
    | some p =>
      obtain ⟨a, r3⟩ := p
      have n2 := (nameP_len h5).2
      simp only
      cases h6 : acc (mark1 41) r3 with
      | some r4 => have := (acc_len h6).2; exact ⟨by omega, by simp only [esize, esizes]; omega⟩
      | none => exact sz_fail
  | none =>
  simp only
  cases h5 : (if s = onesW then acc (mark1 40) r1 else none) with
  | some r2 =>
    have a1 : r2.length < r1.length := by
      split at h5
      · exact (acc_len h5).2
      · cases h5
    refine sz_bind (k := 0) ((h .W r2).up (by omega) (Nat.zero_le _)) fun e r3 e3 l3 s3 => ?_
    have hh := h .W r2
    rw [e3] at hh
    have := hh.2
    have := hh.1
    cases h6 : acc (mark1 41) r3 with
    | some r4 => have := (acc_len h6).2; exact ⟨by omega, by simp only [nodeE, esize, esizes, PK.size] at *; omega⟩
    | none => exact sz_fail
  | none =>
  simp only
  cases h6 : acc (mark1 91) r1 with
  | some r2 =>
    have a1 := (acc_len h6).2
    refine sz_bind (k := 0) ((h .W r2).up (by omega) (Nat.zero_le _)) fun e r3 e3 l3 s3 => ?_
    have hh := h .W r2
    rw [e3] at hh
    have := hh.2
    have := hh.1
    cases h7 : acc (mark1 93) r3 with
    | some r4 => have := (acc_len h7).2; exact ⟨by omega, by simp only [esize, esizes, PK.size] at *; omega⟩
    | none => exact sz_fail
  | none =>
  simp only
  cases h7 : acc (mark1 64) r1 with
  | some r2 =>
    have a1 := (acc_len h7).2
    simp only
    cases h8 : numP r2 with
    | none => exact sz_fail
    | some p =>
      obtain ⟨n, r3⟩ := p
      have := (numP_len h8).2
      simp only
      split
      · trivial
      · exact ⟨by omega, by simp only [esize, esizes]; omega⟩
  | none => exact ⟨by omega, by simp only [esize, esizes]; omega⟩
theorem sz_step {rec : PK → List Tok → PR} (h : ∀ k r, Sz k.size r (rec k r)) (k : PK) (r : List Tok) : Sz k.size r (stepP rec k r) := by
  cases k with
  | W =>
    simp only [stepP]
    refine sz_bind (h .I r) fun c r1 _ l1 s1 => ?_
    simp only [PK.size] at *
    cases h1 : acc (mark1 63) r1 with
    | none => exact ⟨l1, s1⟩
    | some r2 =>
      have a1 := (acc_len h1).2
      refine sz_bind (k := 0) ((h .W r2).up (by omega) (by simp only []; omega)) fun a r3 e3 l3 s3 => ?_
      have hh := h .W r2
      rw [e3] at hh
      obtain ⟨b1, b2⟩ := hh
      simp only [] at b2
      cases h2 : acc (mark1 58) r3 with
      | none => exact sz_fail
      | some r4 =>
        have a2 := (acc_len h2).2
        refine sz_bind (k := 0) ((h .W r4).up (by omega) (by simp only []; omega)) fun b r5 e5 l5 s5 => ?_
        have hh := h .W r4
        rw [e5] at hh
        obtain ⟨d1, d2⟩ := hh
        simp only [] at d2
        exact ⟨by omega, by simp only [nodeE, esize, esizes]; omega⟩
  | I =>
    simp only [stepP]
    refine sz_bind (h (.L 3) r) fun c r1 _ l1 s1 => ?_
    simp only [PK.size] at *
    cases h1 : acc (mark2 61 62) r1 with
    | none => exact ⟨l1, s1⟩
    | some r2 =>
      have a1 := (acc_len h1).2
      refine sz_bind (k := 0) ((h .I r2).up (by omega) (by simp only []; omega)) fun a r3 e3 l3 s3 => ?_
      have hh := h .I r2
      rw [e3] at hh
      obtain ⟨b1, b2⟩ := hh
      simp only [] at b2
      exact ⟨by omega, by simp only [nodeE, esize, esizes]; omega⟩
  | L k =>
    simp only [stepP]
    split
    · exact h .U r
    · refine sz_bind (h (.L (k + 1)) r) fun c r1 _ l1 s1 => ?_
      exact (h (.Lp k c) r1).up l1 (by simp only [PK.size] at *; omega)
  | Lp k a =>
    simp only [stepP]
    cases h1 : (if k = 9 then acc insideW r else none) with
    | some r1 =>
      have a1 : r1.length < r.length := by
        split at h1
        · exact (acc_len h1).2
        · cases h1
      refine sz_bind (k := esize a) ((h (.In a) r1).up (by omega) (by simp only [PK.size]; omega)) fun c r2 _ l2 s2 => ?_
      exact (h (.Lp k c) r2).up l2 (by simp only [PK.size] at *; omega)
    | none =>
      simp only
      cases h2 : operP k r with
      | none => exact ⟨Nat.le_refl _, by simp only [PK.size]; omega⟩
      | some p =>
        obtain ⟨o, ex, r1⟩ := p
        have a1 := (operP_len h2).2
        refine sz_bind (k := 0) ((h (.L (k + 1)) r1).up (by omega) (by simp only [PK.size]; omega)) fun c r2 e2 l2 s2 => ?_
        have hh := h (.L (k + 1)) r1
        rw [e2] at hh
        obtain ⟨b1, b2⟩ := hh
        simp only [PK.size] at b2
        refine (h (.Lp k _) r2).up l2 ?_
        simp only [PK.size]
        split <;> (simp only [nodeE, esize, esizes]; omega)
  | In a =>
    simp only [stepP]
    cases h1 : acc (mark1 123) r with
    | none => exact sz_fail
    | some r1 =>
      have a1 := (acc_len h1).2
      exact (h (.Ip [a]) r1).up (by omega) (by simp only [PK.size, esizes]; omega)
  | Ip args =>
    simp only [stepP]
    refine sz_bind (k := 0) ((h .W r).up (Nat.le_refl _) (by simp only [PK.size]; omega)) fun lo r1 _ l1 s1 => ?_
    cases h1 : acc (mark2 46 46) r1 with
    | none => exact sz_fail
    | some r2 =>
      have a1 := (acc_len h1).2
      refine sz_bind (k := 0) ((h .W r2).up (by omega) (by simp only [PK.size]; omega)) fun hi r3 e3 l3 s3 => ?_
      have hh := h .W r2
      rw [e3] at hh
      obtain ⟨b1, b2⟩ := hh
      simp only [PK.size] at b2
      cases h2 : acc (mark1 44) r3 with
      | some r4 =>
        have a2 := (acc_len h2).2
        exact (h (.Ip _) r4).up (by omega) (by simp only [PK.size, esizes_app, esizes]; omega)
      | none =>
        simp only
        cases h3 : acc (mark1 125) r3 with
        | none => exact sz_fail
        | some r5 =>
          have a3 := (acc_len h3).2
          exact ⟨by omega, by simp only [PK.size, nodeE, esize, esizes_app, esizes]; omega⟩
  | U =>
    have one : ∀ {m r1} (o : Int), acc m r = some r1 → Sz 0 r ((rec .U r1).bind fun a r2 => .ok (nodeE o [a]) r2) := fun {m r1} o h1 => by
      have a1 := (acc_len h1).2
      refine sz_bind (k := 0) ((h .U r1).up (by omega) (by simp only [PK.size]; omega)) fun a r3 e3 l3 s3 => ?_
      have hh := h .U r1
      rw [e3] at hh
      obtain ⟨b1, b2⟩ := hh
      simp only [PK.size] at b2
      exact ⟨by omega, by simp only [nodeE, esize, esizes]; omega⟩
    simp only [stepP]
    cases h1 : acc (mark1 33) r with
    | some r1 => exact one 4 h1
    | none =>
    cases h2 : acc (mark1 126) r with
    | some r1 => exact one 5 h2
    | none =>
    cases h3 : acc (mark1 45) r with
    | some r1 => exact one 6 h3
    | none => exact h .P r
  | P => exact sz_prim h r
theorem sz_fuel : ∀ (n : Nat) (k : PK) (r : List Tok), Sz k.size r (pfuel n k r)
  | 0, _, _ => trivial
  | n + 1, k, r => sz_step (sz_fuel n) k r
theorem par_size {r : List Tok} {e : Ex} {r1 : List Tok} (h : par .W r = .ok e r1) : esize e ≤ r.length := by
  have := sz_fuel (40 * r.length + 20) .W r
  unfold par at h
  rw [h] at this
  have h2 := this.2
  simp only [PK.size] at h2
  omega
def NB (x : PR) : Prop := match x with
  | .bad c _ => c ≠ 0
  | _ => True
theorem nb_bind {x : PR} {f : Ex → List Tok → PR} (h : NB x) (hf : ∀ e r, NB (f e r)) : NB (x.bind f) := by
  cases x with
  | out => trivial
  | bad c r => exact h
  | ok e r => exact hf e r
theorem nb_fail {r : List Tok} : NB (failP r) := by cases r <;> (show (_ : Int) ≠ 0; decide)
theorem nb_step {rec : PK → List Tok → PR} (h : ∀ k r, NB (rec k r)) (k : PK) (r : List Tok) : NB (stepP rec k r) := by
  cases k with
  | W =>
    simp only [stepP]
    refine nb_bind (h _ _) fun c r1 => ?_
    cases acc (mark1 63) r1 with
    | none => trivial
    | some r2 =>
      refine nb_bind (h _ _) fun a r3 => ?_
      cases acc (mark1 58) r3 with
      | none => exact nb_fail
      | some r4 => exact nb_bind (h _ _) fun b r5 => trivial
  | I =>
    simp only [stepP]
    refine nb_bind (h _ _) fun c r1 => ?_
    cases acc (mark2 61 62) r1 with
    | none => trivial
    | some r2 => exact nb_bind (h _ _) fun b r5 => trivial
  | L k =>
    simp only [stepP]
    split
    · exact h _ _
    · exact nb_bind (h _ _) fun _ _ => h _ _
  | Lp k a =>
    simp only [stepP]
    cases (if k = 9 then acc insideW r else none) with
    | some r1 => exact nb_bind (h _ _) fun _ _ => h _ _
    | none =>
      simp only
      cases operP k r with
      | none => trivial
      | some p => exact nb_bind (h _ _) fun _ _ => h _ _
  | In a =>
    simp only [stepP]
    cases acc (mark1 123) r with
    | none => exact nb_fail
    | some r1 => exact h _ _
  | Ip args =>
    simp only [stepP]
    refine nb_bind (h _ _) fun lo r1 => ?_
    cases acc (mark2 46 46) r1 with
    | none => exact nb_fail
    | some r2 =>
      refine nb_bind (h _ _) fun hi r3 => ?_
      cases acc (mark1 44) r3 with
      | some r4 => exact h _ _
      | none =>
        simp only
        cases acc (mark1 125) r3 with
        | some r5 => trivial
        | none => exact nb_fail
  | U =>
    simp only [stepP]
    cases acc (mark1 33) r with
    | some r1 => exact nb_bind (h _ _) fun _ _ => trivial
    | none =>
    cases acc (mark1 126) r with
    | some r1 => exact nb_bind (h _ _) fun _ _ => trivial
    | none =>
    cases acc (mark1 45) r with
    | some r1 => exact nb_bind (h _ _) fun _ _ => trivial
    | none => exact h _ _
  | P =>
    show NB (primP rec r)
    unfold primP
    cases acc (mark1 40) r with
    | some r1 =>
      refine nb_bind (h _ _) fun e r2 => ?_
      cases acc (mark1 41) r2 with
      | some r3 => trivial
      | none => exact nb_fail
    | none =>
    cases numP r with
    | some p => simp only; split <;> first | trivial | (show (_ : Int) ≠ 0; decide)
    | none =>
    cases nameP r with
    | none => exact nb_fail
    | some p =>
    obtain ⟨s, r1⟩ := p
    simp only
    cases (if s = sumW then acc (mark1 40) r1 else none) with
    | some r2 =>
      simp only
      cases nameP r2 with
      | none => exact nb_fail
      | some p =>
        simp only
        cases acc (mark1 41) p.2 with
        | some r4 => trivial
        | none => exact nb_fail
    | none =>
    simp only
    cases (if s = onesW then acc (mark1 40) r1 else none) with
    | some r2 =>
      refine nb_bind (h _ _) fun e r3 => ?_
      cases acc (mark1 41) r3 with
      | some r4 => trivial
      | none => exact nb_fail
    | none =>
    simp only
    cases acc (mark1 91) r1 with
    | some r2 =>
      refine nb_bind (h _ _) fun e r3 => ?_
      cases acc (mark1 93) r3 with
      | some r4 => trivial
      | none => exact nb_fail
    | none =>
    simp only
    cases acc (mark1 64) r1 with
    | some r2 =>
      simp only
      cases numP r2 with
      | none => exact nb_fail
      | some p => simp only; split <;> first | trivial | (show (_ : Int) ≠ 0; decide)
    | none => trivial
theorem nb_fuel : ∀ (n : Nat) (k : PK) (r : List Tok), NB (pfuel n k r)
  | 0, _, _ => trivial
  | n + 1, k, r => nb_step (nb_fuel n) k r
theorem par_bad {k : PK} {r r1 : List Tok} {c : Int} (h : par k r = .bad c r1) : c ≠ 0 ∧ r1.length ≤ r.length := by
  have h1 := nb_fuel (40 * r.length + 20) k r
  have h2 := par_took k r
  rw [h] at h2
  unfold par at h
  rw [h] at h1
  exact ⟨h1, h2.length_le⟩
end Go.Proofs.YteopfpebdalcoaaGreatDoor
