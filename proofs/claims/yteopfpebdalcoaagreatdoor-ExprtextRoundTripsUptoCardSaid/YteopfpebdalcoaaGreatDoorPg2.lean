/-
  The grammar of expressions: what it takes, and that it ends. No program is in sight here.
-/
import Derived.Test.YteopfpebdalcoaaGreatDoorPg
set_option linter.unusedVariables false
set_option linter.unusedSimpArgs false
set_option linter.unusedSectionVars false
namespace Go.Proofs.YteopfpebdalcoaaGreatDoor
open Go.RowKit
theorem acc_some {m : ByteArray} {r r1 : List Tok} (h : acc m r = some r1) : ∃ t, r = t :: r1 ∧ vTok t = true ∧ (t.kind = 4 ∨ t.kind = 2) ∧ t.text = m := by
  cases r with
  | nil => cases h
  | cons t q =>
    simp only [acc] at h
    split at h
    · rename_i hc; cases h; exact ⟨t, rfl, hc⟩
    · cases h
theorem nameP_some {r r1 : List Tok} {s : ByteArray} (h : nameP r = some (s, r1)) : ∃ t, r = t :: r1 ∧ vTok t = true ∧ t.kind = 1 ∧ t.text = s := by
  cases r with
  | nil => cases h
  | cons t q =>
    simp only [nameP] at h
    split at h
    · rename_i hc; cases h; exact ⟨t, rfl, hc.1, hc.2, rfl⟩
    · cases h
theorem numP_some {r r1 : List Tok} {n : Int} (h : numP r = some (n, r1)) : ∃ t, r = t :: r1 ∧ vTok t = true ∧ t.kind = 3 ∧ t.num = n := by
  cases r with
  | nil => cases h
  | cons t q =>
    simp only [numP] at h
    split at h
    · rename_i hc; cases h; exact ⟨t, rfl, hc.1, hc.2, rfl⟩
    · cases h
theorem acc_len {m : ByteArray} {r r1 : List Tok} (h : acc m r = some r1) : r1 <:+ r ∧ r1.length < r.length := by
  obtain ⟨t, rfl, -⟩ := acc_some h
  exact ⟨List.suffix_cons _ _, by simp⟩
theorem nameP_len {r r1 : List Tok} {s : ByteArray} (h : nameP r = some (s, r1)) : r1 <:+ r ∧ r1.length < r.length := by
  obtain ⟨t, rfl, -⟩ := nameP_some h
  exact ⟨List.suffix_cons _ _, by simp⟩
theorem numP_len {r r1 : List Tok} {n : Int} (h : numP r = some (n, r1)) : r1 <:+ r ∧ r1.length < r.length := by
  obtain ⟨t, rfl, -⟩ := numP_some h
  exact ⟨List.suffix_cons _ _, by simp⟩
theorem operL_len : ∀ (l : List (ByteArray × Int × Nat)) (k : Nat) (r : List Tok) {o : Int} {r1 : List Tok}, operL l k r = some (o, r1) → r1 <:+ r ∧ r1.length < r.length
  | [], _, _, _, _, h => by cases h
  | b :: l, k, r, o, r1, h => by
    simp only [operL] at h
    split at h
    · split at h
      · rename_i q hq; cases h; exact acc_len hq
      · exact operL_len l k r h
    · exact operL_len l k r h
theorem operP_len {k : Nat} {r r1 : List Tok} {o : Int} {ex : Bool} (h : operP k r = some (o, ex, r1)) : r1 <:+ r ∧ r1.length < r.length := by
  unfold operP at h
  split at h
  · rename_i o' q hq; cases h; exact operL_len _ _ _ hq
  · split at h
    · split at h
      · rename_i q hq; cases h; exact acc_len hq
      · split at h
        · rename_i q hq; cases h; exact acc_len hq
        · cases h
    · cases h
def PR.le (x y : PR) : Prop := x = .out ∨ x = y
theorem PR.le.rfl {x : PR} : x.le x := .inr (Eq.refl x)
theorem bind_mono {x x' : PR} {f f' : Ex → List Tok → PR} (h : x.le x') (hf : ∀ e r, (f e r).le (f' e r)) : (x.bind f).le (x'.bind f') := by
  rcases h with rfl | rfl
  · exact .inl (Eq.refl _)
  · cases x with
    | out => exact .inl (Eq.refl _)
    | bad e r => exact .rfl
    | ok e r => exact hf e r
theorem primP_mono {rec rec' : PK → List Tok → PR} (h : ∀ k r, (rec k r).le (rec' k r)) (r : List Tok) : (primP rec r).le (primP rec' r) := by
  unfold primP
  cases acc (mark1 40) r with
  | some r1 => exact bind_mono (h _ _) fun e r2 => .rfl
  | none =>
  cases numP r with
  | some p => exact .rfl
  | none =>
  cases nameP r with
  | none => exact .rfl
  | some p =>
  obtain ⟨s, r1⟩ := p
  simp only
  cases (if s = sumW then acc (mark1 40) r1 else none) with
  | some r2 => exact .rfl
  | none =>
  simp only
  cases (if s = onesW then acc (mark1 40) r1 else none) with
  | some r2 => exact bind_mono (h _ _) fun e r3 => .rfl
  | none =>
  simp only
  cases acc (mark1 91) r1 with
  | some r2 => exact bind_mono (h _ _) fun e r3 => .rfl
  | none => exact .rfl
theorem stepP_mono {rec rec' : PK → List Tok → PR} (h : ∀ k r, (rec k r).le (rec' k r)) (k : PK) (r : List Tok) : (stepP rec k r).le (stepP rec' k r) := by
  cases k with
  | W =>
    simp only [stepP]
    refine bind_mono (h _ _) fun c r1 => ?_
    cases acc (mark1 63) r1 with
    | none => exact .rfl
    | some r2 =>
      refine bind_mono (h _ _) fun a r3 => ?_
      cases acc (mark1 58) r3 with
      | none => exact .rfl
      | some r4 => exact bind_mono (h _ _) fun b r5 => .rfl
  | I =>
    simp only [stepP]
    refine bind_mono (h _ _) fun c r1 => ?_
    cases acc (mark2 61 62) r1 with
    | none => exact .rfl
    | some r2 => exact bind_mono (h _ _) fun b r5 => .rfl
  | L k =>
    simp only [stepP]
    split
    · exact h _ _
    · exact bind_mono (h _ _) fun b r5 => h _ _
  | Lp k a =>
    simp only [stepP]
    cases (if k = 9 then acc insideW r else none) with
    | some r1 => exact bind_mono (h _ _) fun b r5 => h _ _
    | none =>
      simp only
      cases operP k r with
      | none => exact .rfl
      | some p => exact bind_mono (h _ _) fun b r5 => h _ _
  | In a =>
    simp only [stepP]
    cases acc (mark1 123) r with
    | none => exact .rfl
    | some r1 => exact h _ _
  | Ip args =>
    simp only [stepP]
    refine bind_mono (h _ _) fun lo r1 => ?_
    cases acc (mark2 46 46) r1 with
    | none => exact .rfl
    | some r2 =>
      refine bind_mono (h _ _) fun hi r3 => ?_
      cases acc (mark1 44) r3 with
      | some r4 => exact h _ _
      | none => exact .rfl
  | U =>
    simp only [stepP]
    cases acc (mark1 33) r with
    | some r1 => exact bind_mono (h _ _) fun b r5 => .rfl
    | none =>
    cases acc (mark1 126) r with
    | some r1 => exact bind_mono (h _ _) fun b r5 => .rfl
    | none =>
    cases acc (mark1 45) r with
    | some r1 => exact bind_mono (h _ _) fun b r5 => .rfl
    | none => exact h _ _
  | P => exact primP_mono h r
theorem pfuel_mono : ∀ (n : Nat) (k : PK) (r : List Tok), (pfuel n k r).le (pfuel (n + 1) k r)
  | 0, _, _ => .inl rfl
  | n + 1, k, r => stepP_mono (pfuel_mono n) k r
theorem pfuel_more {n m : Nat} (h : n ≤ m) (k : PK) (r : List Tok) : (pfuel n k r).le (pfuel m k r) := by
  induction h with
  | refl => exact .rfl
  | step h ih =>
    rcases ih with e | e
    · exact .inl e
    · rw [e]; exact pfuel_mono _ k r
def Took (s : Bool) (r : List Tok) : PR → Prop
  | .out => True
  | .bad _ r' => r' <:+ r
  | .ok _ r' => r' <:+ r ∧ (s = true → r'.length < r.length)
theorem Took.weak {s : Bool} {r r0 : List Tok} {x : PR} (h : Took s r x) (hr : r <:+ r0) : Took s r0 x := by
  cases x with
  | out => trivial
  | bad e q => exact h.trans hr
  | ok e q => exact ⟨h.1.trans hr, fun e => Nat.lt_of_lt_of_le (h.2 e) hr.length_le⟩
theorem Took.strict {s : Bool} {r r0 : List Tok} {x : PR} (h : Took s r x) (hr : r <:+ r0) (hl : r.length < r0.length) : Took true r0 x := by
  cases x with
  | out => trivial
  | bad e q => exact h.trans hr
  | ok e q => exact ⟨h.1.trans hr, fun _ => Nat.lt_of_le_of_lt h.1.length_le hl⟩
theorem Took.less {s : Bool} {r : List Tok} {x : PR} (h : Took s r x) : Took false r x := by
  cases x with
  | out => trivial
  | bad e q => exact h
  | ok e q => exact ⟨h.1, fun h => by cases h⟩
theorem took_bind {s t : Bool} {r : List Tok} {x : PR} {f : Ex → List Tok → PR} (h : Took s r x) (hf : ∀ e r1, r1 <:+ r → Took t r1 (f e r1)) : Took (s || t) r (x.bind f) := by
  cases x with
  | out => trivial
  | bad e q => exact h
  | ok e q =>
    have h1 := hf e q h.1
    show Took (s || t) r (f e q)
    cases hx : f e q with
    | out => trivial
    | bad e' q' => rw [hx] at h1; exact h1.trans h.1
    | ok e' q' =>
      rw [hx] at h1
      refine ⟨h1.1.trans h.1, fun hs => ?_⟩
      rcases Bool.or_eq_true_iff.1 hs with g | g
      · exact Nat.lt_of_le_of_lt h1.1.length_le (h.2 g)
      · exact Nat.lt_of_lt_of_le (h1.2 g) h.1.length_le
theorem took_fail {s : Bool} (r : List Tok) : Took s r (failP r) := by
  cases r with
  | nil => exact List.suffix_refl _
  | cons t r => exact List.suffix_refl _
theorem took_ok (e : Ex) {r r1 : List Tok} (h : r1 <:+ r) : Took false r (.ok e r1) := ⟨h, fun h => by cases h⟩
theorem took_ok1 {s : Bool} (e : Ex) {r r1 : List Tok} (h : r1 <:+ r ∧ r1.length < r.length) : Took s r (.ok e r1) := ⟨h.1, fun _ => h.2⟩
def PK.eats : PK → Bool
  | .Lp _ _ => false
  | _ => true
theorem took_prim {rec : PK → List Tok → PR} (h : ∀ k r, Took k.eats r (rec k r)) (r : List Tok) : Took true r (primP rec r) := by
  unfold primP
  cases h1 : acc (mark1 40) r with
  | some r1 =>
    obtain ⟨a1, a2⟩ := acc_len h1
    refine (took_bind (t := false) ((h .W r1)) fun e r2 hs => ?_).strict a1 a2
    cases h2 : acc (mark1 41) r2 with
    | some r3 => exact took_ok _ (acc_len h2).1
    | none => exact took_fail _
  | none =>
  cases h2 : numP r with
  | some p =>
    obtain ⟨n, r1⟩ := p
    simp only
    split
    · exact List.suffix_refl _
    · exact took_ok1 _ (numP_len h2)
  | none =>
  cases h3 : nameP r with
  | none => exact took_fail _
  | some p =>
  obtain ⟨s, r1⟩ := p
  obtain ⟨n1, n2⟩ := nameP_len h3
  suffices hh : ∀ x, Took false r1 x → Took true r x by
    refine hh _ ?_
    simp only
    cases h4 : (if s = sumW then acc (mark1 40) r1 else none) with
    | some r2 =>
      have a1 : r2 <:+ r1 := by
        split at h4
        · exact (acc_len h4).1
        · cases h4
      simp only
      cases h5 : nameP r2 with
      | none => exact (took_fail r2).weak a1
      | some p =>
        obtain ⟨a, r3⟩ := p
        simp only
        cases h6 : acc (mark1 41) r3 with
        | some r4 => exact took_ok _ (((acc_len h6).1.trans (nameP_len h5).1).trans a1)
        | none => exact (took_fail r3).weak ((nameP_len h5).1.trans a1)
    | none =>
    simp only
    cases h5 : (if s = onesW then acc (mark1 40) r1 else none) with
    | some r2 =>
      have a1 : r2 <:+ r1 := by
        split at h5
        · exact (acc_len h5).1
        · cases h5
      have := (took_bind (t := false) (f := fun e r3 => match acc (mark1 41) r3 with | some r4 => .ok (nodeE 25 [e]) r4 | none => failP r3) (h .W r2) fun e r3 hs => by
        cases h6 : acc (mark1 41) r3 with
        | some r4 => exact took_ok _ (acc_len h6).1
        | none => exact took_fail _).weak a1
      exact this.less
    | none =>
    simp only
    cases h6 : acc (mark1 91) r1 with
    | some r2 =>
      have := (took_bind (t := false) (f := fun e r3 => match acc (mark1 93) r3 with | some r4 => .ok (.mk 3 0 s [e]) r4 | none => failP r3) (h .W r2) fun e r3 hs => by
        cases h6 : acc (mark1 93) r3 with
        | some r4 => exact took_ok _ (acc_len h6).1
        | none => exact took_fail _).weak (acc_len h6).1
      exact this.less
    | none =>
    simp only
    cases h7 : acc (mark1 64) r1 with
    | some r2 =>
      simp only
      cases h8 : numP r2 with
      | none => exact (took_fail r2).weak (acc_len h7).1
      | some p =>
        obtain ⟨n, r3⟩ := p
        simp only
        split
        · exact (acc_len h7).1
        · exact took_ok _ ((numP_len h8).1.trans (acc_len h7).1)
    | none => exact took_ok _ (List.suffix_refl _)
  intro x hx
  exact hx.strict n1 n2
theorem took_step {rec : PK → List Tok → PR} (h : ∀ k r, Took k.eats r (rec k r)) (k : PK) (r : List Tok) : Took k.eats r (stepP rec k r) := by
  cases k with
  | W =>
    simp only [stepP]
    refine took_bind (s := true) (t := false) (h .I r) fun c r1 _ => ?_
    cases h1 : acc (mark1 63) r1 with
    | none => exact took_ok _ (List.suffix_refl _)
    | some r2 =>
      have := took_bind (s := true) (t := false) (f := fun a r3 => match acc (mark1 58) r3 with | none => failP r3 | some r4 => (rec .W r4).bind fun b r5 => .ok (nodeE 22 [c, a, b]) r5) (h .W r2) fun a r3 _ => by
        cases h2 : acc (mark1 58) r3 with
        | none => exact took_fail _
        | some r4 =>
          have := (took_bind (s := true) (t := false) (f := fun b r5 => .ok (nodeE 22 [c, a, b]) r5) (h .W r4) fun b r5 _ => took_ok _ (List.suffix_refl _)).weak (acc_len h2).1
          exact this.less
      have h3 := this.weak (acc_len h1).1
      exact h3.less
  | I =>
    simp only [stepP]
    refine took_bind (s := true) (t := false) (h (.L 3) r) fun c r1 _ => ?_
    cases h1 : acc (mark2 61 62) r1 with
    | none => exact took_ok _ (List.suffix_refl _)
    | some r2 =>
      have := (took_bind (s := true) (t := false) (f := fun b r5 => .ok (nodeE 21 [c, b]) r5) (h .I r2) fun b r5 _ => took_ok _ (List.suffix_refl _)).weak (acc_len h1).1
      exact this.less
  | L k =>
    simp only [stepP]
    split
    · exact h .U r
    · exact took_bind (s := true) (t := false) (h (.L (k + 1)) r) fun a r1 _ => h (.Lp k a) r1
  | Lp k a =>
    simp only [stepP]
    cases h1 : (if k = 9 then acc insideW r else none) with
    | some r1 =>
      have a1 : r1 <:+ r := by
        split at h1
        · exact (acc_len h1).1
        · cases h1
      have := (took_bind (s := true) (t := false) (f := fun b r2 => rec (.Lp k b) r2) (h (.In a) r1) fun b r2 _ => h (.Lp k b) r2).weak a1
      exact this.less
    | none =>
      simp only
      cases h2 : operP k r with
      | none => exact took_ok _ (List.suffix_refl _)
      | some p =>
        obtain ⟨o, ex, r1⟩ := p
        have := (took_bind (s := true) (t := false) (f := fun c r2 => rec (.Lp k (if ex then nodeE o [c, a] else nodeE o [a, c])) r2) (h (.L (k + 1)) r1) fun b r2 _ => h (.Lp k _) r2).weak (operP_len h2).1
        exact this.less
  | In a =>
    simp only [stepP]
    cases h1 : acc (mark1 123) r with
    | none => exact took_fail _
    | some r1 => exact (h (.Ip [a]) r1).weak (acc_len h1).1
  | Ip args =>
    simp only [stepP]
    refine took_bind (s := true) (t := false) (h .W r) fun lo r1 _ => ?_
    cases h1 : acc (mark2 46 46) r1 with
    | none => exact took_fail _
    | some r2 =>
      have := (took_bind (s := true) (t := false) (f := fun hi r3 => match acc (mark1 44) r3 with | some r4 => rec (.Ip (args ++ [lo, hi])) r4 | none => match acc (mark1 125) r3 with | some r5 => .ok (nodeE 23 (args ++ [lo, hi])) r5 | none => failP r3) (h .W r2) fun hi r3 _ => by
        cases h2 : acc (mark1 44) r3 with
        | some r4 =>
          have := (h (.Ip (args ++ [lo, hi])) r4).weak (acc_len h2).1
          exact this.less
        | none =>
          simp only
          cases h3 : acc (mark1 125) r3 with
          | some r5 => exact took_ok _ (acc_len h3).1
          | none => exact took_fail _).weak (acc_len h1).1
      exact this.less
  | U =>
    simp only [stepP]
    cases h1 : acc (mark1 33) r with
    | some r1 => exact (took_bind (s := true) (t := false) (h .U r1) fun a r2 _ => took_ok _ (List.suffix_refl _)).weak (acc_len h1).1
    | none =>
    cases h2 : acc (mark1 126) r with
    | some r1 => exact (took_bind (s := true) (t := false) (h .U r1) fun a r2 _ => took_ok _ (List.suffix_refl _)).weak (acc_len h2).1
    | none =>
    cases h3 : acc (mark1 45) r with
    | some r1 => exact (took_bind (s := true) (t := false) (h .U r1) fun a r2 _ => took_ok _ (List.suffix_refl _)).weak (acc_len h3).1
    | none => exact h .P r
  | P => exact took_prim h r
theorem took_fuel : ∀ (n : Nat) (k : PK) (r : List Tok), Took k.eats r (pfuel n k r)
  | 0, _, _ => trivial
  | n + 1, k, r => took_step (took_fuel n) k r
def PK.cost : PK → Nat
  | .W => 15
  | .I => 14
  | .L k => 3 + (13 - k)
  | .Lp _ _ => 1
  | .In _ => 1
  | .Ip _ => 16
  | .U => 2
  | .P => 1
def need (k : PK) (r : List Tok) : Nat := 40 * r.length + k.cost
theorem bind_ne {x : PR} {f : Ex → List Tok → PR} (h : x ≠ .out) (hf : ∀ e r, x = .ok e r → f e r ≠ .out) : x.bind f ≠ .out := by
  cases x with
  | out => exact absurd rfl h
  | bad e r => intro h; cases h
  | ok e r => exact hf e r rfl
theorem fail_ne (r : List Tok) : failP r ≠ .out := by cases r <;> (intro h; cases h)
theorem cost_le (k : PK) : 1 ≤ k.cost ∧ k.cost ≤ 16 := by
  cases k <;> simp only [PK.cost] <;> omega
theorem ok_len {n : Nat} {k : PK} {r r1 : List Tok} {e : Ex} (h : pfuel n k r = .ok e r1) : r1.length ≤ r.length ∧ (k.eats = true → r1.length < r.length) := by
  have := took_fuel n k r
  rw [h] at this
  exact ⟨this.1.length_le, this.2⟩
theorem ends : ∀ (n : Nat) (k : PK) (r : List Tok), need k r ≤ n → pfuel n k r ≠ .out := by
  intro n
  induction n with
  | zero => intro k r h; have := (cost_le k).1; unfold need at h; omega
  | succ n ih =>
    intro k r hn
    have less : ∀ (k' : PK) (r' : List Tok), r'.length < r.length → pfuel n k' r' ≠ .out := fun k' r' hl => ih k' r' (by
      have := (cost_le k').2; have := (cost_le k).1; unfold need at *; omega)
    have same : ∀ (k' : PK), k'.cost < k.cost → pfuel n k' r ≠ .out := fun k' hc => ih k' r (by unfold need at *; omega)
    show stepP (pfuel n) k r ≠ .out
    cases k with
    | W =>
      simp only [stepP]
      refine bind_ne (same .I (by decide)) fun c r1 h1 => ?_
      have l1 := (ok_len h1).2 rfl
      cases h2 : acc (mark1 63) r1 with
      | none => intro h; cases h
      | some r2 =>
        have l2 := (acc_len h2).2
        refine bind_ne (less _ _ (by omega)) fun a r3 h3 => ?_
        have l3 := (ok_len h3).1
        cases h4 : acc (mark1 58) r3 with
        | none => exact fail_ne _
        | some r4 =>
          have l4 := (acc_len h4).2
          exact bind_ne (less _ _ (by omega)) fun b r5 _ h => by cases h
    | I =>
      simp only [stepP]
      refine bind_ne (same (.L 3) (by decide)) fun c r1 h1 => ?_
      have l1 := (ok_len h1).2 rfl
      cases h2 : acc (mark2 61 62) r1 with
      | none => intro h; cases h
      | some r2 =>
        have l2 := (acc_len h2).2
        exact bind_ne (less _ _ (by omega)) fun b r5 _ h => by cases h
    | L k =>
      simp only [stepP]
      split
      · exact same .U (by simp only [PK.cost]; omega)
      · rename_i hk
        refine bind_ne (same (.L (k + 1)) (by simp only [PK.cost]; omega)) fun c r1 h1 => ?_
        exact less _ _ ((ok_len h1).2 rfl)
    | Lp k a =>
      simp only [stepP]
      cases h1 : (if k = 9 then acc insideW r else none) with
      | some r1 =>
        have a1 : r1.length < r.length := by
          split at h1
          · exact (acc_len h1).2
          · cases h1
        exact bind_ne (less _ _ a1) fun b r2 h2 => less _ _ (by have := (ok_len h2).1; omega)
      | none =>
        simp only
        cases h2 : operP k r with
        | none => intro h; cases h
        | some p =>
          obtain ⟨o, ex, r1⟩ := p
          have a1 := (operP_len h2).2
          exact bind_ne (less _ _ a1) fun b r2 h2 => less _ _ (by have := (ok_len h2).1; omega)
    | In a =>
      simp only [stepP]
      cases h1 : acc (mark1 123) r with
      | none => exact fail_ne _
      | some r1 => exact less _ _ (acc_len h1).2
    | Ip args =>
      simp only [stepP]
      refine bind_ne (same .W (by simp only [PK.cost]; omega)) fun lo r1 h1 => ?_
      have l1 := (ok_len h1).2 rfl
      cases h2 : acc (mark2 46 46) r1 with
      | none => exact fail_ne _
      | some r2 =>
        have l2 := (acc_len h2).2
        refine bind_ne (less _ _ (by omega)) fun hi r3 h3 => ?_
        have l3 := (ok_len h3).1
        cases h4 : acc (mark1 44) r3 with
        | some r4 => exact less _ _ (by have := (acc_len h4).2; omega)
        | none =>
          simp only
          cases h5 : acc (mark1 125) r3 with
          | some r5 => intro h; cases h
          | none => exact fail_ne _
    | U =>
      simp only [stepP]
      cases h1 : acc (mark1 33) r with
      | some r1 => exact bind_ne (less _ _ (acc_len h1).2) fun b r5 _ h => by cases h
      | none =>
      cases h2 : acc (mark1 126) r with
      | some r1 => exact bind_ne (less _ _ (acc_len h2).2) fun b r5 _ h => by cases h
      | none =>
      cases h3 : acc (mark1 45) r with
      | some r1 => exact bind_ne (less _ _ (acc_len h3).2) fun b r5 _ h => by cases h
      | none => exact same .P (by decide)
    | P =>
      show primP (pfuel n) r ≠ .out
      unfold primP
      cases h1 : acc (mark1 40) r with
      | some r1 =>
        refine bind_ne (less _ _ (acc_len h1).2) fun e r2 _ => ?_
        cases acc (mark1 41) r2 with
        | some r3 => intro h; cases h
        | none => exact fail_ne _
      | none =>
      cases h2 : numP r with
      | some p => simp only; split <;> (intro h; cases h)
      | none =>
      cases h3 : nameP r with
      | none => exact fail_ne _
      | some p =>
      obtain ⟨s, r1⟩ := p
      have l1 := (nameP_len h3).2
      simp only
      cases h4 : (if s = sumW then acc (mark1 40) r1 else none) with
      | some r2 =>
        simp only
        cases nameP r2 with
        | none => exact fail_ne _
        | some p =>
          simp only
          cases acc (mark1 41) p.2 with
          | some r4 => intro h; cases h
          | none => exact fail_ne _
      | none =>
      simp only
      cases h5 : (if s = onesW then acc (mark1 40) r1 else none) with
      | some r2 =>
        have a1 : r2.length < r1.length := by
          split at h5
          · exact (acc_len h5).2
          · cases h5
        refine bind_ne (less _ _ (by omega)) fun e r2 _ => ?_
        cases acc (mark1 41) r2 with
        | some r3 => intro h; cases h
        | none => exact fail_ne _
      | none =>
      simp only
      cases h6 : acc (mark1 91) r1 with
      | some r2 =>
        have a1 := (acc_len h6).2
        refine bind_ne (less _ _ (by omega)) fun e r2 _ => ?_
        cases acc (mark1 93) r2 with
        | some r3 => intro h; cases h
        | none => exact fail_ne _
      | none =>
      simp only
      cases h7 : acc (mark1 64) r1 with
      | some r2 =>
        simp only
        cases numP r2 with
        | none => exact fail_ne _
        | some p => simp only; split <;> (intro h; cases h)
      | none => intro h; cases h
def par (k : PK) (r : List Tok) : PR := pfuel (40 * r.length + 20) k r
theorem par_ne (k : PK) (r : List Tok) : par k r ≠ .out := ends _ _ _ (by have := (cost_le k).2; unfold need; omega)
theorem fuel_par (n : Nat) (k : PK) (r : List Tok) : (pfuel n k r).le (par k r) := by
  rcases Nat.le_total n (40 * r.length + 20) with h | h
  · exact pfuel_more h k r
  · rcases pfuel_more h k r with e | e
    · exact absurd e (par_ne k r)
    · exact .inr e.symm
theorem par_eq (k : PK) (r : List Tok) : par k r = stepP par k r := by
  have h1 := stepP_mono (fuel_par (40 * r.length + 20)) k r
  have h2 := pfuel_more (Nat.le_succ (40 * r.length + 20)) k r
  rcases h2 with e | e
  · exact absurd e (par_ne k r)
  · rcases h1 with g | g
    · exact absurd (e.trans g) (par_ne k r)
    · exact e.trans g
theorem par_took (k : PK) (r : List Tok) : Took k.eats r (par k r) := took_fuel _ k r
end Go.Proofs.YteopfpebdalcoaaGreatDoor
