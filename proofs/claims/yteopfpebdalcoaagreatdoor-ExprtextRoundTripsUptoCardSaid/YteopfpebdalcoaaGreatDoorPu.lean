/-
  The grammar on tokens: what stands behind, what lines the tokens have, how many nodes there are. No program is in sight here.
-/
import Derived.Test.YteopfpebdalcoaaGreatDoorPt2
set_option linter.unusedVariables false
set_option linter.unusedSimpArgs false
set_option linter.unusedSectionVars false
namespace Go.Proofs.YteopfpebdalcoaaGreatDoor
open Go.RowKit
structure SameTok (f : Tok → Tok) : Prop where
  kind : ∀ t, (f t).kind = t.kind
  num : ∀ t, (f t).num = t.num
  text : ∀ t, (f t).text = t.text
section
variable {f : Tok → Tok} (hf : SameTok f)
include hf
omit hf in
end
def PK.size : PK → Nat
  | .Lp _ a => esize a
  | .In a => esize a
  | .Ip l => esizes l
  | _ => 0
theorem esizes_app (a b : List Ex) : esizes (a ++ b) = esizes a + esizes b := by
  induction a with
  | nil => simp [esizes]
  | cons x a ih => simp only [List.cons_append, esizes, ih]; omega
def Sz (k : Nat) (r : List Tok) (x : PR) : Prop := match x with
  | .ok e r1 => r1.length ≤ r.length ∧ esize e ≤ k + (r.length - r1.length)
  | _ => True
theorem sz_bind {k k2 : Nat} {r : List Tok} {x : PR} {f : Ex → List Tok → PR} (h : Sz k r x) (hf : ∀ e r1, x = .ok e r1 → r1.length ≤ r.length → esize e ≤ k + (r.length - r1.length) → Sz k2 r (f e r1)) : Sz k2 r (x.bind f) := by
  cases x with
  | out => trivial
  | bad c r => trivial
  | ok e r1 => exact hf e r1 rfl h.1 h.2
theorem sz_fail {k : Nat} {r r1 : List Tok} : Sz k r (failP r1) := by cases r1 <;> trivial
theorem Sz.up {k k2 : Nat} {r r2 : List Tok} {x : PR} (h : Sz k r2 x) (h1 : r2.length ≤ r.length) (h2 : k ≤ k2 + (r.length - r2.length)) : Sz k2 r x := by
  cases x with
  | out => trivial
  | bad c r => trivial
  | ok e r1 => exact ⟨Nat.le_trans h.1 h1, by have := h.1; have := h.2; omega⟩
theorem sz_prim {rec : PK → List Tok → PR} (h : ∀ k r, Sz k.size r (rec k r)) (r : List Tok) : Sz 0 r (primP rec r) := by
  unfold primP
  cases h1 : acc (mark1 40) r with
  | some r1 =>
    have a1 := (acc_len h1).2
    refine sz_bind (k := 0) ((h .W r1).up (by omega) (Nat.zero_le _)) fun e r2 _ l2 s2 => ?_
    cases h2 : acc (mark1 41) r2 with
    | some r3 => have := (acc_len h2).2; exact ⟨by omega, by omega⟩
    | none => exact sz_fail
  | none =>
  cases h2 : numP r with
  | some p =>
    obtain ⟨n, r1⟩ := p
    have := (numP_len h2).2
    simp only
    split
    · trivial
    · exact ⟨by omega, by simp only [esize, esizes]; omega⟩
  | none =>
  cases h3 : nameP r with
  | none => exact sz_fail
  | some p =>
  obtain ⟨s, r1⟩ := p
  have n1 := (nameP_len h3).2
  simp only
  cases h4 : (if s = sumW then acc (mark1 40) r1 else none) with
  | some r2 =>
    have a1 : r2.length < r1.length := by
      split at h4
      · exact (acc_len h4).2
      · cases h4
    simp only
    cases h5 : nameP r2 with
    | none => exact sz_fail
    | some p =>
      obtain ⟨a, r3⟩ := p
      have n2 := (nameP_len h5).2
      simp only
      cases h6 : acc (mark1 41) r3 with
      | some r4 => have := (acc_len h6).2; exact ⟨by omega, by simp only [esize, esizes]; omega⟩
      | none => exact sz_fail
  | none =>
  simp only
  cases h5 : (if s = onesW then acc (mark1 40) r1 else none) with
  | some r2 =>
    have a1 : r2.length < r1.length := by
      split at h5
      · exact (acc_len h5).2
      · cases h5
    refine sz_bind (k := 0) ((h .W r2).up (by omega) (Nat.zero_le _)) fun e r3 e3 l3 s3 => ?_
    have hh := h .W r2
    rw [e3] at hh
    have := hh.2
    have := hh.1
    cases h6 : acc (mark1 41) r3 with
    | some r4 => have := (acc_len h6).2; exact ⟨by omega, by simp only [nodeE, esize, esizes, PK.size] at *; omega⟩
    | none => exact sz_fail
  | none =>
  simp only
  cases h6 : acc (mark1 91) r1 with
  | some r2 =>
    have a1 := (acc_len h6).2
    refine sz_bind (k := 0) ((h .W r2).up (by omega) (Nat.zero_le _)) fun e r3 e3 l3 s3 => ?_
    have hh := h .W r2
    rw [e3] at hh
    have := hh.2
    have := hh.1
    cases h7 : acc (mark1 93) r3 with
    | some r4 => have := (acc_len h7).2; exact ⟨by omega, by simp only [esize, esizes, PK.size] at *; omega⟩
    | none => exact sz_fail
  | none =>
  simp only
  cases h7 : acc (mark1 64) r1 with
  | some r2 =>
    have a1 := (acc_len h7).2
    simp only
    cases h8 : numP r2 with
    | none => exact sz_fail
    | some p =>
      obtain ⟨n, r3⟩ := p
      have := (numP_len h8).2
      simp only
      split
      · trivial
      · exact ⟨by omega, by simp only [esize, esizes]; omega⟩
  | none => exact ⟨by omega, by simp only [esize, esizes]; omega⟩
theorem sz_step {rec : PK → List Tok → PR} (h : ∀ k r, Sz k.size r (rec k r)) (k : PK) (r : List Tok) : Sz k.size r (stepP rec k r) := by
  cases k with
  | W =>
    simp only [stepP]
    refine sz_bind (h .I r) fun c r1 _ l1 s1 => ?_
    simp only [PK.size] at *
    cases h1 : acc (mark1 63) r1 with
    | none => exact ⟨l1, s1⟩
    | some r2 =>
      have a1 := (acc_len h1).2
      refine sz_bind (k := 0) ((h .W r2).up (by omega) (by simp only []; omega)) fun a r3 e3 l3 s3 => ?_
      have hh := h .W r2
      rw [e3] at hh
      obtain ⟨b1, b2⟩ := hh
      simp only [] at b2
      cases h2 : acc (mark1 58) r3 with
      | none => exact sz_fail
      | some r4 =>
        have a2 := (acc_len h2).2
        refine sz_bind (k := 0) ((h .W r4).up (by omega) (by simp only []; omega)) fun b r5 e5 l5 s5 => ?_
        have hh := h .W r4
        rw [e5] at hh
        obtain ⟨d1, d2⟩ := hh
        simp only [] at d2
        exact ⟨by omega, by simp only [nodeE, esize, esizes]; omega⟩
  | I =>
    simp only [stepP]
    refine sz_bind (h (.L 3) r) fun c r1 _ l1 s1 => ?_
    simp only [PK.size] at *
    cases h1 : acc (mark2 61 62) r1 with
    | none => exact ⟨l1, s1⟩
    | some r2 =>
      have a1 := (acc_len h1).2
      refine sz_bind (k := 0) ((h .I r2).up (by omega) (by simp only []; omega)) fun a r3 e3 l3 s3 => ?_
      have hh := h .I r2
      rw [e3] at hh
      obtain ⟨b1, b2⟩ := hh
      simp only [] at b2
      exact ⟨by omega, by simp only [nodeE, esize, esizes]; omega⟩
  | L k =>
    simp only [stepP]
    split
    · exact h .U r
    · refine sz_bind (h (.L (k + 1)) r) fun c r1 _ l1 s1 => ?_
      exact (h (.Lp k c) r1).up l1 (by simp only [PK.size] at *; omega)
  | Lp k a =>
    simp only [stepP]
    cases h1 : (if k = 9 then acc insideW r else none) with
    | some r1 =>
      have a1 : r1.length < r.length := by
        split at h1
        · exact (acc_len h1).2
        · cases h1
      refine sz_bind (k := esize a) ((h (.In a) r1).up (by omega) (by simp only [PK.size]; omega)) fun c r2 _ l2 s2 => ?_
      exact (h (.Lp k c) r2).up l2 (by simp only [PK.size] at *; omega)
    | none =>
      simp only
      cases h2 : operP k r with
      | none => exact ⟨Nat.le_refl _, by simp only [PK.size]; omega⟩
      | some p =>
        obtain ⟨o, ex, r1⟩ := p
        have a1 := (operP_len h2).2
        refine sz_bind (k := 0) ((h (.L (k + 1)) r1).up (by omega) (by simp only [PK.size]; omega)) fun c r2 e2 l2 s2 => ?_
        have hh := h (.L (k + 1)) r1
        rw [e2] at hh
        obtain ⟨b1, b2⟩ := hh
        simp only [PK.size] at b2
        refine (h (.Lp k _) r2).up l2 ?_
        simp only [PK.size]
        split <;> (simp only [nodeE, esize, esizes]; omega)
  | In a =>
    simp only [stepP]
    cases h1 : acc (mark1 123) r with
    | none => exact sz_fail
    | some r1 =>
      have a1 := (acc_len h1).2
      exact (h (.Ip [a]) r1).up (by omega) (by simp only [PK.size, esizes]; omega)
  | Ip args =>
    simp only [stepP]
    refine sz_bind (k := 0) ((h .W r).up (Nat.le_refl _) (by simp only [PK.size]; omega)) fun lo r1 _ l1 s1 => ?_
    cases h1 : acc (mark2 46 46) r1 with
    | none => exact sz_fail
    | some r2 =>
      have a1 := (acc_len h1).2
      refine sz_bind (k := 0) ((h .W r2).up (by omega) (by simp only [PK.size]; omega)) fun hi r3 e3 l3 s3 => ?_
      have hh := h .W r2
      rw [e3] at hh
      obtain ⟨b1, b2⟩ := hh
      simp only [PK.size] at b2
      cases h2 : acc (mark1 44) r3 with
      | some r4 =>
        have a2 := (acc_len h2).2
        exact (h (.Ip _) r4).up (by omega) (by simp only [PK.size, esizes_app, esizes]; omega)
      | none =>
        simp only
        cases h3 : acc (mark1 125) r3 with
        | none => exact sz_fail
        | some r5 =>
          have a3 := (acc_len h3).2
          exact ⟨by omega, by simp only [PK.size, nodeE, esize, esizes_app, esizes]; omega⟩
  | U =>
    have one : ∀ {m r1} (o : Int), acc m r = some r1 → Sz 0 r ((rec .U r1).bind fun a r2 => .ok (nodeE o [a]) r2) := fun {m r1} o h1 => by
      have a1 := (acc_len h1).2
      refine sz_bind (k := 0) ((h .U r1).up (by omega) (by simp only [PK.size]; omega)) fun a r3 e3 l3 s3 => ?_
      have hh := h .U r1
      rw [e3] at hh
      obtain ⟨b1, b2⟩ := hh
      simp only [PK.size] at b2
      exact ⟨by omega, by simp only [nodeE, esize, esizes]; omega⟩
    simp only [stepP]
    cases h1 : acc (mark1 33) r with
    | some r1 => exact one 4 h1
    | none =>
    cases h2 : acc (mark1 126) r with
    | some r1 => exact one 5 h2
    | none =>
    cases h3 : acc (mark1 45) r with
    | some r1 => exact one 6 h3
    | none => exact h .P r
  | P => exact sz_prim h r
theorem sz_fuel : ∀ (n : Nat) (k : PK) (r : List Tok), Sz k.size r (pfuel n k r)
  | 0, _, _ => trivial
  | n + 1, k, r => sz_step (sz_fuel n) k r
theorem par_size {r : List Tok} {e : Ex} {r1 : List Tok} (h : par .W r = .ok e r1) : esize e ≤ r.length := by
  have := sz_fuel (40 * r.length + 20) .W r
  unfold par at h
  rw [h] at this
  have h2 := this.2
  simp only [PK.size] at h2
  omega
def NB (x : PR) : Prop := match x with
  | .bad c _ => c ≠ 0
  | _ => True
theorem nb_bind {x : PR} {f : Ex → List Tok → PR} (h : NB x) (hf : ∀ e r, NB (f e r)) : NB (x.bind f) := by
  cases x with
  | out => trivial
  | bad c r => exact h
  | ok e r => exact hf e r
theorem nb_fail {r : List Tok} : NB (failP r) := by cases r <;> (show (_ : Int) ≠ 0; decide)
theorem nb_step {rec : PK → List Tok → PR} (h : ∀ k r, NB (rec k r)) (k : PK) (r : List Tok) : NB (stepP rec k r) := by
  cases k with
  | W =>
    simp only [stepP]
    refine nb_bind (h _ _) fun c r1 => ?_
    cases acc (mark1 63) r1 with
    | none => trivial
    | some r2 =>
      refine nb_bind (h _ _) fun a r3 => ?_
      cases acc (mark1 58) r3 with
      | none => exact nb_fail
      | some r4 => exact nb_bind (h _ _) fun b r5 => trivial
  | I =>
    simp only [stepP]
    refine nb_bind (h _ _) fun c r1 => ?_
    cases acc (mark2 61 62) r1 with
    | none => trivial
    | some r2 => exact nb_bind (h _ _) fun b r5 => trivial
  | L k =>
    simp only [stepP]
    split
    · exact h _ _
    · exact nb_bind (h _ _) fun _ _ => h _ _
  | Lp k a =>
    simp only [stepP]
    cases (if k = 9 then acc insideW r else none) with
    | some r1 => exact nb_bind (h _ _) fun _ _ => h _ _
    | none =>
      simp only
      cases operP k r with
      | none => trivial
      | some p => exact nb_bind (h _ _) fun _ _ => h _ _
  | In a =>
    simp only [stepP]
    cases acc (mark1 123) r with
    | none => exact nb_fail
    | some r1 => exact h _ _
  | Ip args =>
    simp only [stepP]
    refine nb_bind (h _ _) fun lo r1 => ?_
    cases acc (mark2 46 46) r1 with
    | none => exact nb_fail
    | some r2 =>
      refine nb_bind (h _ _) fun hi r3 => ?_
      cases acc (mark1 44) r3 with
      | some r4 => exact h _ _
      | none =>
        simp only
        cases acc (mark1 125) r3 with
        | some r5 => trivial
        | none => exact nb_fail
  | U =>
    simp only [stepP]
    cases acc (mark1 33) r with
    | some r1 => exact nb_bind (h _ _) fun _ _ => trivial
    | none =>
    cases acc (mark1 126) r with
    | some r1 => exact nb_bind (h _ _) fun _ _ => trivial
    | none =>
    cases acc (mark1 45) r with
    | some r1 => exact nb_bind (h _ _) fun _ _ => trivial
    | none => exact h _ _
  | P =>
    show NB (primP rec r)
    unfold primP
    cases acc (mark1 40) r with
    | some r1 =>
      refine nb_bind (h _ _) fun e r2 => ?_
      cases acc (mark1 41) r2 with
      | some r3 => trivial
      | none => exact nb_fail
    | none =>
    cases numP r with
    | some p => simp only; split <;> first | trivial | (show (_ : Int) ≠ 0; decide)
    | none =>
    cases nameP r with
    | none => exact nb_fail
    | some p =>
    obtain ⟨s, r1⟩ := p
    simp only
    cases (if s = sumW then acc (mark1 40) r1 else none) with
    | some r2 =>
      simp only
      cases nameP r2 with
      | none => exact nb_fail
      | some p =>
        simp only
        cases acc (mark1 41) p.2 with
        | some r4 => trivial
        | none => exact nb_fail
    | none =>
    simp only
    cases (if s = onesW then acc (mark1 40) r1 else none) with
    | some r2 =>
      refine nb_bind (h _ _) fun e r3 => ?_
      cases acc (mark1 41) r3 with
      | some r4 => trivial
      | none => exact nb_fail
    | none =>
    simp only
    cases acc (mark1 91) r1 with
    | some r2 =>
      refine nb_bind (h _ _) fun e r3 => ?_
      cases acc (mark1 93) r3 with
      | some r4 => trivial
      | none => exact nb_fail
    | none =>
    simp only
    cases acc (mark1 64) r1 with
    | some r2 =>
      simp only
      cases numP r2 with
      | none => exact nb_fail
      | some p => simp only; split <;> first | trivial | (show (_ : Int) ≠ 0; decide)
    | none => trivial
theorem nb_fuel : ∀ (n : Nat) (k : PK) (r : List Tok), NB (pfuel n k r)
  | 0, _, _ => trivial
  | n + 1, k, r => nb_step (nb_fuel n) k r
theorem par_bad {k : PK} {r r1 : List Tok} {c : Int} (h : par k r = .bad c r1) : c ≠ 0 ∧ r1.length ≤ r.length := by
  have h1 := nb_fuel (40 * r.length + 20) k r
  have h2 := par_took k r
  rw [h] at h2
  unfold par at h
  rw [h] at h1
  exact ⟨h1, h2.length_le⟩
end Go.Proofs.YteopfpebdalcoaaGreatDoor
