/-
  Walks: the error of a node, in the program and in the reference.
-/
import Derived.Test.YtibfoafepjggjaaDoorElem
namespace Go.Proofs.YtibfoafepjggjaaDoor
open Go.RowKit

def isVarB (s : ByteArray) : Bool := elemB s || nameB s
set_option maxRecDepth 100000 in
theorem isvar_any (s : ByteArray) (w : World) (hs : s.size ≤ 9223372036854775807) (hk : Keys w) :
    Calls Tryd.prog 59 #[.string s] w fun e w' => e = .returned (.bool (isVarB s)) ∧ Ext w w' := by
  have HK := Lib.hid hk; clear hk
  have hq : isVarB s = (elemB s || nameB s) := rfl
  have HQ := Lib.hid hq; clear hq
  generalize isVarB s = r at *
  have he := fun w hk => element_any s w hs hk
  generalize elemB s = eb at *
  have HE := Lib.hid he; clear he
  go_enter Tryd.func59, Tryd.ntmps59
  go_wp2_with (first | (go_at_call 72; refine (HE.out _ HK.out).mono ?_; rintro e w' ⟨a, i, rfl, hx⟩) | (go_at_call 60; refine (isname_any _ _ (by omega) (HK.out.ext (by assumption))).mono ?_; rintro e w' ⟨rfl, hy⟩))
  all_goals go_ret
  all_goals (go_light; refine ⟨ret_bool ?_, (by first | exact hx.trans hy | exact hx)⟩; rw [HQ.out]; simp [*])

/-- The reference's way to say that a string is an element name. -/
def splitB (s : ByteArray) : Bool :=
  if h : s.size < 4 then false else decide ((s[s.size - 1]'(by omega)).toNat = 93) && decide ((s[s.size - 3]'(by omega)).toNat = 91) &&
    decide (48 ≤ (s[s.size - 2]'(by omega)).toNat) && decide ((s[s.size - 2]'(by omega)).toNat < 56) && nameB (s.extract 0 (s.size - 3))
theorem splitB_lt {s : ByteArray} (h : s.size < 4) : splitB s = false := by unfold splitB; rw [dif_pos h]
theorem splitB_ge {s : ByteArray} (h : ¬ s.size < 4) : splitB s = (decide ((s[s.size - 1]'(by omega)).toNat = 93) && decide ((s[s.size - 3]'(by omega)).toNat = 91) &&
    decide (48 ≤ (s[s.size - 2]'(by omega)).toNat) && decide ((s[s.size - 2]'(by omega)).toNat < 56) && nameB (s.extract 0 (s.size - 3))) := by unfold splitB; rw [dif_neg h]

/-- The facts on places that the walk asks for. -/
theorem places {s : ByteArray} (k : Nat) (hk : 1 ≤ k) (h : k ≤ s.size) : ((s.size : Int) - k < s.size) ∧ (0 ≤ (s.size : Int) - k) ∧ ((s.size : Int) - k).toNat = s.size - k := by omega

set_option maxRecDepth 100000 in
set_option maxHeartbeats 1600000 in
theorem split_any (s : ByteArray) (w : World) (hs : s.size ≤ 9223372036854775807) :
    Calls Tryd.prog 96 #[.string s] w (RetElem (splitB s) w) := by
  by_cases hz : s.size < 4
  · rw [splitB_lt hz]
    go_enter Tryd.func96, Tryd.ntmps96
    go_wp2_with fail
    go_ret3
    exact retElem rfl (Ext.refl _)
  · have hq := splitB_ge hz
    generalize splitB s = eb at *
    have hsz : (s.extract 0 (s.size - 3)).size ≤ 9223372036854775807 := by rw [ByteArray.size_extract]; omega
    obtain ⟨p1, p1', e1⟩ := places (s := s) 1 (by omega) (by omega)
    obtain ⟨p2, p2', e2⟩ := places (s := s) 2 (by omega) (by omega)
    obtain ⟨p3, p3', e3⟩ := places (s := s) 3 (by omega) (by omega)
    have b1 : s.size - 1 < s.size := by omega
    have b2 : s.size - 2 < s.size := by omega
    have b3 : s.size - 3 < s.size := by omega
    have q1 : (1 : Int) ≤ s.size := by omega
    have q2 : (2 : Int) ≤ s.size := by omega
    have q3 : (3 : Int) ≤ s.size := by omega
    have q4 : (4 : Int) ≤ s.size := by omega
    have y1 : ((s[s.size - 1]'b1).toNat : Int) < 256 := by have := (s[s.size - 1]'b1).toNat_lt; omega
    have y2 : ((s[s.size - 2]'b2).toNat : Int) < 256 := by have := (s[s.size - 2]'b2).toNat_lt; omega
    have y3 : ((s[s.size - 3]'b3).toNat : Int) < 256 := by have := (s[s.size - 3]'b3).toNat_lt; omega
    have hz' : decide ((s.size : Int) < 4) = false := decide_eq_false (by omega)
    have HQ := Lib.hid hq; clear hq
    by_cases g1 : (s[s.size - 1]'b1).toNat = 93
    · have h93 : (((s[s.size - 1]'b1).toNat : Int) != 93) = false := by rw [g1]; rfl
      have G1 := Lib.hid g1; clear g1
      by_cases g3 : (s[s.size - 3]'b3).toNat = 91
      · have h91 : (((s[s.size - 3]'b3).toNat : Int) != 91) = false := by rw [g3]; rfl
        have G3 := Lib.hid g3; clear g3
        go_enter Tryd.func96, Tryd.ntmps96
        go_wp2_with (go_at_call 27; refine (risname_any _ _ hsz).mono ?_; rintro e w' ⟨rfl, hy⟩)
        all_goals go_ret3
        all_goals (go_light; refine retElem ?_ (by first | exact hy | exact Ext.refl _); rw [HQ.out, decide_eq_true G1.out, decide_eq_true G3.out]; first
          | (rw [decide_eq_false (p := 48 ≤ (s[s.size - 2]'b2).toNat) (by omega)]; simp; done)
          | (rw [decide_eq_false (p := (s[s.size - 2]'b2).toNat < 56) (by omega)]; simp; done)
          | (rw [decide_eq_true (p := 48 ≤ (s[s.size - 2]'b2).toNat) (by omega), decide_eq_true (p := (s[s.size - 2]'b2).toNat < 56) (by omega)]; cases hnm : nameB (s.extract 0 (s.size - 3)) <;> simp [hnm] at * <;> omega))
      · have h91 : (((s[s.size - 3]'b3).toNat : Int) != 91) = true := by rw [bne_iff_ne]; omega
        have G3 := Lib.hid g3; clear g3
        go_enter Tryd.func96, Tryd.ntmps96
        go_wp2_with fail
        go_ret3
        exact retElem (by rw [HQ.out, decide_eq_false G3.out]; simp) (Ext.refl _)
    · have h93 : (((s[s.size - 1]'b1).toNat : Int) != 93) = true := by rw [bne_iff_ne]; omega
      have G1 := Lib.hid g1; clear g1
      go_enter Tryd.func96, Tryd.ntmps96
      go_wp2_with fail
      go_ret3
      exact retElem (by rw [HQ.out, decide_eq_false G1.out]; simp) (Ext.refl _)

theorem risvar_any (s : ByteArray) (w : World) (hs : s.size ≤ 9223372036854775807) :
    Calls Tryd.prog 80 #[.string s] w fun e w' => e = .returned (.bool (splitB s || nameB s)) ∧ Ext w w' := by
  have he := fun w => split_any s w hs
  generalize splitB s = eb at *
  have HE := Lib.hid he; clear he
  go_enter Tryd.func80, Tryd.ntmps80
  go_wp2_with (first | (go_at_call 96; refine (HE.out _).mono ?_; rintro e w' ⟨a, i, rfl, hx⟩) | (go_at_call 27; refine (risname_any _ _ (by omega)).mono ?_; rintro e w' ⟨rfl, hy⟩))
  all_goals go_ret
  all_goals (go_light; refine ⟨ret_bool ?_, (by first | exact hx.trans hy | exact hx)⟩; simp [*])

def arity (op : Int) : Int :=
  if op = 1 ∨ op = 2 ∨ op = 24 then 0 else if op = 3 ∨ op = 4 ∨ op = 5 ∨ op = 6 ∨ op = 25 then 1 else if op = 22 then 3 else if op = 23 then -1
  else if op < 1 ∨ 25 < op then -1 else 2
theorem arity_any (op : Int) (w : World) :
    Calls Tryd.prog 11 #[.int .i64 op] w fun e w' => e = .returned (.int .i64 (arity op)) ∧ w = w' := by
  go_enter Tryd.func11, Tryd.ntmps11
  go_wp2_with fail
  all_goals go_ret
  all_goals (go_light; refine ⟨ret_int ?_, rfl⟩; unfold arity; simp only [beq_iff_eq, beq_eq_false_iff_ne, ne_eq] at *; simp [*])
theorem rarity_any (op : Int) (w : World) :
    Calls Tryd.prog 12 #[.int .i64 op] w fun e w' => e = .returned (.int .i64 (arity op)) ∧ w = w' := by
  go_enter Tryd.func12, Tryd.ntmps12
  go_wp2_with fail
  all_goals go_ret
  all_goals (go_light; refine ⟨ret_int ?_, rfl⟩; unfold arity; simp only [beq_iff_eq, beq_eq_false_iff_ne, ne_eq] at *; simp [*])
end Go.Proofs.YtibfoafepjggjaaDoor
