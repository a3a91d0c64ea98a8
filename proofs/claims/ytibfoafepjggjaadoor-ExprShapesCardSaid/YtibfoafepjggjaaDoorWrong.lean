/-
  Walks: the error of a node in the reference.
-/
import Derived.Test.YtibfoafepjggjaaDoorNodeErr
import Derived.Test.YtibfoafepjggjaaDoorPlain8
namespace Go.Proofs.YtibfoafepjggjaaDoor
open Go.RowKit

set_option maxRecDepth 100000 in
set_option maxHeartbeats 2000000 in
theorem wrong_out (o m : Int) (s : ByteArray) (p : Option Addr) (n cap : Nat) (w : World) (hn : n ≤ 9223372036854775807) (ho : o < 1 ∨ 25 < o) :
    Calls Tryd.prog 68 #[.agg #[.int .i64 o, .int .i64 m, .string s, .slice p n cap]] w (ErrPost (nodeErr o m s n) w) := by
  have hq : nodeErr o m s n = 1 := by
    rw [nodeErr, if_pos ho]
  generalize nodeErr o m s n = r at *
  have HQ := Lib.hid hq; clear hq
  rcases ho with ho | ho
  all_goals
  go_enter Tryd.func68, Tryd.ntmps68
  go_wp2_with (first | (go_at_call 79; refine (named_any _ _).mono ?_; rintro e w' ⟨rfl, rfl⟩) | (go_at_call 12; refine (rarity_any _ _).mono ?_; rintro e w' ⟨rfl, rfl⟩))
  all_goals go_ret
  all_goals (go_light; refine ⟨ret_int ?_, (by first | exact hx.past | exact (Ext.refl _).alloc _)⟩; rw [HQ.out])
set_option maxRecDepth 100000 in
set_option maxHeartbeats 2000000 in
theorem wrong_const (m : Int) (s : ByteArray) (p : Option Addr) (n cap : Nat) (w : World) (hn : n ≤ 9223372036854775807) :
    Calls Tryd.prog 68 #[.agg #[.int .i64 1, .int .i64 m, .string s, .slice p n cap]] w (ErrPost (nodeErr 1 m s n) w) := by
  have hq : nodeErr 1 m s n = if m < 0 ∨ 65535 < m then 1 else if ¬ s.toList = [] ∨ ¬ (n : Int) = arity 1 then 1 else 0 := by
    simp [nodeErr, namedB, operB]
  generalize nodeErr 1 m s n = r at *
  have hnm : namedB 1 = false := rfl
  have HQ := Lib.hid hq; clear hq
  go_enter Tryd.func68, Tryd.ntmps68
  go_wp2_with (first | (go_at_call 79; refine (named_any _ _).mono ?_; rintro e w' ⟨rfl, rfl⟩) | (go_at_call 12; refine (rarity_any _ _).mono ?_; rintro e w' ⟨rfl, rfl⟩))
  all_goals go_ret
  all_goals (go_light; refine ⟨ret_int ?_, (by first | exact hx.past | exact (Ext.refl _).alloc _)⟩; rw [HQ.out]; first | (rw [if_pos (by omega)]; done) | (rw [if_neg (by omega)]; simp_all; done))
set_option maxRecDepth 100000 in
set_option maxHeartbeats 2000000 in
theorem wrong_elem (o m : Int) (s : ByteArray) (p : Option Addr) (n cap : Nat) (w : World) (hn : n ≤ 9223372036854775807) (ho : o = 3 ∨ o = 24) (hs : s.size ≤ 9223372036854775807) :
    Calls Tryd.prog 68 #[.agg #[.int .i64 o, .int .i64 m, .string s, .slice p n cap]] w (ErrPost (nodeErr o m s n) w) := by
  have hq : nodeErr o m s n = if ¬ m = 0 then 1 else if ¬ (n : Int) = arity o then 1 else if nameB s = false then 7 else 0 := by
    rcases ho with rfl | rfl <;> simp [nodeErr, namedB, operB]
  generalize nodeErr o m s n = r at *
  have HQ := Lib.hid hq; clear hq
  have hnm : namedB o = true := by rcases ho with rfl | rfl <;> rfl
  rcases ho with rfl | rfl
  all_goals
  go_enter Tryd.func68, Tryd.ntmps68
  go_wp2_with (first | (go_at_call 79; refine (named_any _ _).mono ?_; rintro e w' ⟨rfl, rfl⟩) | (go_at_call 12; refine (rarity_any _ _).mono ?_; rintro e w' ⟨rfl, rfl⟩) | (go_at_call 27; refine (risname_any s _ hs).mono ?_; rintro e w' ⟨rfl, hx⟩; obtain ⟨c0, c1, c2, c3⟩ := hx.box4))
  all_goals go_ret
  all_goals (go_light; refine ⟨ret_int ?_, (by first | exact hx.past | exact (Ext.refl _).alloc _)⟩; rw [HQ.out]; first | (simp_all; done) | (simp_all; omega))
set_option maxRecDepth 100000 in
set_option maxHeartbeats 2000000 in
theorem wrong_var (m : Int) (s : ByteArray) (p : Option Addr) (n cap : Nat) (w : World) (hn : n ≤ 9223372036854775807) (hs : s.size ≤ 9223372036854775807) :
    Calls Tryd.prog 68 #[.agg #[.int .i64 2, .int .i64 m, .string s, .slice p n cap]] w (ErrPost (nodeErr 2 m s n) w) := by
  have hq : nodeErr 2 m s n = if ¬ m = 0 then 1 else if ¬ (n : Int) = arity 2 then 1 else if isVarB s = false then 7 else 0 := by
    simp [nodeErr, namedB, operB]
  generalize nodeErr 2 m s n = r at *
  have hv := fun w => risvar_any s w hs
  rw [← elemB_splitB] at hv
  change ∀ w, Calls _ _ _ _ (fun e w' => e = .returned (.bool (isVarB s)) ∧ Ext w w') at hv
  have HV := Lib.hid hv; clear hv
  have hnm : namedB 2 = true := rfl
  have HQ := Lib.hid hq; clear hq
  go_enter Tryd.func68, Tryd.ntmps68
  go_wp2_with (first | (go_at_call 79; refine (named_any _ _).mono ?_; rintro e w' ⟨rfl, rfl⟩) | (go_at_call 12; refine (rarity_any _ _).mono ?_; rintro e w' ⟨rfl, rfl⟩) | (go_at_call 80; refine (HV.out _).mono ?_; rintro e w' ⟨rfl, hx⟩; obtain ⟨c0, c1, c2, c3⟩ := hx.box4))
  all_goals go_ret
  all_goals (go_light; refine ⟨ret_int ?_, (by first | exact hx.past | exact (Ext.refl _).alloc _)⟩; rw [HQ.out]; first | (simp_all; done) | (simp_all; omega))
set_option maxRecDepth 100000 in
set_option maxHeartbeats 2000000 in
theorem wrong_rest (o m : Int) (s : ByteArray) (p : Option Addr) (n cap : Nat) (w : World) (hn : n ≤ 9223372036854775807) (h1 : 1 ≤ o) (h25 : o ≤ 25) (n1 : ¬ o = 1) (n2 : ¬ o = 2) (n3 : ¬ o = 3) (n24 : ¬ o = 24) (n23 : ¬ o = 23) :
    Calls Tryd.prog 68 #[.agg #[.int .i64 o, .int .i64 m, .string s, .slice p n cap]] w (ErrPost (nodeErr o m s n) w) := by
  have hq : nodeErr o m s n = if ¬ m = 0 then 1 else if ¬ s.toList = [] ∨ ¬ (n : Int) = arity o then 1 else 0 := by
    have : ¬ (o < 1 ∨ 25 < o) := by omega
    simp [nodeErr, namedB, operB, this, n1, n2, n3, n24, n23]
  generalize nodeErr o m s n = r at *
  have e1 : (o == 1) = false := beq_eq_false_iff_ne.2 n1
  have e1' : (o != 1) = true := bne_iff_ne.2 n1
  have e2 : (o == 2) = false := beq_eq_false_iff_ne.2 n2
  have e23 : (o == 23) = false := beq_eq_false_iff_ne.2 n23
  have e23' : (o != 23) = true := bne_iff_ne.2 n23
  have hnm : namedB o = false := by simp [namedB, n2, n3, n24]
  clear n1 n2 n3 n24 n23
  have HQ := Lib.hid hq; clear hq
  go_enter Tryd.func68, Tryd.ntmps68
  go_wp2_with (first | (go_at_call 79; refine (named_any _ _).mono ?_; rintro e w' ⟨rfl, rfl⟩) | (go_at_call 12; refine (rarity_any _ _).mono ?_; rintro e w' ⟨rfl, rfl⟩))
  all_goals go_ret
  all_goals (go_light; refine ⟨ret_int ?_, (by first | exact hx.past | exact (Ext.refl _).alloc _)⟩; rw [HQ.out]; first | (simp_all; done) | (simp_all; omega))
set_option maxRecDepth 100000 in
set_option maxHeartbeats 2000000 in
theorem wrong_inside (m : Int) (s : ByteArray) (p : Option Addr) (n cap : Nat) (w : World) (hn : n ≤ 9223372036854775807) :
    Calls Tryd.prog 68 #[.agg #[.int .i64 23, .int .i64 m, .string s, .slice p n cap]] w (ErrPost (nodeErr 23 m s n) w) := by
  have hq : nodeErr 23 m s n = if ¬ m = 0 then 1 else if ¬ s.toList = [] ∨ ¬ ((n : Int) % 2 = 1 ∧ 3 ≤ (n : Int) ∧ (n : Int) ≤ 33) then 1 else 0 := by
    have h2 : operB 23 n = decide ((n : Int) % 2 = 1 ∧ 3 ≤ (n : Int) ∧ (n : Int) ≤ 33) := by
      simp only [operB, if_true]; rw [Bool.eq_iff_iff]; simp; omega
    simp only [nodeErr, namedB, h2, decide_eq_false_iff_not]; simp
  generalize nodeErr 23 m s n = r at *
  have hnm : namedB 23 = false := rfl
  have HQ := Lib.hid hq; clear hq
  go_enter Tryd.func68, Tryd.ntmps68
  go_wp2_with (first | (go_at_call 79; refine (named_any _ _).mono ?_; rintro e w' ⟨rfl, rfl⟩) | (go_at_call 12; refine (rarity_any _ _).mono ?_; rintro e w' ⟨rfl, rfl⟩))
  all_goals go_ret
  all_goals (go_light; refine ⟨ret_int ?_, (by first | exact hx.past | exact (Ext.refl _).alloc _)⟩; rw [HQ.out]; first | (simp_all; done) | (rw [if_neg (by omega), if_neg (by simp_all; omega)]; done) | (rw [if_neg (by omega), if_pos (by simp_all; omega)]; done) | (simp_all; omega))

theorem wrong_any (o m : Int) (s : ByteArray) (p : Option Addr) (n cap : Nat) (w : World) (hn : n ≤ 9223372036854775807) (hs : s.size ≤ 9223372036854775807) :
    Calls Tryd.prog 68 #[.agg #[.int .i64 o, .int .i64 m, .string s, .slice p n cap]] w (ErrPost (nodeErr o m s n) w) := by
  by_cases h : o < 1 ∨ 25 < o
  · exact wrong_out o m s p n cap w hn h
  by_cases h1 : o = 1
  · subst h1; exact wrong_const m s p n cap w hn
  by_cases h2 : o = 2
  · subst h2; exact wrong_var m s p n cap w hn hs
  by_cases h3 : o = 3 ∨ o = 24
  · exact wrong_elem o m s p n cap w hn h3 hs
  by_cases h23 : o = 23
  · subst h23; exact wrong_inside m s p n cap w hn
  exact wrong_rest o m s p n cap w hn (by omega) (by omega) h1 h2 (by omega) (by omega) h23
end Go.Proofs.YtibfoafepjggjaaDoor
