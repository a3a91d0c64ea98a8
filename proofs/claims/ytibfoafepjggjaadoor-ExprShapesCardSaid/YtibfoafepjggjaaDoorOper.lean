/-
  Walks: the value of an operation.
-/
import Derived.Test.YtibfoafepjggjaaDoorWord
import Derived.Test.YtibfoafepjggjaaDoorKeep
import Derived.Deep.Light
import Derived.BigQuiet
import Derived.Deep.QuietTactic
namespace Go.Proofs.YtibfoafepjggjaaDoor
open Go.RowKit

def b2i (b : Bool) : Int := if b then 1 else 0
theorem truth_any (b : Bool) (w : World) : Calls Tryd.prog 88 #[.bool b] w fun e w' => e = .returned (.int .i64 (b2i b)) ∧ w = w' := by
  cases b
  all_goals
    go_enter Tryd.func88, Tryd.ntmps88
    go_wp2_with fail
    go_ret
    exact ⟨rfl, rfl⟩

theorem nat_of (a : Nat) (ha : a < 65536) : (BitVec.ofInt 64 (a : Int)).toNat = a := by
  rw [BitVec.toNat_ofInt]; omega
theorem i64_and (a b : Int) (h0 : 0 ≤ a) (h1 : a < 65536) (h2 : 0 ≤ b) (h3 : b < 65536) : bits .and .i64 a b = ((a.toNat &&& b.toNat : Nat) : Int) := by
  obtain ⟨a, rfl⟩ := Int.eq_ofNat_of_zero_le h0
  obtain ⟨b, rfl⟩ := Int.eq_ofNat_of_zero_le h2
  show IntKind.i64.wrap ((BitVec.ofInt 64 (a : Int) &&& BitVec.ofInt 64 (b : Int)).toNat : Nat) = _
  rw [BitVec.toNat_and, nat_of a (by omega), nat_of b (by omega), IntKind.wrap_i64]
  have : a &&& b ≤ a := Nat.and_le_left
  simp only [Int.toNat_natCast]; omega
theorem i64_or (a b : Int) (h0 : 0 ≤ a) (h1 : a < 65536) (h2 : 0 ≤ b) (h3 : b < 65536) : bits .or .i64 a b = ((a.toNat ||| b.toNat : Nat) : Int) := by
  obtain ⟨a, rfl⟩ := Int.eq_ofNat_of_zero_le h0
  obtain ⟨b, rfl⟩ := Int.eq_ofNat_of_zero_le h2
  show IntKind.i64.wrap ((BitVec.ofInt 64 (a : Int) ||| BitVec.ofInt 64 (b : Int)).toNat : Nat) = _
  rw [BitVec.toNat_or, nat_of a (by omega), nat_of b (by omega), IntKind.wrap_i64]
  have : a ||| b < 2 ^ 16 := Nat.or_lt_two_pow (by omega) (by omega)
  simp only [Int.toNat_natCast]; omega
theorem i64_xor (a b : Int) (h0 : 0 ≤ a) (h1 : a < 65536) (h2 : 0 ≤ b) (h3 : b < 65536) : bits .xor .i64 a b = ((a.toNat ^^^ b.toNat : Nat) : Int) := by
  obtain ⟨a, rfl⟩ := Int.eq_ofNat_of_zero_le h0
  obtain ⟨b, rfl⟩ := Int.eq_ofNat_of_zero_le h2
  show IntKind.i64.wrap ((BitVec.ofInt 64 (a : Int) ^^^ BitVec.ofInt 64 (b : Int)).toNat : Nat) = _
  rw [BitVec.toNat_xor, nat_of a (by omega), nat_of b (by omega), IntKind.wrap_i64]
  have : a ^^^ b < 2 ^ 16 := Nat.xor_lt_two_pow (by omega) (by omega)
  simp only [Int.toNat_natCast]; omega

/-- The value of an operation of one word. -/
def singleS (op a : Int) : Int := if op = 4 then b2i (a == 0) else if op = 5 then 65535 - a % 65536 else if op = 6 then (-a) % 65536 else (popc 16 (a % 65536).toNat : Nat)
set_option maxRecDepth 100000 in
theorem single_any (op a : Int) (w : World) :
    Calls Tryd.prog 77 #[.int .i64 op, .int .i64 a] w fun e w' => e = .returned (.int .i64 (singleS op a)) ∧ Ext w w' := by
  generalize hR : singleS op a = R
  have HR := Lib.hid hR; clear hR
  go_enter Tryd.func77, Tryd.ntmps77
  go_wp2_with (first | (go_at_call 88; refine (truth_any _ _).mono ?_; rintro e w' ⟨rfl, rfl⟩) | (go_at_call 89; refine (inv_any _ _).mono ?_; rintro e w' ⟨rfl, rfl⟩) | (go_at_call 90; refine (neg_any _ _).mono ?_; rintro e w' ⟨rfl, rfl⟩) | (go_at_call 91; refine (ones_any _ _).mono ?_; rintro e w' ⟨rfl, hx⟩))
  all_goals go_ret
  all_goals (go_light; refine ⟨ret_int ?_, (by first | exact hx | exact Ext.refl _)⟩; rw [← HR.out]; simp only [beq_iff_eq, beq_eq_false_iff_ne, ne_eq] at *; unfold singleS; simp [*])
/-- The value of an operation of two words. -/
def doubleS (op a b : Int) : Int :=
  if op = 7 then (a + b) % 65536 else if op = 8 then (a - b) % 65536 else if op = 9 then (a * b) % 65536
  else if op = 10 then ((a.toNat &&& b.toNat : Nat) : Int) else if op = 11 then ((a.toNat ||| b.toNat : Nat) : Int) else if op = 12 then ((a.toNat ^^^ b.toNat : Nat) : Int)
  else if op = 13 then shlS (a % 65536) b else if op = 14 then shrS (a % 65536) b
  else if op = 15 then b2i (a == b) else if op = 16 then b2i (a != b) else if op = 17 then b2i (decide (a < b)) else if op = 18 then b2i (decide (a ≤ b))
  else if op = 19 then b2i (a != 0 && b != 0) else if op = 20 then b2i (a != 0 || b != 0) else b2i (a == 0 || b != 0)
set_option maxRecDepth 100000 in
set_option maxHeartbeats 2000000 in
theorem double_any (op a b : Int) (w : World) (h0 : 0 ≤ a) (h1 : a < 65536) (h2 : 0 ≤ b) (h3 : b < 65536) :
    Calls Tryd.prog 78 #[.int .i64 op, .int .i64 a, .int .i64 b] w fun e w' => e = .returned (.int .i64 (doubleS op a b)) ∧ w = w' := by
  have q1 := i64_and a b h0 h1 h2 h3
  have q2 := i64_or a b h0 h1 h2 h3
  have q3 := i64_xor a b h0 h1 h2 h3
  generalize hR : doubleS op a b = R
  have HR := Lib.hid hR; clear hR
  have Q := Lib.hid (And.intro q1 (And.intro q2 q3)); clear q1 q2 q3
  go_enter Tryd.func78, Tryd.ntmps78
  go_wp2_with (first | (go_at_call 88; refine (truth_any _ _).mono ?_; rintro e w' ⟨rfl, rfl⟩) | (go_at_call 76; refine (add_any _ _ _).mono ?_; rintro e w' ⟨rfl, rfl⟩) | (go_at_call 92; refine (sub_any _ _ _).mono ?_; rintro e w' ⟨rfl, rfl⟩) | (go_at_call 93; refine (mul_any _ _ _).mono ?_; rintro e w' ⟨rfl, rfl⟩) | (go_at_call 94; refine (shl_any _ _ _).mono ?_; rintro e w' ⟨rfl, rfl⟩) | (go_at_call 95; refine (shr_any _ _ _).mono ?_; rintro e w' ⟨rfl, rfl⟩))
  all_goals go_ret
  all_goals (go_light; refine ⟨ret_int ?_, rfl⟩; rw [← HR.out]; simp only [beq_iff_eq, beq_eq_false_iff_ne, ne_eq] at *; unfold doubleS; first | (simp [*]; done) | (simp [*, Q.out.1, Q.out.2.1, Q.out.2.2]; done) | (rw [show (a != 0) = true from bne_iff_ne.2 (by assumption)]; simp [*]; done))

/-- Is a number in one of the ranges? -/
def insideL (x : Int) : List Int → Bool
  | a :: b :: r => (decide (a ≤ x) && decide (x ≤ b)) || insideL x r
  | _ => false
/-- The value of an operation. -/
def operS (op : Int) (l : List Int) : Int :=
  if op = 22 then (match l with | [a, b, c] => if a = 0 then c else b | _ => 0)
  else if op = 23 then (match l with | x :: r => b2i (insideL x r) | _ => 0)
  else match l with | [a] => singleS op a | [a, b] => doubleS op a b | _ => 0

set_option maxRecDepth 100000 in
theorem operate_if (a b c : Int) (v : Value) (w : World) (hv : IntsVal w [a, b, c] v) :
    Calls Tryd.prog 64 #[.int .i64 22, v] w fun e w' => e = .returned (.int .i64 (operS 22 [a, b, c])) ∧ Ext w w' := by
  have hv' := hv
  obtain ⟨p, cap, rfl, h1, h2, h3⟩ := hv'
  obtain ⟨bb, off, rfl, q0⟩ := ints_at hv (j := 0) (by simp)
  obtain ⟨_, _, e, q1⟩ := ints_at hv (j := 1) (by simp)
  cases e
  obtain ⟨_, _, e, q2⟩ := ints_at hv (j := 2) (by simp)
  cases e
  simp only [List.getElem_cons_zero, List.getElem_cons_succ, Nat.add_zero] at q0 q1 q2
  clear hv h3
  by_cases ha : a = 0
  · have ha' : (a != 0) = false := by simp [ha]
    have HA := Lib.hid ha; clear ha
    go_enter Tryd.func64, Tryd.ntmps64
    go_wp2_with fail
    go_ret
    exact ⟨ret_int (by simp [operS, HA.out]), Ext.refl _⟩
  · have ha' : (a != 0) = true := bne_iff_ne.2 ha
    have HA := Lib.hid ha; clear ha
    go_enter Tryd.func64, Tryd.ntmps64
    go_wp2_with fail
    go_ret
    exact ⟨ret_int (by simp [operS, HA.out]), Ext.refl _⟩

set_option maxRecDepth 100000 in
theorem operate_one (op a : Int) (v : Value) (w : World) (hv : IntsVal w [a] v) (h22 : ¬ op = 22) (h23 : ¬ op = 23) :
    Calls Tryd.prog 64 #[.int .i64 op, v] w fun e w' => e = .returned (.int .i64 (operS op [a])) ∧ Ext w w' := by
  have hv' := hv
  obtain ⟨p, cap, rfl, h1, h2, h3⟩ := hv'
  obtain ⟨bb, off, rfl, q0⟩ := ints_at hv (j := 0) (by simp)
  simp only [List.getElem_cons_zero, Nat.add_zero] at q0
  clear hv h3
  have e1 : (op == 22) = false := beq_eq_false_iff_ne.2 h22
  have e2 : (op == 23) = false := beq_eq_false_iff_ne.2 h23
  have hq : operS op [a] = singleS op a := by simp [operS, h22, h23]
  clear h22 h23
  generalize operS op [a] = R at *
  have HQ := Lib.hid hq; clear hq
  go_enter Tryd.func64, Tryd.ntmps64
  go_wp2_with (go_at_call 77; refine (single_any _ _ _).mono ?_; rintro e w' ⟨rfl, hx⟩)
  go_ret
  exact ⟨ret_int HQ.out.symm, hx⟩

set_option maxRecDepth 100000 in
theorem operate_two (op a b : Int) (v : Value) (w : World) (hv : IntsVal w [a, b] v) (h22 : ¬ op = 22) (h23 : ¬ op = 23) (h0 : 0 ≤ a) (ha : a < 65536) (hb0 : 0 ≤ b) (hb : b < 65536) :
    Calls Tryd.prog 64 #[.int .i64 op, v] w fun e w' => e = .returned (.int .i64 (operS op [a, b])) ∧ Ext w w' := by
  have hv' := hv
  obtain ⟨p, cap, rfl, h1, h2, h3⟩ := hv'
  obtain ⟨bb, off, rfl, q0⟩ := ints_at hv (j := 0) (by simp)
  obtain ⟨_, _, e, q1⟩ := ints_at hv (j := 1) (by simp)
  cases e
  simp only [List.getElem_cons_zero, List.getElem_cons_succ, Nat.add_zero] at q0 q1
  clear hv h3
  have e1 : (op == 22) = false := beq_eq_false_iff_ne.2 h22
  have e2 : (op == 23) = false := beq_eq_false_iff_ne.2 h23
  have hq : operS op [a, b] = doubleS op a b := by simp [operS, h22, h23]
  clear h22 h23
  generalize operS op [a, b] = R at *
  have HQ := Lib.hid hq; clear hq
  go_enter Tryd.func64, Tryd.ntmps64
  go_wp2_with fail
  go_quiet ((go_at_call 78; exact quiet_of_eq (double_any op a b _ h0 ha hb0 hb)))
  go_wp2_with fail
  go_ret
  exact ⟨ret_int HQ.out.symm, (Ext.refl w).drewN _⟩
theorem drop_two {l : List Int} {k : Nat} (h : k + 1 < l.length) : l.drop k = l[k] :: l[k + 1] :: l.drop (k + 2) := by
  rw [List.drop_eq_getElem_cons (by omega), List.drop_eq_getElem_cons h]

set_option maxRecDepth 100000 in
set_option maxHeartbeats 1000000 in
theorem operate_inside (x : Int) (r : List Int) (v : Value) (w : World) (hv : IntsVal w (x :: r) v) (hlen : r.length ≤ 1000) :
    Calls Tryd.prog 64 #[.int .i64 23, v] w fun e w' => e = .returned (.int .i64 (operS 23 (x :: r))) ∧ Ext w w' := by
  have hq : operS 23 (x :: r) = b2i (insideL x r) := by simp [operS]
  generalize operS 23 (x :: r) = R at *
  have HQ := Lib.hid hq; clear hq
  obtain ⟨l, hl⟩ : ∃ l, l = x :: r := ⟨_, rfl⟩
  rw [← hl] at hv
  have hr : l.drop 1 = r := by rw [hl]; rfl
  have h1l : 1 ≤ l.length := by rw [hl]; simp
  have h1m : l.length ≤ 1001 := by rw [hl]; simp; omega
  have hx0 : l[0]'(by omega) = x := by simp [hl]
  have HL := Lib.hid hl; clear hl
  have HR := Lib.hid hr; clear hr
  have HX0 := Lib.hid hx0; clear hx0
  have hv' := hv
  obtain ⟨p, cap, rfl, h1, h2, h3⟩ := hv'
  obtain ⟨bb, off, rfl, q0⟩ := ints_at hv (j := 0) (by omega)
  rw [HX0.out, Nat.add_zero] at q0
  have HV := Lib.hid hv; clear hv
  clear h3
  go_enter Tryd.func64, Tryd.ntmps64
  go_wp2_with fail
  go_loopw [5] (fun i wr => ∃ k : Nat, i = .int .i64 k ∧ 1 ≤ k ∧ k ≤ l.length + 1 ∧ insideL x (l.drop k) = insideL x r ∧ ∃ n, wr = w.drewN n) (fun i _ => l.length + 2 - (intOf i).toNat)
  case atStart => exact ⟨1, rfl, by omega, by omega, by rw [HR.out], 0, rfl⟩
  case round =>
    obtain ⟨k, rfl, hk1, hk2, hrec, n, rfl⟩ := hrel
    have HREC := Lib.hid hrec; clear hrec
    by_cases hlt : k + 1 < l.length
    · obtain ⟨_, _, e, q1⟩ := ints_at HV.out (j := k) (by omega)
      cases e
      obtain ⟨_, _, e, q2⟩ := ints_at HV.out (j := k + 1) hlt
      cases e
      have hstep : insideL x (l.drop k) = ((decide (l[k] ≤ x) && decide (x ≤ l[k + 1])) || insideL x (l.drop (k + 2))) := by rw [drop_two hlt, insideL]
      have HS := Lib.hid hstep; clear hstep
      have w1 : IntKind.i64.wrap ((k : Int) + 1) = (k : Int) + 1 := IntWalk.i64_in _ (by omega)
      have w2 : ((k : Int) + 1).toNat = k + 1 := by omega
      have w3 : (k : Int) + 1 < (l.length : Int) := by omega
      have w4 : (k : Int) < (l.length : Int) := by omega
      have w5 : (0 : Int) ≤ (k : Int) + 1 := by omega
      by_cases ha : l[k] ≤ x
      · by_cases hb : x ≤ l[k + 1]
        · go_wp2_with fail
          go_quiet (fail)
          go_wp2_with fail
          go_ret
          exact ⟨ret_int (by rw [HQ.out, ← HREC.out, HS.out, decide_eq_true ha, decide_eq_true hb]; rfl), ((Ext.refl w).drewN _).drewN _⟩
        · have hb' : decide (x ≤ l[k + 1]) = false := decide_eq_false hb
          have HB := Lib.hid hb; clear hb
          go_wp2_with fail
          go_quiet (fail)
          go_wp2_with fail
          go_roundw
          case rel => exact ⟨k + 2, by go_num, by omega, by omega, by rw [← HREC.out, HS.out, decide_eq_false (p := x ≤ l[k + 1]) (by have := HB.out; omega)]; simp, _, rfl⟩
          case measure => simp [intOf]; omega
      · have ha' : decide (l[k] ≤ x) = false := decide_eq_false ha
        have HA := Lib.hid ha; clear ha
        go_wp2_with fail
        go_quiet (fail)
        go_wp2_with fail
        go_roundw
        case rel => exact ⟨k + 2, by go_num, by omega, by omega, by rw [← HREC.out, HS.out, decide_eq_false (p := l[k] ≤ x) (by have := HA.out; omega)]; simp, _, rfl⟩
        case measure => simp [intOf]; omega
    · have hd : insideL x (l.drop k) = false := by
        by_cases hk : k < l.length
        · have : k + 1 = l.length := by omega
          rw [List.drop_eq_getElem_cons hk, List.drop_of_length_le (by omega)]; rfl
        · rw [List.drop_of_length_le (by omega)]; rfl
      have HD := Lib.hid hd; clear hd
      have w1 : IntKind.i64.wrap ((k : Int) + 1) = (k : Int) + 1 := IntWalk.i64_in _ (by omega)
      have w3 : decide ((k : Int) + 1 < (l.length : Int)) = false := decide_eq_false (by omega)
      have w4 : (l.length : Int) ≤ (k : Int) + 1 := by omega
      go_wp2_with fail
      go_ret
      exact ⟨ret_int (by rw [HQ.out, ← HREC.out, HD.out]; rfl), (Ext.refl w).drewN _⟩
end Go.Proofs.YtibfoafepjggjaaDoor
