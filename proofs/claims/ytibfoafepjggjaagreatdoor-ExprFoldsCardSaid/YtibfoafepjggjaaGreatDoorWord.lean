/-
  Walks: the package word.
-/
import Derived.Test.YtibfoafepjggjaaGreatDoorRows
import Derived.Test.YtibfoafepjggjaaGreatDoorData
import Derived.WalkKit
import Derived.WalkSpells
import Derived.WalkLawsBesides
import Derived.Deep.QuietTactic
import Derived.BigQuiet
set_option linter.unusedVariables false
set_option linter.unusedSimpArgs false
namespace Go.Proofs.YtibfoafepjggjaaGreatDoor
open Go.RowKit

theorem i64_and_word (n : Int) : bits .and .i64 n 65535 = n % 65536 := by
  have h127 : (BitVec.ofInt 64 65535).toNat = 2 ^ 16 - 1 := by decide
  have key : (BitVec.ofInt 64 n &&& BitVec.ofInt 64 65535).toNat = (n % ((2 ^ 64 : Nat) : Int)).toNat % 2 ^ 16 := by
    rw [BitVec.toNat_and, BitVec.toNat_ofInt, h127, Nat.and_two_pow_sub_one_eq_mod]
  show IntKind.i64.wrap ((BitVec.ofInt 64 n &&& BitVec.ofInt 64 65535).toNat : Nat) = n % 65536
  rw [key, IntKind.wrap_i64]
  omega

theorem u16_inv (a : Int) (h0 : 0 ≤ a) (h1 : a < 65536) : bits .xor .u16 IntKind.u16.max a = 65535 - a := by
  obtain ⟨n, rfl⟩ := Int.eq_ofNat_of_zero_le h0
  have hn : n < 2 ^ 16 := by omega
  have e : IntKind.u16.max = ((65535 : Nat) : Int) := by decide
  rw [e, u16_xor_nat _ _ (by decide) (by omega)]
  have h : 65535 ^^^ n = 65535 - n := by
    have := BitVec.toNat_not (x := BitVec.ofNat 16 n)
    rw [← BitVec.allOnes_xor, BitVec.toNat_xor] at this
    simp only [BitVec.toNat_allOnes, BitVec.toNat_ofNat, Nat.mod_eq_of_lt hn] at this
    simpa using this
  rw [h]; omega

theorem wof_any (n : Int) (w : World) :
    Calls Tryz.prog 69 #[.int .i64 n] w fun e w' => e = .returned (.int .u16 (n % 65536)) ∧ w = w' := by
  go_enter Tryz.func69, Tryz.ntmps69
  go_wp2_with fail
  go_ret
  exact ⟨ret_int (by rw [i64_and_word, IntKind.wrap_u16]; omega), rfl⟩

theorem wvalue_any (n : Int) (h0 : 0 ≤ n) (h1 : n < 65536) (w : World) :
    Calls Tryz.prog 70 #[.int .u16 n] w fun e w' => e = .returned (.int .i64 n) ∧ w = w' := by
  go_enter Tryz.func70, Tryz.ntmps70
  go_wp2_with fail
  go_ret
  exact ⟨rfl, rfl⟩

theorem wrap_any (n : Int) (w : World) :
    Calls Tryz.prog 51 #[.int .i64 n] w fun e w' => e = .returned (.int .i64 (n % 65536)) ∧ w = w' := by
  go_enter Tryz.func51, Tryz.ntmps51
  go_wp2_with (first | (go_at_call 69; refine (wof_any _ _).mono ?_; rintro e w' ⟨rfl, rfl⟩) | (go_at_call 70; refine (wvalue_any _ (by omega) (by omega) _).mono ?_; rintro e w' ⟨rfl, rfl⟩))
  go_ret
  exact ⟨rfl, rfl⟩

theorem wadd_any (a b : Int) (w : World) :
    Calls Tryz.prog 72 #[.int .u16 a, .int .u16 b] w fun e w' => e = .returned (.int .u16 ((a + b) % 65536)) ∧ w = w' := by
  go_enter Tryz.func72, Tryz.ntmps72
  go_wp2_with fail
  go_ret
  exact ⟨ret_int (by rw [IntKind.wrap_u16]), rfl⟩
theorem two_add (a b : Int) (w : World) :
    Calls Tryz.prog 71 #[.func (.func 72) #[.int .u16 a] #[], .int .i64 b] w fun e w' => e = .returned (.int .i64 ((a + b) % 65536)) ∧ w = w' := by
  go_enter Tryz.func71, Tryz.ntmps71
  go_wp2_with (first | (go_at_call 69; refine (wof_any _ _).mono ?_; rintro e w' ⟨rfl, rfl⟩) | (go_at_call 70; refine (wvalue_any _ (by omega) (by omega) _).mono ?_; rintro e w' ⟨rfl, rfl⟩) | (go_at_call 72; refine (wadd_any _ _ _).mono ?_; rintro e w' ⟨rfl, rfl⟩))
  go_ret
  exact ⟨rfl, rfl⟩
theorem add_any (a b : Int) (w : World) :
    Calls Tryz.prog 52 #[.int .i64 a, .int .i64 b] w fun e w' => e = .returned (.int .i64 ((a + b) % 65536)) ∧ w = w' := by
  go_enter Tryz.func52, Tryz.ntmps52
  go_wp2_with (first | (go_at_call 69; refine (wof_any _ _).mono ?_; rintro e w' ⟨rfl, rfl⟩) | (go_at_call 71; refine (two_add _ _ _).mono ?_; rintro e w' ⟨rfl, rfl⟩))
  go_ret
  exact ⟨ret_int (by omega), rfl⟩
theorem wsub_any (a b : Int) (w : World) :
    Calls Tryz.prog 103 #[.int .u16 a, .int .u16 b] w fun e w' => e = .returned (.int .u16 ((a - b) % 65536)) ∧ w = w' := by
  go_enter Tryz.func103, Tryz.ntmps103
  go_wp2_with fail
  go_ret
  exact ⟨ret_int (by rw [IntKind.wrap_u16]), rfl⟩
theorem two_sub (a b : Int) (w : World) :
    Calls Tryz.prog 71 #[.func (.func 103) #[.int .u16 a] #[], .int .i64 b] w fun e w' => e = .returned (.int .i64 ((a - b) % 65536)) ∧ w = w' := by
  go_enter Tryz.func71, Tryz.ntmps71
  go_wp2_with (first | (go_at_call 69; refine (wof_any _ _).mono ?_; rintro e w' ⟨rfl, rfl⟩) | (go_at_call 70; refine (wvalue_any _ (by omega) (by omega) _).mono ?_; rintro e w' ⟨rfl, rfl⟩) | (go_at_call 103; refine (wsub_any _ _ _).mono ?_; rintro e w' ⟨rfl, rfl⟩))
  go_ret
  exact ⟨rfl, rfl⟩
theorem sub_any (a b : Int) (w : World) :
    Calls Tryz.prog 77 #[.int .i64 a, .int .i64 b] w fun e w' => e = .returned (.int .i64 ((a - b) % 65536)) ∧ w = w' := by
  go_enter Tryz.func77, Tryz.ntmps77
  go_wp2_with (first | (go_at_call 69; refine (wof_any _ _).mono ?_; rintro e w' ⟨rfl, rfl⟩) | (go_at_call 71; refine (two_sub _ _ _).mono ?_; rintro e w' ⟨rfl, rfl⟩))
  go_ret
  exact ⟨ret_int (by omega), rfl⟩
theorem wmul_any (a b : Int) (w : World) :
    Calls Tryz.prog 104 #[.int .u16 a, .int .u16 b] w fun e w' => e = .returned (.int .u16 ((a * b) % 65536)) ∧ w = w' := by
  go_enter Tryz.func104, Tryz.ntmps104
  go_wp2_with fail
  go_ret
  exact ⟨ret_int (by rw [IntKind.wrap_u16]), rfl⟩
theorem two_mul (a b : Int) (w : World) :
    Calls Tryz.prog 71 #[.func (.func 104) #[.int .u16 a] #[], .int .i64 b] w fun e w' => e = .returned (.int .i64 ((a * (b % 65536)) % 65536)) ∧ w = w' := by
  go_enter Tryz.func71, Tryz.ntmps71
  go_wp2_with (first | (go_at_call 69; refine (wof_any _ _).mono ?_; rintro e w' ⟨rfl, rfl⟩) | (go_at_call 70; refine (wvalue_any _ (by omega) (by omega) _).mono ?_; rintro e w' ⟨rfl, rfl⟩) | (go_at_call 104; refine (wmul_any _ _ _).mono ?_; rintro e w' ⟨rfl, rfl⟩))
  go_ret
  exact ⟨rfl, rfl⟩
theorem mul_any (a b : Int) (w : World) :
    Calls Tryz.prog 78 #[.int .i64 a, .int .i64 b] w fun e w' => e = .returned (.int .i64 ((a * b) % 65536)) ∧ w = w' := by
  go_enter Tryz.func78, Tryz.ntmps78
  go_wp2_with (first | (go_at_call 69; refine (wof_any _ _).mono ?_; rintro e w' ⟨rfl, rfl⟩) | (go_at_call 71; refine (two_mul _ _ _).mono ?_; rintro e w' ⟨rfl, rfl⟩))
  go_ret
  exact ⟨ret_int (by rw [Int.mul_emod, Int.mul_emod a b]; simp), rfl⟩
theorem wneg_any (a : Int) (h0 : 0 ≤ a) (h1 : a < 65536) (w : World) :
    Calls Tryz.prog 101 #[.int .u16 a] w fun e w' => e = .returned (.int .u16 ((-a) % 65536)) ∧ w = w' := by
  go_enter Tryz.func101, Tryz.ntmps101
  go_wp2_with fail
  go_ret
  exact ⟨ret_int (by rw [IntKind.wrap_u16]), rfl⟩
theorem one_neg (a : Int) (h0 : 0 ≤ a) (h1 : a < 65536) (w : World) :
    Calls Tryz.prog 99 #[.func (.func 101) #[.int .u16 a] #[]] w fun e w' => e = .returned (.int .i64 ((-a) % 65536)) ∧ w = w' := by
  go_enter Tryz.func99, Tryz.ntmps99
  go_wp2_with (first | (go_at_call 70; refine (wvalue_any _ (by omega) (by omega) _).mono ?_; rintro e w' ⟨rfl, rfl⟩) | (go_at_call 101; refine (wneg_any _ (by omega) (by omega) _).mono ?_; rintro e w' ⟨rfl, rfl⟩))
  go_ret
  exact ⟨rfl, rfl⟩
theorem neg_any (a : Int) (w : World) :
    Calls Tryz.prog 75 #[.int .i64 a] w fun e w' => e = .returned (.int .i64 ((-a) % 65536)) ∧ w = w' := by
  go_enter Tryz.func75, Tryz.ntmps75
  go_wp2_with (first | (go_at_call 69; refine (wof_any _ _).mono ?_; rintro e w' ⟨rfl, rfl⟩) | (go_at_call 99; refine (one_neg _ (by omega) (by omega) _).mono ?_; rintro e w' ⟨rfl, rfl⟩))
  go_ret
  exact ⟨ret_int (by omega), rfl⟩
theorem winv_any (a : Int) (h0 : 0 ≤ a) (h1 : a < 65536) (w : World) :
    Calls Tryz.prog 100 #[.int .u16 a] w fun e w' => e = .returned (.int .u16 (65535 - a)) ∧ w = w' := by
  go_enter Tryz.func100, Tryz.ntmps100
  go_wp2_with fail
  go_ret
  exact ⟨ret_int (u16_inv a h0 h1), rfl⟩
theorem one_inv (a : Int) (h0 : 0 ≤ a) (h1 : a < 65536) (w : World) :
    Calls Tryz.prog 99 #[.func (.func 100) #[.int .u16 a] #[]] w fun e w' => e = .returned (.int .i64 (65535 - a)) ∧ w = w' := by
  go_enter Tryz.func99, Tryz.ntmps99
  go_wp2_with (first | (go_at_call 70; refine (wvalue_any _ (by omega) (by omega) _).mono ?_; rintro e w' ⟨rfl, rfl⟩) | (go_at_call 100; refine (winv_any _ (by omega) (by omega) _).mono ?_; rintro e w' ⟨rfl, rfl⟩))
  go_ret
  exact ⟨rfl, rfl⟩
theorem inv_any (a : Int) (w : World) :
    Calls Tryz.prog 74 #[.int .i64 a] w fun e w' => e = .returned (.int .i64 (65535 - a % 65536)) ∧ w = w' := by
  go_enter Tryz.func74, Tryz.ntmps74
  go_wp2_with (first | (go_at_call 69; refine (wof_any _ _).mono ?_; rintro e w' ⟨rfl, rfl⟩) | (go_at_call 99; refine (one_inv _ (by omega) (by omega) _).mono ?_; rintro e w' ⟨rfl, rfl⟩))
  go_ret
  exact ⟨ret_int (by omega), rfl⟩
theorem shr_bd (a n : Int) (h0 : 0 ≤ a) (h1 : a < 65536) : 0 ≤ a / 2 ^ n.toNat ∧ a / 2 ^ n.toNat < 65536 := by
  have hp : (0 : Int) < 2 ^ n.toNat := Int.pow_pos (by decide)
  refine ⟨Int.ediv_nonneg h0 (by omega), ?_⟩
  have := Int.ediv_le_self (2 ^ n.toNat) h0
  omega
def shlS (a n : Int) : Int := if n < 0 ∨ 16 ≤ n then 0 else (a * 2 ^ n.toNat) % 65536
theorem wshl_any (a n : Int) (h0 : 0 ≤ a) (h1 : a < 65536) (h2 : 0 ≤ n) (h3 : n < 16) (w : World) :
    Calls Tryz.prog 106 #[.int .u16 a, .int .i64 n] w fun e w' => e = .returned (.int .u16 ((a * 2 ^ n.toNat) % 65536)) ∧ w = w' := by
  go_enter Tryz.func106, Tryz.ntmps106
  go_wp2_with fail
  go_ret
  exact ⟨ret_int (by rw [IntKind.wrap_u16]), rfl⟩
theorem shift_shl (a n : Int) (h0 : 0 ≤ a) (h1 : a < 65536) (w : World) :
    Calls Tryz.prog 105 #[.func (.func 106) #[.int .u16 a] #[], .int .i64 n] w fun e w' => e = .returned (.int .i64 (shlS a n)) ∧ w = w' := by
  by_cases hn : n < 0
  · go_enter Tryz.func105, Tryz.ntmps105
    go_wp2_with fail
    go_ret
    exact ⟨ret_int (by unfold shlS; rw [if_pos (by omega)]), rfl⟩
  · by_cases hn' : n < 16
    · go_enter Tryz.func105, Tryz.ntmps105
      go_wp2_with (first | (go_at_call 70; refine (wvalue_any _ (by omega) (by omega) _).mono ?_; rintro e w' ⟨rfl, rfl⟩) | (go_at_call 106; refine (wshl_any _ _ h0 h1 (by omega) (by omega) _).mono ?_; rintro e w' ⟨rfl, rfl⟩))
      go_ret
      exact ⟨ret_int (by unfold shlS; rw [if_neg (by omega)]), rfl⟩
    · go_enter Tryz.func105, Tryz.ntmps105
      go_wp2_with fail
      go_ret
      exact ⟨ret_int (by unfold shlS; rw [if_pos (by omega)]), rfl⟩
theorem shl_any (a n : Int) (w : World) :
    Calls Tryz.prog 79 #[.int .i64 a, .int .i64 n] w fun e w' => e = .returned (.int .i64 (shlS (a % 65536) n)) ∧ w = w' := by
  go_enter Tryz.func79, Tryz.ntmps79
  go_wp2_with (first | (go_at_call 69; refine (wof_any _ _).mono ?_; rintro e w' ⟨rfl, rfl⟩) | (go_at_call 105; refine (shift_shl _ _ (by omega) (by omega) _).mono ?_; rintro e w' ⟨rfl, rfl⟩))
  go_ret
  exact ⟨rfl, rfl⟩
def shrS (a n : Int) : Int := if n < 0 ∨ 16 ≤ n then 0 else a / 2 ^ n.toNat
theorem wshr_any (a n : Int) (h0 : 0 ≤ a) (h1 : a < 65536) (h2 : 0 ≤ n) (h3 : n < 16) (w : World) :
    Calls Tryz.prog 107 #[.int .u16 a, .int .i64 n] w fun e w' => e = .returned (.int .u16 (a / 2 ^ n.toNat)) ∧ w = w' := by
  go_enter Tryz.func107, Tryz.ntmps107
  go_wp2_with fail
  go_ret
  exact ⟨rfl, rfl⟩
theorem shift_shr (a n : Int) (h0 : 0 ≤ a) (h1 : a < 65536) (w : World) :
    Calls Tryz.prog 105 #[.func (.func 107) #[.int .u16 a] #[], .int .i64 n] w fun e w' => e = .returned (.int .i64 (shrS a n)) ∧ w = w' := by
  by_cases hn : n < 0
  · go_enter Tryz.func105, Tryz.ntmps105
    go_wp2_with fail
    go_ret
    exact ⟨ret_int (by unfold shrS; rw [if_pos (by omega)]), rfl⟩
  · by_cases hn' : n < 16
    · go_enter Tryz.func105, Tryz.ntmps105
      go_wp2_with (first | (go_at_call 70; refine (wvalue_any _ (shr_bd a n h0 h1).1 (shr_bd a n h0 h1).2 _).mono ?_; rintro e w' ⟨rfl, rfl⟩) | (go_at_call 107; refine (wshr_any _ _ h0 h1 (by omega) (by omega) _).mono ?_; rintro e w' ⟨rfl, rfl⟩))
      go_ret
      exact ⟨ret_int (by unfold shrS; rw [if_neg (by omega)]), rfl⟩
    · go_enter Tryz.func105, Tryz.ntmps105
      go_wp2_with fail
      go_ret
      exact ⟨ret_int (by unfold shrS; rw [if_pos (by omega)]), rfl⟩
theorem shr_any (a n : Int) (w : World) :
    Calls Tryz.prog 80 #[.int .i64 a, .int .i64 n] w fun e w' => e = .returned (.int .i64 (shrS (a % 65536) n)) ∧ w = w' := by
  go_enter Tryz.func80, Tryz.ntmps80
  go_wp2_with (first | (go_at_call 69; refine (wof_any _ _).mono ?_; rintro e w' ⟨rfl, rfl⟩) | (go_at_call 105; refine (shift_shr _ _ (by omega) (by omega) _).mono ?_; rintro e w' ⟨rfl, rfl⟩))
  go_ret
  exact ⟨rfl, rfl⟩
/-- The number of ones of the low f bits. -/
def popc : Nat → Nat → Nat
  | 0, _ => 0
  | f + 1, x => x % 2 + popc f (x / 2)
theorem popc_le (f : Nat) : ∀ x, popc f x ≤ f := by
  induction f with
  | zero => intro x; simp [popc]
  | succ f ih => intro x; have := ih (x / 2); simp only [popc]; omega
theorem popc_split (f g : Nat) : ∀ x, popc (f + g) x = popc f x + popc g (x / 2 ^ f) := by
  induction f with
  | zero => intro x; simp [popc]
  | succ f ih =>
    intro x
    rw [show f + 1 + g = (f + g) + 1 by omega]
    simp only [popc]
    rw [ih, Nat.div_div_eq_div_mul, show 2 * 2 ^ f = 2 ^ (f + 1) by rw [Nat.pow_succ]; omega]
    omega
theorem popc_mod (f : Nat) : ∀ x, popc f (x % 2 ^ f) = popc f x := by
  induction f with
  | zero => intro x; simp [popc]
  | succ f ih =>
    intro x
    simp only [popc]
    have e1 : x % 2 ^ (f + 1) % 2 = x % 2 := by
      rw [Nat.mod_mod_of_dvd]; exact ⟨2 ^ f, by rw [Nat.pow_succ]; omega⟩
    have e2 : x % 2 ^ (f + 1) / 2 = x / 2 % 2 ^ f := by
      rw [Nat.pow_succ, Nat.mul_comm, Nat.mod_mul_right_div_self]
    rw [e1, e2, ih]
theorem ones_of_tab (a : Int) (h0 : 0 ≤ a) (h1 : a < 65536) (T : ByteArray) (hs : T.size = 256) (hT : ∀ n (h : n < T.size), T[n].toNat = popc 8 n)
    {q1 q2} : (((T[(a / 256).toNat]'q1).toNat : Int) + ((T[(a % 256).toNat]'q2).toNat : Int)) % 256 = (popc 16 a.toNat : Int) := by
  obtain ⟨n, rfl⟩ := Int.eq_ofNat_of_zero_le h0
  rw [hT, hT]
  have e1 : ((n : Int) / 256).toNat = n / 2 ^ 8 := by omega
  have e2 : ((n : Int) % 256).toNat = n % 2 ^ 8 := by omega
  rw [e1, e2, popc_mod, Int.toNat_natCast, show (16 : Nat) = 8 + 8 from rfl, popc_split]
  have := popc_le 8 n
  have := popc_le 8 (n / 2 ^ 8)
  omega
set_option maxRecDepth 100000 in
set_option maxHeartbeats 1000000 in
theorem onescount_any (a : Int) (h0 : 0 ≤ a) (h1 : a < 65536) (w : World) :
    Calls Tryz.prog 102 #[.int .u16 a] w fun e w' => e = .returned (.int .i64 (popc 16 a.toNat : Nat)) ∧ Ext w w' := by
  have k1 : 0 ≤ a / 256 := by omega
  have k2 : a / 256 < 256 := by omega
  have k3 : 0 ≤ a % 256 := by omega
  have k4 : a % 256 < 256 := by omega
  have hb : bits .and .u16 a 255 = a % 256 := by
    obtain ⟨n, rfl⟩ := Int.eq_ofNat_of_zero_le h0
    have e : (255 : Int) = ((255 : Nat) : Int) := by decide
    rw [e, u16_and_nat _ _ (by omega) (by decide), Nat.and_two_pow_sub_one_eq_mod n 8]; omega
  go_enter Tryz.func102, Tryz.ntmps102
  go_wp2_with fail
  go_quiet (fail)
  go_wp2_with fail
  go_ret
  refine ⟨ret_int ?_, (Ext.refl w).drewN _⟩
  exact ones_of_tab a h0 h1 _ (by decide) (by decide +kernel)
theorem ones_any (a : Int) (w : World) :
    Calls Tryz.prog 76 #[.int .i64 a] w fun e w' => e = .returned (.int .i64 (popc 16 (a % 65536).toNat : Nat)) ∧ Ext w w' := by
  go_enter Tryz.func76, Tryz.ntmps76
  go_wp2_with (first | (go_at_call 69; refine (wof_any _ _).mono ?_; rintro e w' ⟨rfl, rfl⟩) | (go_at_call 102; refine (onescount_any _ (by omega) (by omega) _).mono ?_; rintro e w' ⟨rfl, hx⟩))
  go_ret
  exact ⟨rfl, by assumption⟩
end Go.Proofs.YtibfoafepjggjaaGreatDoor
