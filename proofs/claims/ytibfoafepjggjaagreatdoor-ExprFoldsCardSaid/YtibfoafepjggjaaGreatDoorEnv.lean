/-
  Walks: signals and their values.
  Walks: the value of an operation.
-/
import Derived.Test.YtibfoafepjggjaaGreatDoorWord
import Derived.Test.YtibfoafepjggjaaGreatDoorData
import Derived.Lib.SlBytesRow
import Derived.Deep.Light
import Derived.BigQuiet
import Derived.Deep.QuietTactic
set_option linter.unusedVariables false
set_option linter.unusedSimpArgs false
namespace Go.Proofs.YtibfoafepjggjaaGreatDoor
open Go.RowKit

/-- A signal. -/
structure Sig where
  name : ByteArray
  val : Int
/-- A list of signals. -/
def SigsVal (w : World) (l : List Sig) (v : Value) : Prop :=
  ∃ p cap, v = .slice p l.length cap ∧ l.length ≤ cap ∧ cap ≤ 9223372036854775807 ∧
    ∀ i s, l[i]? = some s → ∃ b off, p = some ⟨b, off, none⟩ ∧ w.cell? ⟨b, off + i * 2, none⟩ = some (.string s.name) ∧ w.cell? ⟨b, off + i * 2 + 1, none⟩ = some (.int .i64 s.val)
theorem SigsVal.ext {w w' : World} (h : Ext w w') {l : List Sig} {v : Value} : SigsVal w l v → SigsVal w' l v
  | ⟨p, cap, h1, h2, h3, h4⟩ => ⟨p, cap, h1, h2, h3, fun i s hi => by obtain ⟨b, off, g1, g2, g3⟩ := h4 i s hi; exact ⟨b, off, g1, h.cell g2, h.cell g3⟩⟩
theorem sigs_at {w : World} {l : List Sig} {p : Option Addr} {n cap : Nat} (h : SigsVal w l (.slice p n cap)) {j : Nat} (hj : j < l.length) :
    ∃ b off, p = some ⟨b, off, none⟩ ∧ w.cell? ⟨b, off + j * 2, none⟩ = some (.string l[j].name) ∧ w.cell? ⟨b, off + j * 2 + 1, none⟩ = some (.int .i64 l[j].val) := by
  obtain ⟨p', cap', hv, h1, h2, h3⟩ := h
  cases hv
  exact h3 j l[j] (by simp [hj])

/-- The value of the first signal with a name. -/
def findS : List Sig → ByteArray → Option Int
  | [], _ => none
  | a :: r, s => if a.name = s then some (a.val % 65536) else findS r s
def optV (o : Option Int) : Value := .tuple #[.int .i64 (o.getD 0), .bool o.isSome]

set_option maxRecDepth 100000 in
theorem find_any (l : List Sig) (s : ByteArray) (p : Option Addr) (cap : Nat) (w : World) (hv : SigsVal w l (.slice p l.length cap)) :
    Calls Tryz.prog 34 #[.agg #[.slice p l.length cap], .string s] w fun e w' => e = .returned (optV (findS l s)) ∧ Ext w w' := by
  have h2 : l.length ≤ 9223372036854775807 := by obtain ⟨p', cap', hv', h1, h2, h3⟩ := hv; cases hv'; omega
  have HV := Lib.hid hv; clear hv
  have HQ : Hid (∃ r, r = findS l s) := Lib.hid ⟨_, rfl⟩
  generalize hR : optV (findS l s) = R at *
  have HR0 := Lib.hid hR; clear hR
  go_enter Tryz.func34, Tryz.ntmps34
  go_wp2_with fail
  go_loopw [11, 7] (fun i _ wr => ∃ j : Nat, i = .int .i64 j ∧ j ≤ l.length ∧ findS (l.drop j) s = findS l s ∧ Ext w wr) (fun i _ _ => l.length - (intOf i).toNat)
  case atStart => exact ⟨0, rfl, Nat.zero_le _, rfl, (Ext.refl w).alloc _⟩
  case round =>
    obtain ⟨j, rfl, hj, hrec, hext⟩ := hrel
    have HR := Lib.hid hrec; clear hrec
    have HX := Lib.hid hext; clear hext
    by_cases hlt : j < l.length
    · obtain ⟨b, off, rfl, q0, q1⟩ := sigs_at HV.out hlt
      have r0 := HX.out.cell q0
      have r1 := HX.out.cell q1
      clear q0 q1
      by_cases he : l[j].name = s
      · have he' : (l[j].name.toList == s.toList) = true := by rw [str_eq]; simpa using he
        have HE := Lib.hid he; clear he
        go_wp2_with (go_at_call 51; refine (wrap_any _ _).mono ?_; rintro e w' ⟨rfl, rfl⟩)
        go_ret2
        refine ⟨?_, HX.out.alloc _⟩
        rw [← HR0.out, ← HR.out, List.drop_eq_getElem_cons hlt, findS, if_pos HE.out]
        rfl
      · have he' : (l[j].name.toList == s.toList) = false := by rw [str_eq]; simpa using he
        have HE := Lib.hid he; clear he
        go_wp2_with fail
        go_roundw
        case rel => exact ⟨j + 1, by go_num, by omega, by rw [← HR.out, List.drop_eq_getElem_cons hlt, findS, if_neg HE.out], HX.out.alloc _⟩
        case measure => simp [intOf]; omega
    · have : j = l.length := by omega
      subst this
      go_wp2_with fail
      go_ret2
      refine ⟨?_, HX.out⟩
      rw [← HR0.out, ← HR.out]
      simp [findS, optV]

/-- The name of an element. -/
def elemName (a : ByteArray) (i : Nat) : ByteArray := ⟨(a.data.toList ++ [91, (48 + i).toUInt8, 93]).toArray⟩

set_option maxRecDepth 100000 in
theorem at_any (l : List Sig) (a : ByteArray) (i : Int) (p : Option Addr) (cap : Nat) (w : World) (hv : SigsVal w l (.slice p l.length cap)) (hi : 0 ≤ i ∧ i < 8) (ha : a.size ≤ 1000) :
    Calls Tryz.prog 36 #[.agg #[.slice p l.length cap], .string a, .int .i64 i] w fun e w' => e = .returned (optV (findS l (elemName a i.toNat))) ∧ Ext w w' := by
  obtain ⟨n, rfl⟩ := Int.eq_ofNat_of_zero_le hi.1
  have hn : (n : Int) < 8 := hi.2
  clear hi
  have hn0 : decide ((n : Int) < 0) = false := decide_eq_false (by omega)
  have hn8 : decide ((8 : Int) ≤ n) = false := decide_eq_false (by omega)
  have HV := Lib.hid hv; clear hv
  obtain ⟨c, hce, hc⟩ : ∃ c : UInt8, c = (48 + n).toUInt8 ∧ ((c.toNat : Nat) : Int) = 48 + (n : Int) :=
    ⟨(48 + n).toUInt8, rfl, by rw [show (48 + n).toUInt8.toNat = (48 + n) % 256 from rfl]; omega⟩
  have hcv : (convert 67 9 (.slice (some ⟨w.heap.size + 1, 0, none⟩) 1 1)).run Tryz.prog ((w.alloc (.cells #[.slice p l.length cap] 45)).alloc (.cells #[.int .u8 (48 + (n : Int))] 5)) = .ok (.string ⟨#[c]⟩) ((w.alloc (.cells #[.slice p l.length cap] 45)).alloc (.cells #[.int .u8 (48 + (n : Int))] 5)) := by
    refine Lib.run_convert_whole (P := Tryz.prog) _ 67 5 9 Tryz.underlying67 Tryz.underlying5 Tryz.underlying9 (w.heap.size + 1) 0 ⟨#[c]⟩ ?_ 1
    intro i hi
    have hi0 : i = 0 := by have : i < 1 := hi; omega
    subst hi0
    have h1 := (One.new (w.alloc (.cells #[.slice p l.length cap] 45)) 5 (.int .u8 (48 + (n : Int)))).cell
    simp only [World.size_alloc] at h1
    show _ = some (Value.int .u8 ((c.toNat : Nat) : Int))
    rw [hc]; exact h1
  have hnm : ((a ++ ⟨#[91]⟩) ++ ⟨#[c]⟩) ++ ⟨#[93]⟩ = elemName a n := by
    apply ByteArray.ext
    apply Array.toList_inj.1
    simp [elemName, hce]
  have HC := Lib.hid (And.intro hce hc); clear hce hc
  have hs1 : (a ++ (⟨#[91]⟩ : ByteArray)).size = a.size + 1 := by rw [ByteArray.size_append]; rfl
  have HNM := Lib.hid hnm; clear hnm
  go_enter Tryz.func36, Tryz.ntmps36
  go_wp2_with fail
  rw [HNM.out]
  refine (find_any l (elemName a n) p cap _ (HV.out.ext (((Ext.refl w).alloc _).alloc _))).mono ?_
  rintro e w1 ⟨rfl, hx⟩
  have HX := Lib.hid hx; clear hx
  unfold optV
  go_wp2_with fail
  go_ret2
  exact ⟨rfl, (((Ext.refl w).alloc _).alloc _).trans HX.out⟩
theorem at_out (l : List Sig) (a : ByteArray) (i : Int) (p : Option Addr) (cap : Nat) (w : World) (hi : i < 0 ∨ 8 ≤ i) :
    Calls Tryz.prog 36 #[.agg #[.slice p l.length cap], .string a, .int .i64 i] w fun e w' => e = .returned (optV none) ∧ Ext w w' := by
  rcases hi with hi | hi
  all_goals
    go_enter Tryz.func36, Tryz.ntmps36
    go_wp2_with fail
    go_ret2
    exact ⟨rfl, (Ext.refl w).alloc _⟩
/-- The value of an element. -/
def atS (l : List Sig) (a : ByteArray) (i : Int) : Option Int := if 0 ≤ i ∧ i < 8 then findS l (elemName a i.toNat) else none
theorem at_all (l : List Sig) (a : ByteArray) (i : Int) (p : Option Addr) (cap : Nat) (w : World) (hv : SigsVal w l (.slice p l.length cap)) (ha : a.size ≤ 1000) :
    Calls Tryz.prog 36 #[.agg #[.slice p l.length cap], .string a, .int .i64 i] w fun e w' => e = .returned (optV (atS l a i)) ∧ Ext w w' := by
  by_cases hi : 0 ≤ i ∧ i < 8
  · unfold atS; rw [if_pos hi]; exact at_any l a i p cap w hv hi ha
  · unfold atS; rw [if_neg hi]; exact at_out l a i p cap w (by omega)
theorem findS_bd (l : List Sig) (s : ByteArray) : 0 ≤ (findS l s).getD 0 ∧ (findS l s).getD 0 < 65536 := by
  induction l with
  | nil => simp [findS]
  | cons a r ih => simp only [findS]; split
                   · simp; omega
                   · exact ih
/-- The sum of the first k elements of an array. -/
def sumTo (l : List Sig) (a : ByteArray) : Nat → Int
  | 0 => 0
  | k + 1 => (sumTo l a k + (findS l (elemName a k)).getD 0) % 65536

set_option maxRecDepth 100000 in
theorem sum_any (l : List Sig) (a : ByteArray) (p : Option Addr) (cap : Nat) (w : World) (hv : SigsVal w l (.slice p l.length cap)) (ha : a.size ≤ 1000) :
    Calls Tryz.prog 37 #[.agg #[.slice p l.length cap], .string a] w fun e w' => e = .returned (.int .i64 (sumTo l a 8)) ∧ Ext w w' := by
  have HV := Lib.hid hv; clear hv
  generalize hR : sumTo l a 8 = R at *
  have HR := Lib.hid hR; clear hR
  go_enter Tryz.func37, Tryz.ntmps37
  go_wp2_with fail
  go_loopw [5, 6, 7, 8, 9] (fun n _ _ _ i wr => ∃ j : Nat, n = .int .i64 (sumTo l a j) ∧ i = .int .i64 j ∧ j ≤ 8 ∧ Ext (w.alloc (.cells #[.slice p l.length cap] 45)) wr) (fun _ _ _ _ i _ => 8 - (intOf i).toNat)
  case atStart => exact ⟨0, rfl, rfl, by omega, Ext.refl _⟩
  case round =>
    obtain ⟨j, rfl, rfl, hj, hext⟩ := hrel
    have c0 : wr.cell? ⟨w.heap.size, 0, none⟩ = some (.slice p l.length cap) := hext.cell (by simp [World.cell?_alloc_new])
    have HX := Lib.hid hext; clear hext
    by_cases hlt : j < 8
    · have hs : sumTo l a (j + 1) = (sumTo l a j + (findS l (elemName a j)).getD 0) % 65536 := rfl
      have hat := fun w' hv => at_any l a (j : Int) p cap w' hv ⟨by omega, by omega⟩ ha
      simp only [Int.toNat_natCast] at hat
      unfold optV at hat
      have HS := Lib.hid hs; clear hs
      have HAT := Lib.hid hat; clear hat
      go_wp2_with fail
      refine (HAT.out _ (HV.out.ext HX.out.past)).mono ?_
      rintro e w1 ⟨rfl, hy⟩
      have HY := Lib.hid hy; clear hy
      go_wp2_with (go_at_call 52; refine (add_any _ _ _).mono ?_; rintro e w' ⟨rfl, rfl⟩)
      go_roundw
      case rel => exact ⟨j + 1, by rw [HS.out], by go_num, by omega, HX.out.trans HY.out⟩
      case measure => simp [intOf]; omega
    · have : j = 8 := by omega
      subst this
      go_wp2_with fail
      go_ret
      exact ⟨ret_int HR.out, HX.out.past⟩
end Go.Proofs.YtibfoafepjggjaaGreatDoor

namespace Go.Proofs.YtibfoafepjggjaaGreatDoor
open Go.RowKit

def b2i (b : Bool) : Int := if b then 1 else 0
theorem truth_any (b : Bool) (w : World) : Calls Tryz.prog 73 #[.bool b] w fun e w' => e = .returned (.int .i64 (b2i b)) ∧ w = w' := by
  cases b
  all_goals
    go_enter Tryz.func73, Tryz.ntmps73
    go_wp2_with fail
    go_ret
    exact ⟨rfl, rfl⟩

theorem nat_of (a : Nat) (ha : a < 65536) : (BitVec.ofInt 64 (a : Int)).toNat = a := by
  rw [BitVec.toNat_ofInt]; omega
theorem i64_and (a b : Int) (h0 : 0 ≤ a) (h1 : a < 65536) (h2 : 0 ≤ b) (h3 : b < 65536) : bits .and .i64 a b = ((a.toNat &&& b.toNat : Nat) : Int) := by
  obtain ⟨a, rfl⟩ := Int.eq_ofNat_of_zero_le h0
  obtain ⟨b, rfl⟩ := Int.eq_ofNat_of_zero_le h2
  show IntKind.i64.wrap ((BitVec.ofInt 64 (a : Int) &&& BitVec.ofInt 64 (b : Int)).toNat : Nat) = _
  rw [BitVec.toNat_and, nat_of a (by omega), nat_of b (by omega), IntKind.wrap_i64]
  have : a &&& b ≤ a := Nat.and_le_left
  simp only [Int.toNat_natCast]; omega
theorem i64_or (a b : Int) (h0 : 0 ≤ a) (h1 : a < 65536) (h2 : 0 ≤ b) (h3 : b < 65536) : bits .or .i64 a b = ((a.toNat ||| b.toNat : Nat) : Int) := by
  obtain ⟨a, rfl⟩ := Int.eq_ofNat_of_zero_le h0
  obtain ⟨b, rfl⟩ := Int.eq_ofNat_of_zero_le h2
  show IntKind.i64.wrap ((BitVec.ofInt 64 (a : Int) ||| BitVec.ofInt 64 (b : Int)).toNat : Nat) = _
  rw [BitVec.toNat_or, nat_of a (by omega), nat_of b (by omega), IntKind.wrap_i64]
  have : a ||| b < 2 ^ 16 := Nat.or_lt_two_pow (by omega) (by omega)
  simp only [Int.toNat_natCast]; omega
theorem i64_xor (a b : Int) (h0 : 0 ≤ a) (h1 : a < 65536) (h2 : 0 ≤ b) (h3 : b < 65536) : bits .xor .i64 a b = ((a.toNat ^^^ b.toNat : Nat) : Int) := by
  obtain ⟨a, rfl⟩ := Int.eq_ofNat_of_zero_le h0
  obtain ⟨b, rfl⟩ := Int.eq_ofNat_of_zero_le h2
  show IntKind.i64.wrap ((BitVec.ofInt 64 (a : Int) ^^^ BitVec.ofInt 64 (b : Int)).toNat : Nat) = _
  rw [BitVec.toNat_xor, nat_of a (by omega), nat_of b (by omega), IntKind.wrap_i64]
  have : a ^^^ b < 2 ^ 16 := Nat.xor_lt_two_pow (by omega) (by omega)
  simp only [Int.toNat_natCast]; omega

/-- The value of an operation of one word. -/
def singleS (op a : Int) : Int := if op = 4 then b2i (a == 0) else if op = 5 then 65535 - a % 65536 else if op = 6 then (-a) % 65536 else (popc 16 (a % 65536).toNat : Nat)
set_option maxRecDepth 100000 in
theorem single_any (op a : Int) (w : World) :
    Calls Tryz.prog 53 #[.int .i64 op, .int .i64 a] w fun e w' => e = .returned (.int .i64 (singleS op a)) ∧ Ext w w' := by
  generalize hR : singleS op a = R
  have HR := Lib.hid hR; clear hR
  go_enter Tryz.func53, Tryz.ntmps53
  go_wp2_with (first | (go_at_call 73; refine (truth_any _ _).mono ?_; rintro e w' ⟨rfl, rfl⟩) | (go_at_call 74; refine (inv_any _ _).mono ?_; rintro e w' ⟨rfl, rfl⟩) | (go_at_call 75; refine (neg_any _ _).mono ?_; rintro e w' ⟨rfl, rfl⟩) | (go_at_call 76; refine (ones_any _ _).mono ?_; rintro e w' ⟨rfl, hx⟩))
  all_goals go_ret
  all_goals (go_light; refine ⟨ret_int ?_, (by first | exact hx | exact Ext.refl _)⟩; rw [← HR.out]; simp only [beq_iff_eq, beq_eq_false_iff_ne, ne_eq] at *; unfold singleS; simp [*])
/-- The value of an operation of two words. -/
def doubleS (op a b : Int) : Int :=
  if op = 7 then (a + b) % 65536 else if op = 8 then (a - b) % 65536 else if op = 9 then (a * b) % 65536
  else if op = 10 then ((a.toNat &&& b.toNat : Nat) : Int) else if op = 11 then ((a.toNat ||| b.toNat : Nat) : Int) else if op = 12 then ((a.toNat ^^^ b.toNat : Nat) : Int)
  else if op = 13 then shlS (a % 65536) b else if op = 14 then shrS (a % 65536) b
  else if op = 15 then b2i (a == b) else if op = 16 then b2i (a != b) else if op = 17 then b2i (decide (a < b)) else if op = 18 then b2i (decide (a ≤ b))
  else if op = 19 then b2i (a != 0 && b != 0) else if op = 20 then b2i (a != 0 || b != 0) else b2i (a == 0 || b != 0)
set_option maxRecDepth 100000 in
set_option maxHeartbeats 2000000 in
theorem double_any (op a b : Int) (w : World) (h0 : 0 ≤ a) (h1 : a < 65536) (h2 : 0 ≤ b) (h3 : b < 65536) :
    Calls Tryz.prog 54 #[.int .i64 op, .int .i64 a, .int .i64 b] w fun e w' => e = .returned (.int .i64 (doubleS op a b)) ∧ w = w' := by
  have q1 := i64_and a b h0 h1 h2 h3
  have q2 := i64_or a b h0 h1 h2 h3
  have q3 := i64_xor a b h0 h1 h2 h3
  generalize hR : doubleS op a b = R
  have HR := Lib.hid hR; clear hR
  have Q := Lib.hid (And.intro q1 (And.intro q2 q3)); clear q1 q2 q3
  go_enter Tryz.func54, Tryz.ntmps54
  go_wp2_with (first | (go_at_call 73; refine (truth_any _ _).mono ?_; rintro e w' ⟨rfl, rfl⟩) | (go_at_call 52; refine (add_any _ _ _).mono ?_; rintro e w' ⟨rfl, rfl⟩) | (go_at_call 77; refine (sub_any _ _ _).mono ?_; rintro e w' ⟨rfl, rfl⟩) | (go_at_call 78; refine (mul_any _ _ _).mono ?_; rintro e w' ⟨rfl, rfl⟩) | (go_at_call 79; refine (shl_any _ _ _).mono ?_; rintro e w' ⟨rfl, rfl⟩) | (go_at_call 80; refine (shr_any _ _ _).mono ?_; rintro e w' ⟨rfl, rfl⟩))
  all_goals go_ret
  all_goals (go_light; refine ⟨ret_int ?_, rfl⟩; rw [← HR.out]; simp only [beq_iff_eq, beq_eq_false_iff_ne, ne_eq] at *; unfold doubleS; first | (simp [*]; done) | (simp [*, Q.out.1, Q.out.2.1, Q.out.2.2]; done) | (rw [show (a != 0) = true from bne_iff_ne.2 (by assumption)]; simp [*]; done))

/-- Is a number in one of the ranges? -/
def insideL (x : Int) : List Int → Bool
  | a :: b :: r => (decide (a ≤ x) && decide (x ≤ b)) || insideL x r
  | _ => false
/-- The value of an operation. -/
def operS (op : Int) (l : List Int) : Int :=
  if op = 22 then (match l with | [a, b, c] => if a = 0 then c else b | _ => 0)
  else if op = 23 then (match l with | x :: r => b2i (insideL x r) | _ => 0)
  else match l with | [a] => singleS op a | [a, b] => doubleS op a b | _ => 0

set_option maxRecDepth 100000 in
theorem operate_if (a b c : Int) (v : Value) (w : World) (hv : IntsVal w [a, b, c] v) :
    Calls Tryz.prog 38 #[.int .i64 22, v] w fun e w' => e = .returned (.int .i64 (operS 22 [a, b, c])) ∧ Ext w w' := by
  have hv' := hv
  obtain ⟨p, cap, rfl, h1, h2, h3⟩ := hv'
  obtain ⟨bb, off, rfl, q0⟩ := ints_at hv (j := 0) (by simp)
  obtain ⟨_, _, e, q1⟩ := ints_at hv (j := 1) (by simp)
  cases e
  obtain ⟨_, _, e, q2⟩ := ints_at hv (j := 2) (by simp)
  cases e
  simp only [List.getElem_cons_zero, List.getElem_cons_succ, Nat.add_zero] at q0 q1 q2
  clear hv h3
  by_cases ha : a = 0
  · have ha' : (a != 0) = false := by simp [ha]
    have HA := Lib.hid ha; clear ha
    go_enter Tryz.func38, Tryz.ntmps38
    go_wp2_with fail
    go_ret
    exact ⟨ret_int (by simp [operS, HA.out]), Ext.refl _⟩
  · have ha' : (a != 0) = true := bne_iff_ne.2 ha
    have HA := Lib.hid ha; clear ha
    go_enter Tryz.func38, Tryz.ntmps38
    go_wp2_with fail
    go_ret
    exact ⟨ret_int (by simp [operS, HA.out]), Ext.refl _⟩

set_option maxRecDepth 100000 in
theorem operate_one (op a : Int) (v : Value) (w : World) (hv : IntsVal w [a] v) (h22 : ¬ op = 22) (h23 : ¬ op = 23) :
    Calls Tryz.prog 38 #[.int .i64 op, v] w fun e w' => e = .returned (.int .i64 (operS op [a])) ∧ Ext w w' := by
  have hv' := hv
  obtain ⟨p, cap, rfl, h1, h2, h3⟩ := hv'
  obtain ⟨bb, off, rfl, q0⟩ := ints_at hv (j := 0) (by simp)
  simp only [List.getElem_cons_zero, Nat.add_zero] at q0
  clear hv h3
  have e1 : (op == 22) = false := beq_eq_false_iff_ne.2 h22
  have e2 : (op == 23) = false := beq_eq_false_iff_ne.2 h23
  have hq : operS op [a] = singleS op a := by simp [operS, h22, h23]
  clear h22 h23
  generalize operS op [a] = R at *
  have HQ := Lib.hid hq; clear hq
  go_enter Tryz.func38, Tryz.ntmps38
  go_wp2_with (go_at_call 53; refine (single_any _ _ _).mono ?_; rintro e w' ⟨rfl, hx⟩)
  go_ret
  exact ⟨ret_int HQ.out.symm, hx⟩

set_option maxRecDepth 100000 in
theorem operate_two (op a b : Int) (v : Value) (w : World) (hv : IntsVal w [a, b] v) (h22 : ¬ op = 22) (h23 : ¬ op = 23) (h0 : 0 ≤ a) (ha : a < 65536) (hb0 : 0 ≤ b) (hb : b < 65536) :
    Calls Tryz.prog 38 #[.int .i64 op, v] w fun e w' => e = .returned (.int .i64 (operS op [a, b])) ∧ Ext w w' := by
  have hv' := hv
  obtain ⟨p, cap, rfl, h1, h2, h3⟩ := hv'
  obtain ⟨bb, off, rfl, q0⟩ := ints_at hv (j := 0) (by simp)
  obtain ⟨_, _, e, q1⟩ := ints_at hv (j := 1) (by simp)
  cases e
  simp only [List.getElem_cons_zero, List.getElem_cons_succ, Nat.add_zero] at q0 q1
  clear hv h3
  have e1 : (op == 22) = false := beq_eq_false_iff_ne.2 h22
  have e2 : (op == 23) = false := beq_eq_false_iff_ne.2 h23
  have hq : operS op [a, b] = doubleS op a b := by simp [operS, h22, h23]
  clear h22 h23
  generalize operS op [a, b] = R at *
  have HQ := Lib.hid hq; clear hq
  go_enter Tryz.func38, Tryz.ntmps38
  go_wp2_with fail
  go_quiet ((go_at_call 54; exact quiet_of_eq (double_any op a b _ h0 ha hb0 hb)))
  go_wp2_with fail
  go_ret
  exact ⟨ret_int HQ.out.symm, (Ext.refl w).drewN _⟩
theorem drop_two {l : List Int} {k : Nat} (h : k + 1 < l.length) : l.drop k = l[k] :: l[k + 1] :: l.drop (k + 2) := by
  rw [List.drop_eq_getElem_cons (by omega), List.drop_eq_getElem_cons h]

set_option maxRecDepth 100000 in
set_option maxHeartbeats 1000000 in
theorem operate_inside (x : Int) (r : List Int) (v : Value) (w : World) (hv : IntsVal w (x :: r) v) (hlen : r.length ≤ 1000) :
    Calls Tryz.prog 38 #[.int .i64 23, v] w fun e w' => e = .returned (.int .i64 (operS 23 (x :: r))) ∧ Ext w w' := by
  have hq : operS 23 (x :: r) = b2i (insideL x r) := by simp [operS]
  generalize operS 23 (x :: r) = R at *
  have HQ := Lib.hid hq; clear hq
  obtain ⟨l, hl⟩ : ∃ l, l = x :: r := ⟨_, rfl⟩
  rw [← hl] at hv
  have hr : l.drop 1 = r := by rw [hl]; rfl
  have h1l : 1 ≤ l.length := by rw [hl]; simp
  have h1m : l.length ≤ 1001 := by rw [hl]; simp; omega
  have hx0 : l[0]'(by omega) = x := by simp [hl]
  have HL := Lib.hid hl; clear hl
  have HR := Lib.hid hr; clear hr
  have HX0 := Lib.hid hx0; clear hx0
  have hv' := hv
  obtain ⟨p, cap, rfl, h1, h2, h3⟩ := hv'
  obtain ⟨bb, off, rfl, q0⟩ := ints_at hv (j := 0) (by omega)
  rw [HX0.out, Nat.add_zero] at q0
  have HV := Lib.hid hv; clear hv
  clear h3
  go_enter Tryz.func38, Tryz.ntmps38
  go_wp2_with fail
  go_loopw [5] (fun i wr => ∃ k : Nat, i = .int .i64 k ∧ 1 ≤ k ∧ k ≤ l.length + 1 ∧ insideL x (l.drop k) = insideL x r ∧ ∃ n, wr = w.drewN n) (fun i _ => l.length + 2 - (intOf i).toNat)
  case atStart => exact ⟨1, rfl, by omega, by omega, by rw [HR.out], 0, rfl⟩
  case round =>
    obtain ⟨k, rfl, hk1, hk2, hrec, n, rfl⟩ := hrel
    have HREC := Lib.hid hrec; clear hrec
    by_cases hlt : k + 1 < l.length
    · obtain ⟨_, _, e, q1⟩ := ints_at HV.out (j := k) (by omega)
      cases e
      obtain ⟨_, _, e, q2⟩ := ints_at HV.out (j := k + 1) hlt
      cases e
      have hstep : insideL x (l.drop k) = ((decide (l[k] ≤ x) && decide (x ≤ l[k + 1])) || insideL x (l.drop (k + 2))) := by rw [drop_two hlt, insideL]
      have HS := Lib.hid hstep; clear hstep
      have w1 : IntKind.i64.wrap ((k : Int) + 1) = (k : Int) + 1 := IntWalk.i64_in _ (by omega)
      have w2 : ((k : Int) + 1).toNat = k + 1 := by omega
      have w3 : (k : Int) + 1 < (l.length : Int) := by omega
      have w4 : (k : Int) < (l.length : Int) := by omega
      have w5 : (0 : Int) ≤ (k : Int) + 1 := by omega
      by_cases ha : l[k] ≤ x
      · by_cases hb : x ≤ l[k + 1]
        · go_wp2_with fail
          go_quiet (fail)
          go_wp2_with fail
          go_ret
          exact ⟨ret_int (by rw [HQ.out, ← HREC.out, HS.out, decide_eq_true ha, decide_eq_true hb]; rfl), ((Ext.refl w).drewN _).drewN _⟩
        · have hb' : decide (x ≤ l[k + 1]) = false := decide_eq_false hb
          have HB := Lib.hid hb; clear hb
          go_wp2_with fail
          go_quiet (fail)
          go_wp2_with fail
          go_roundw
          case rel => exact ⟨k + 2, by go_num, by omega, by omega, by rw [← HREC.out, HS.out, decide_eq_false (p := x ≤ l[k + 1]) (by have := HB.out; omega)]; simp, _, rfl⟩
          case measure => simp [intOf]; omega
      · have ha' : decide (l[k] ≤ x) = false := decide_eq_false ha
        have HA := Lib.hid ha; clear ha
        go_wp2_with fail
        go_quiet (fail)
        go_wp2_with fail
        go_roundw
        case rel => exact ⟨k + 2, by go_num, by omega, by omega, by rw [← HREC.out, HS.out, decide_eq_false (p := l[k] ≤ x) (by have := HA.out; omega)]; simp, _, rfl⟩
        case measure => simp [intOf]; omega
    · have hd : insideL x (l.drop k) = false := by
        by_cases hk : k < l.length
        · have : k + 1 = l.length := by omega
          rw [List.drop_eq_getElem_cons hk, List.drop_of_length_le (by omega)]; rfl
        · rw [List.drop_of_length_le (by omega)]; rfl
      have HD := Lib.hid hd; clear hd
      have w1 : IntKind.i64.wrap ((k : Int) + 1) = (k : Int) + 1 := IntWalk.i64_in _ (by omega)
      have w3 : decide ((k : Int) + 1 < (l.length : Int)) = false := decide_eq_false (by omega)
      have w4 : (l.length : Int) ≤ (k : Int) + 1 := by omega
      go_wp2_with fail
      go_ret
      exact ⟨ret_int (by rw [HQ.out, ← HREC.out, HD.out]; rfl), (Ext.refl w).drewN _⟩
end Go.Proofs.YtibfoafepjggjaaGreatDoor
