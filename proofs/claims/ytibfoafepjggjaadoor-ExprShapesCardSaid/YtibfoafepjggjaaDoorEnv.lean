/-
  Walks: signals and their values.
-/
import Derived.Test.YtibfoafepjggjaaDoorWord
import Derived.Test.YtibfoafepjggjaaDoorKeep
import Derived.Lib.SlBytesRow
namespace Go.Proofs.YtibfoafepjggjaaDoor
open Go.RowKit

/-- A signal. -/
structure Sig where
  name : ByteArray
  val : Int
/-- A list of signals. -/
def SigsVal (w : World) (l : List Sig) (v : Value) : Prop :=
  ∃ p cap, v = .slice p l.length cap ∧ l.length ≤ cap ∧ cap ≤ 9223372036854775807 ∧
    ∀ i s, l[i]? = some s → ∃ b off, p = some ⟨b, off, none⟩ ∧ w.cell? ⟨b, off + i * 2, none⟩ = some (.string s.name) ∧ w.cell? ⟨b, off + i * 2 + 1, none⟩ = some (.int .i64 s.val)
theorem SigsVal.ext {w w' : World} (h : Ext w w') {l : List Sig} {v : Value} : SigsVal w l v → SigsVal w' l v
  | ⟨p, cap, h1, h2, h3, h4⟩ => ⟨p, cap, h1, h2, h3, fun i s hi => by obtain ⟨b, off, g1, g2, g3⟩ := h4 i s hi; exact ⟨b, off, g1, h.cell g2, h.cell g3⟩⟩
theorem sigs_at {w : World} {l : List Sig} {p : Option Addr} {n cap : Nat} (h : SigsVal w l (.slice p n cap)) {j : Nat} (hj : j < l.length) :
    ∃ b off, p = some ⟨b, off, none⟩ ∧ w.cell? ⟨b, off + j * 2, none⟩ = some (.string l[j].name) ∧ w.cell? ⟨b, off + j * 2 + 1, none⟩ = some (.int .i64 l[j].val) := by
  obtain ⟨p', cap', hv, h1, h2, h3⟩ := h
  cases hv
  exact h3 j l[j] (by simp [hj])

/-- The value of the first signal with a name. -/
def findS : List Sig → ByteArray → Option Int
  | [], _ => none
  | a :: r, s => if a.name = s then some (a.val % 65536) else findS r s
def optV (o : Option Int) : Value := .tuple #[.int .i64 (o.getD 0), .bool o.isSome]

set_option maxRecDepth 100000 in
theorem find_any (l : List Sig) (s : ByteArray) (p : Option Addr) (cap : Nat) (w : World) (hv : SigsVal w l (.slice p l.length cap)) :
    Calls Tryd.prog 61 #[.agg #[.slice p l.length cap], .string s] w fun e w' => e = .returned (optV (findS l s)) ∧ Ext w w' := by
  have h2 : l.length ≤ 9223372036854775807 := by obtain ⟨p', cap', hv', h1, h2, h3⟩ := hv; cases hv'; omega
  have HV := Lib.hid hv; clear hv
  have HQ : Hid (∃ r, r = findS l s) := Lib.hid ⟨_, rfl⟩
  generalize hR : optV (findS l s) = R at *
  have HR0 := Lib.hid hR; clear hR
  go_enter Tryd.func61, Tryd.ntmps61
  go_wp2_with fail
  go_loopw [11, 7] (fun i _ wr => ∃ j : Nat, i = .int .i64 j ∧ j ≤ l.length ∧ findS (l.drop j) s = findS l s ∧ Ext w wr) (fun i _ _ => l.length - (intOf i).toNat)
  case atStart => exact ⟨0, rfl, Nat.zero_le _, rfl, (Ext.refl w).alloc _⟩
  case round =>
    obtain ⟨j, rfl, hj, hrec, hext⟩ := hrel
    have HR := Lib.hid hrec; clear hrec
    have HX := Lib.hid hext; clear hext
    by_cases hlt : j < l.length
    · obtain ⟨b, off, rfl, q0, q1⟩ := sigs_at HV.out hlt
      have r0 := HX.out.cell q0
      have r1 := HX.out.cell q1
      clear q0 q1
      by_cases he : l[j].name = s
      · have he' : (l[j].name.toList == s.toList) = true := by rw [str_eq]; simpa using he
        have HE := Lib.hid he; clear he
        go_wp2_with (go_at_call 75; refine (wrap_any _ _).mono ?_; rintro e w' ⟨rfl, rfl⟩)
        go_ret2
        refine ⟨?_, HX.out.alloc _⟩
        rw [← HR0.out, ← HR.out, List.drop_eq_getElem_cons hlt, findS, if_pos HE.out]
        rfl
      · have he' : (l[j].name.toList == s.toList) = false := by rw [str_eq]; simpa using he
        have HE := Lib.hid he; clear he
        go_wp2_with fail
        go_roundw
        case rel => exact ⟨j + 1, by go_num, by omega, by rw [← HR.out, List.drop_eq_getElem_cons hlt, findS, if_neg HE.out], HX.out.alloc _⟩
        case measure => simp [intOf]; omega
    · have : j = l.length := by omega
      subst this
      go_wp2_with fail
      go_ret2
      refine ⟨?_, HX.out⟩
      rw [← HR0.out, ← HR.out]
      simp [findS, optV]

/-- The name of an element. -/
def elemName (a : ByteArray) (i : Nat) : ByteArray := ⟨(a.data.toList ++ [91, (48 + i).toUInt8, 93]).toArray⟩

set_option maxRecDepth 100000 in
theorem at_any (l : List Sig) (a : ByteArray) (i : Int) (p : Option Addr) (cap : Nat) (w : World) (hv : SigsVal w l (.slice p l.length cap)) (hi : 0 ≤ i ∧ i < 8) (ha : a.size ≤ 1000) :
    Calls Tryd.prog 62 #[.agg #[.slice p l.length cap], .string a, .int .i64 i] w fun e w' => e = .returned (optV (findS l (elemName a i.toNat))) ∧ Ext w w' := by
  obtain ⟨n, rfl⟩ := Int.eq_ofNat_of_zero_le hi.1
  have hn : (n : Int) < 8 := hi.2
  clear hi
  have hn0 : decide ((n : Int) < 0) = false := decide_eq_false (by omega)
  have hn8 : decide ((8 : Int) ≤ n) = false := decide_eq_false (by omega)
  have HV := Lib.hid hv; clear hv
  obtain ⟨c, hce, hc⟩ : ∃ c : UInt8, c = (48 + n).toUInt8 ∧ ((c.toNat : Nat) : Int) = 48 + (n : Int) :=
    ⟨(48 + n).toUInt8, rfl, by rw [show (48 + n).toUInt8.toNat = (48 + n) % 256 from rfl]; omega⟩
  have hcv : (convert 79 9 (.slice (some ⟨w.heap.size + 1, 0, none⟩) 1 1)).run Tryd.prog ((w.alloc (.cells #[.slice p l.length cap] 61)).alloc (.cells #[.int .u8 (48 + (n : Int))] 5)) = .ok (.string ⟨#[c]⟩) ((w.alloc (.cells #[.slice p l.length cap] 61)).alloc (.cells #[.int .u8 (48 + (n : Int))] 5)) := by
    refine Lib.run_convert_whole (P := Tryd.prog) _ 79 5 9 Tryd.underlying79 Tryd.underlying5 Tryd.underlying9 (w.heap.size + 1) 0 ⟨#[c]⟩ ?_ 1
    intro i hi
    have hi0 : i = 0 := by have : i < 1 := hi; omega
    subst hi0
    have h1 := (One.new (w.alloc (.cells #[.slice p l.length cap] 61)) 5 (.int .u8 (48 + (n : Int)))).cell
    simp only [World.size_alloc] at h1
    show _ = some (Value.int .u8 ((c.toNat : Nat) : Int))
    rw [hc]; exact h1
  have hnm : ((a ++ ⟨#[91]⟩) ++ ⟨#[c]⟩) ++ ⟨#[93]⟩ = elemName a n := by
    apply ByteArray.ext
    apply Array.toList_inj.1
    simp [elemName, hce]
  have HC := Lib.hid (And.intro hce hc); clear hce hc
  have hs1 : (a ++ (⟨#[91]⟩ : ByteArray)).size = a.size + 1 := by rw [ByteArray.size_append]; rfl
  have HNM := Lib.hid hnm; clear hnm
  go_enter Tryd.func62, Tryd.ntmps62
  go_wp2_with fail
  rw [HNM.out]
  refine (find_any l (elemName a n) p cap _ (HV.out.ext (((Ext.refl w).alloc _).alloc _))).mono ?_
  rintro e w1 ⟨rfl, hx⟩
  have HX := Lib.hid hx; clear hx
  unfold optV
  go_wp2_with fail
  go_ret2
  exact ⟨rfl, (((Ext.refl w).alloc _).alloc _).trans HX.out⟩
theorem at_out (l : List Sig) (a : ByteArray) (i : Int) (p : Option Addr) (cap : Nat) (w : World) (hi : i < 0 ∨ 8 ≤ i) :
    Calls Tryd.prog 62 #[.agg #[.slice p l.length cap], .string a, .int .i64 i] w fun e w' => e = .returned (optV none) ∧ Ext w w' := by
  rcases hi with hi | hi
  all_goals
    go_enter Tryd.func62, Tryd.ntmps62
    go_wp2_with fail
    go_ret2
    exact ⟨rfl, (Ext.refl w).alloc _⟩
/-- The value of an element. -/
def atS (l : List Sig) (a : ByteArray) (i : Int) : Option Int := if 0 ≤ i ∧ i < 8 then findS l (elemName a i.toNat) else none
theorem at_all (l : List Sig) (a : ByteArray) (i : Int) (p : Option Addr) (cap : Nat) (w : World) (hv : SigsVal w l (.slice p l.length cap)) (ha : a.size ≤ 1000) :
    Calls Tryd.prog 62 #[.agg #[.slice p l.length cap], .string a, .int .i64 i] w fun e w' => e = .returned (optV (atS l a i)) ∧ Ext w w' := by
  by_cases hi : 0 ≤ i ∧ i < 8
  · unfold atS; rw [if_pos hi]; exact at_any l a i p cap w hv hi ha
  · unfold atS; rw [if_neg hi]; exact at_out l a i p cap w (by omega)
theorem findS_bd (l : List Sig) (s : ByteArray) : 0 ≤ (findS l s).getD 0 ∧ (findS l s).getD 0 < 65536 := by
  induction l with
  | nil => simp [findS]
  | cons a r ih => simp only [findS]; split
                   · simp; omega
                   · exact ih
/-- The sum of the first k elements of an array. -/
def sumTo (l : List Sig) (a : ByteArray) : Nat → Int
  | 0 => 0
  | k + 1 => (sumTo l a k + (findS l (elemName a k)).getD 0) % 65536

set_option maxRecDepth 100000 in
theorem sum_any (l : List Sig) (a : ByteArray) (p : Option Addr) (cap : Nat) (w : World) (hv : SigsVal w l (.slice p l.length cap)) (ha : a.size ≤ 1000) :
    Calls Tryd.prog 63 #[.agg #[.slice p l.length cap], .string a] w fun e w' => e = .returned (.int .i64 (sumTo l a 8)) ∧ Ext w w' := by
  have HV := Lib.hid hv; clear hv
  generalize hR : sumTo l a 8 = R at *
  have HR := Lib.hid hR; clear hR
  go_enter Tryd.func63, Tryd.ntmps63
  go_wp2_with fail
  go_loopw [5, 6, 7, 8, 9] (fun n _ _ _ i wr => ∃ j : Nat, n = .int .i64 (sumTo l a j) ∧ i = .int .i64 j ∧ j ≤ 8 ∧ Ext (w.alloc (.cells #[.slice p l.length cap] 61)) wr) (fun _ _ _ _ i _ => 8 - (intOf i).toNat)
  case atStart => exact ⟨0, rfl, rfl, by omega, Ext.refl _⟩
  case round =>
    obtain ⟨j, rfl, rfl, hj, hext⟩ := hrel
    have c0 : wr.cell? ⟨w.heap.size, 0, none⟩ = some (.slice p l.length cap) := hext.cell (by simp [World.cell?_alloc_new])
    have HX := Lib.hid hext; clear hext
    by_cases hlt : j < 8
    · have hs : sumTo l a (j + 1) = (sumTo l a j + (findS l (elemName a j)).getD 0) % 65536 := rfl
      have hat := fun w' hv => at_any l a (j : Int) p cap w' hv ⟨by omega, by omega⟩ ha
      simp only [Int.toNat_natCast] at hat
      unfold optV at hat
      have HS := Lib.hid hs; clear hs
      have HAT := Lib.hid hat; clear hat
      go_wp2_with fail
      refine (HAT.out _ (HV.out.ext HX.out.past)).mono ?_
      rintro e w1 ⟨rfl, hy⟩
      have HY := Lib.hid hy; clear hy
      go_wp2_with (go_at_call 76; refine (add_any _ _ _).mono ?_; rintro e w' ⟨rfl, rfl⟩)
      go_roundw
      case rel => exact ⟨j + 1, by rw [HS.out], by go_num, by omega, HX.out.trans HY.out⟩
      case measure => simp [intOf]; omega
    · have : j = 8 := by omega
      subst this
      go_wp2_with fail
      go_ret
      exact ⟨ret_int HR.out, HX.out.past⟩
end Go.Proofs.YtibfoafepjggjaaDoor
