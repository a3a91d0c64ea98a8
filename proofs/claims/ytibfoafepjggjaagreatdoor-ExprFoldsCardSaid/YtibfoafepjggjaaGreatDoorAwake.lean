/-
  The examples' expression in memory. No program is in sight here.
  Walks: awake.
-/
import Derived.Test.YtibfoafepjggjaaGreatDoorData
import Derived.Test.YtibfoafepjggjaaGreatDoorEnv
import Derived.Test.YtibfoafepjggjaaGreatDoorFold
import Derived.Test.YtibfoafepjggjaaGreatDoorEval
import Derived.Test.YtibfoafepjggjaaGreatDoorNames2
set_option linter.unusedVariables false
set_option linter.unusedSimpArgs false
namespace Go.Proofs.YtibfoafepjggjaaGreatDoor
open Go.RowKit

theorem slice2 {w : World} {b : Nat} {T : TypeId} {a0 a1 a2 a3 b0 b1 b2 b3 : Value} (h : w.heap[b]? = some (.cells #[a0, a1, a2, a3, b0, b1, b2, b3] T (0, 0))) :
    SliceAt w 4 (.slice (some ⟨b, 0, none⟩) 2 2) [[a0, a1, a2, a3], [b0, b1, b2, b3]] := by
  refine ⟨_, 2, rfl, Nat.le_refl _, by unfold maxLen; omega, fun i cs hi => ⟨b, 0, rfl, ?_⟩⟩
  match i, hi with
  | 0, hi =>
    simp at hi; subst hi
    refine ⟨rfl, fun j x hj => ?_⟩
    match j, hj with
    | 0, hj => simp at hj; subst hj; simp [World.cell?, h]
    | 1, hj => simp at hj; subst hj; simp [World.cell?, h]
    | 2, hj => simp at hj; subst hj; simp [World.cell?, h]
    | 3, hj => simp at hj; subst hj; simp [World.cell?, h]
    | j + 4, hj => simp at hj
  | 1, hi =>
    simp at hi; subst hi
    refine ⟨rfl, fun j x hj => ?_⟩
    match j, hj with
    | 0, hj => simp at hj; subst hj; simp [World.cell?, h]
    | 1, hj => simp at hj; subst hj; simp [World.cell?, h]
    | 2, hj => simp at hj; subst hj; simp [World.cell?, h]
    | 3, hj => simp at hj; subst hj; simp [World.cell?, h]
    | j + 4, hj => simp at hj
  | i + 2, hi => simp at hi

def exA1 : Ex := .mk 7 0 ⟨#[]⟩ [.mk 1 1 ⟨#[]⟩ [], .mk 1 2 ⟨#[]⟩ []]
def exA : Ex := .mk 9 0 ⟨#[]⟩ [exA1, .mk 2 0 ⟨#[120]⟩ []]

theorem leaf_rep (w : World) (o n : Int) (s : ByteArray) (ho : -9223372036854775808 ≤ o ∧ o ≤ 9223372036854775807) (hn : -9223372036854775808 ≤ n ∧ n ≤ 9223372036854775807) (hs : s.size ≤ maxLen) :
    ExRep w (.mk o n s []) [.int .i64 o, .int .i64 n, .string s, .slice none 0 0] :=
  .mk o n s [] (.slice none 0 0) [] rfl (fun i h => by simp at h) ⟨none, 0, rfl, Nat.le_refl _, by unfold maxLen; omega, fun i cs h => by simp at h⟩ ho hn hs
theorem pair_rep {w : World} {b : Nat} {T : TypeId} {a0 a1 a2 a3 b0 b1 b2 b3 : Value} {x y : Ex} (h : w.heap[b]? = some (.cells #[a0, a1, a2, a3, b0, b1, b2, b3] T (0, 0)))
    (hx : ExRep w x [a0, a1, a2, a3]) (hy : ExRep w y [b0, b1, b2, b3]) (o : Int) (ho : -9223372036854775808 ≤ o ∧ o ≤ 9223372036854775807) :
    ExRep w (.mk o 0 ⟨#[]⟩ [x, y]) [.int .i64 o, .int .i64 0, .string ⟨#[]⟩, .slice (some ⟨b, 0, none⟩) 2 2] := by
  refine .mk o 0 ⟨#[]⟩ [x, y] _ [[a0, a1, a2, a3], [b0, b1, b2, b3]] rfl (fun i h1 h2 => ?_) (slice2 h) ho (by omega) (by decide)
  match i, h1 with
  | 0, _ => exact hx
  | 1, _ => exact hy
theorem exA_val {w2 w3 : World} {T : TypeId} (h : Ext (w2.alloc (.cells #[.int .i64 1, .int .i64 1, .string ⟨#[]⟩, .slice none 0 0, .int .i64 1, .int .i64 2, .string ⟨#[]⟩, .slice none 0 0] T)) w3) {w4 : World}
    (h4 : Ext (w3.alloc (.cells #[.int .i64 7, .int .i64 0, .string ⟨#[]⟩, .slice (some ⟨w2.heap.size, 0, none⟩) 2 2, .int .i64 2, .int .i64 0, .string ⟨#[120]⟩, .slice none 0 0] T)) w4) :
    ExVal w4 exA (.agg #[.int .i64 9, .int .i64 0, .string ⟨#[]⟩, .slice (some ⟨w3.heap.size, 0, none⟩) 2 2]) := by
  have e2 : w3.heap[w2.heap.size]? = some (.cells #[.int .i64 1, .int .i64 1, .string ⟨#[]⟩, .slice none 0 0, .int .i64 1, .int .i64 2, .string ⟨#[]⟩, .slice none 0 0] T (0, 0)) := (h.same (by simp)).trans (heap_alloc_new _ _)
  have e4 : w4.heap[w3.heap.size]? = _ := (h4.same (by simp)).trans (heap_alloc_new _ _)
  have e3 : w4.heap[w2.heap.size]? = some (.cells #[.int .i64 1, .int .i64 1, .string ⟨#[]⟩, .slice none 0 0, .int .i64 1, .int .i64 2, .string ⟨#[]⟩, .slice none 0 0] T (0, 0)) := (h4.past.same (Array.getElem?_eq_some_iff.1 e2).1).trans e2
  exact ⟨_, pair_rep e4 (pair_rep e3 (leaf_rep _ 1 1 ⟨#[]⟩ (by omega) (by omega) (by decide)) (leaf_rep _ 1 2 ⟨#[]⟩ (by omega) (by omega) (by decide)) 7 (by omega)) (leaf_rep _ 2 0 ⟨#[120]⟩ (by omega) (by omega) (by decide)) 9 (by omega), rfl⟩
/-- The value of one signal in memory. -/
theorem sig1_val (w : World) (T : TypeId) : SigsVal ((w.alloc (.cells #[.string ⟨#[120]⟩, .int .i64 5] T))) [⟨⟨#[120]⟩, 5⟩] (.slice (some ⟨w.heap.size, 0, none⟩) 1 1) := by
  refine ⟨_, 1, rfl, Nat.le_refl _, by omega, fun i s hi => ?_⟩
  match i, hi with
  | 0, hi => simp at hi; subst hi; exact ⟨w.heap.size, 0, rfl, by simp [World.cell?_alloc_new], by simp [World.cell?_alloc_new]⟩
  | i + 1, hi => simp at hi
end Go.Proofs.YtibfoafepjggjaaGreatDoor

namespace Go.Proofs.YtibfoafepjggjaaGreatDoor
open Go.RowKit

theorem evalA : evalE exA [⟨⟨#[120]⟩, 5⟩] = (15, 0) := by decide +kernel
theorem sizeA : esize exA = 5 := by decide +kernel
theorem depthA : edepth exA = 3 := by decide +kernel
theorem namesA : namesOf [2] exA = [⟨#[120]⟩] := by decide +kernel
theorem foldA : esize (FoldE exA) = 3 := by decide +kernel
theorem validN : validE (.mk 1 70000 ⟨#[]⟩ []) = 1 := by decide +kernel
theorem slimA : Slim exA := by simp [Slim, Slims, exA, exA1]
set_option maxRecDepth 100000 in
set_option maxHeartbeats 2000000 in
theorem awake_any (w : World) (hk : Keys w) : Calls Tryz.prog 7 #[] w (fun en w' => en = .returned (.bool true) ∧ Ext w w') := by
  have HK := Lib.hid hk; clear hk
  go_enter Tryz.func7, Tryz.ntmps7
  go_wp2_with (first | (go_at_call 15; refine (number_val 1 _).mono ?_; rintro e w' ⟨rfl, hy1⟩; have HY1 := Lib.hid hy1; clear hy1) | (go_at_call 15; refine (number_val 2 _).mono ?_; rintro e w' ⟨rfl, hy2⟩; have HY2 := Lib.hid hy2; clear hy2) | (go_at_call 16; refine (variable_val _ _).mono ?_; rintro e w' ⟨rfl, hy3⟩; have HY3 := Lib.hid hy3; clear hy3))
  have hx := (HY1.out.trans HY2.out).trans HY3.out.past
  have hv := fun w4 h4 => exA_val HY3.out (w4 := w4) h4
  rename World => w9
  obtain ⟨w3, hw3⟩ : ∃ w3 : World, w3 = w9 := ⟨_, rfl⟩
  subst hw3
  have hs := sig1_val ((w3.alloc (.cells #[.int .i64 7, .int .i64 0, .string ⟨#[]⟩, .slice (some ⟨w'.heap.size, 0, none⟩) 2 2, .int .i64 2, .int .i64 0, .string ⟨#[120]⟩, .slice none 0 0] 24)).alloc (.cells #[.int .i64 9, .int .i64 0, .string ⟨#[]⟩, .slice (some ⟨w3.heap.size, 0, none⟩) 2 2] 24)) 37
  simp only [World.size_alloc] at hs
  have hb4 : St4 (w3.heap.size + 1) 24 (.int .i64 9) (.int .i64 0) (.string ⟨#[]⟩) (.slice (some ⟨w3.heap.size, 0, none⟩) 2 2) (((w3.alloc (.cells #[.int .i64 7, .int .i64 0, .string ⟨#[]⟩, .slice (some ⟨w'.heap.size, 0, none⟩) 2 2, .int .i64 2, .int .i64 0, .string ⟨#[120]⟩, .slice none 0 0] 24)).alloc (.cells #[.int .i64 9, .int .i64 0, .string ⟨#[]⟩, .slice (some ⟨w3.heap.size, 0, none⟩) 2 2] 24)).alloc (.cells #[.string ⟨#[120]⟩, .int .i64 5] 37)) := by
    have h := one4 (w3.alloc (.cells #[.int .i64 7, .int .i64 0, .string ⟨#[]⟩, .slice (some ⟨w'.heap.size, 0, none⟩) 2 2, .int .i64 2, .int .i64 0, .string ⟨#[120]⟩, .slice none 0 0] 24)) 24 (.int .i64 9) (.int .i64 0) (.string ⟨#[]⟩) (.slice (some ⟨w3.heap.size, 0, none⟩) 2 2)
    simp only [World.size_alloc] at h
    exact St4.keep (Keep.of_ext (O := fun _ => False) ((Ext.refl _).alloc _)) (fun h => h) h
  have hvE := hv _ (((Ext.refl _).alloc (.cells #[.int .i64 9, .int .i64 0, .string ⟨#[]⟩, .slice (some ⟨w3.heap.size, 0, none⟩) 2 2] 24)).alloc (.cells #[.string ⟨#[120]⟩, .int .i64 5] 37))
  have hkE := (HK.out.ext hx).ext ((((Ext.refl _).alloc (.cells #[.int .i64 7, .int .i64 0, .string ⟨#[]⟩, .slice (some ⟨w'.heap.size, 0, none⟩) 2 2, .int .i64 2, .int .i64 0, .string ⟨#[120]⟩, .slice none 0 0] 24)).alloc (.cells #[.int .i64 9, .int .i64 0, .string ⟨#[]⟩, .slice (some ⟨w3.heap.size, 0, none⟩) 2 2] 24)).alloc (.cells #[.string ⟨#[120]⟩, .int .i64 5] 37))
  have hxE := ((hx.alloc (.cells #[.int .i64 7, .int .i64 0, .string ⟨#[]⟩, .slice (some ⟨w'.heap.size, 0, none⟩) 2 2, .int .i64 2, .int .i64 0, .string ⟨#[120]⟩, .slice none 0 0] 24)).alloc (.cells #[.int .i64 9, .int .i64 0, .string ⟨#[]⟩, .slice (some ⟨w3.heap.size, 0, none⟩) 2 2] 24)).alloc (.cells #[.string ⟨#[120]⟩, .int .i64 5] 37)
  have hE := eval_any exA [⟨⟨#[120]⟩, 5⟩] _ _ _ hvE hs hkE (by rw [depthA]; decide) (by rw [sizeA]; decide)
  rw [evalA] at hE
  refine hE.mono ?_
  clear hE
  rintro en w5 ⟨rfl, hy⟩
  replace hvE := hvE.ext hy
  replace hkE := hkE.ext hy
  replace hxE := hxE.trans hy
  replace hb4 := St4.keep (Keep.of_ext (O := fun _ => False) hy) (fun h => h) hb4
  clear hs hv hx hy
  have HY := Lib.hid hvE
  have HKE := Lib.hid hkE
  have HXE := Lib.hid hxE
  have HB := Lib.hid hb4
  obtain ⟨d0, d1, d2, d3⟩ := St4.cells hb4
  clear hvE hkE hxE hb4
  have hN := Names_any exA _ _ HY.out (by rw [sizeA]; decide)
  rw [namesA] at hN
  go_wp2_with fail
  refine hN.mono ?_
  clear hN d0 d1 d2 d3
  rintro en w6 ⟨vn, rfl, hown, -, hy⟩
  have hsn := strs_own hown
  obtain ⟨pn, cn, rfl, hl1, -, h3⟩ := hsn
  obtain ⟨bn, on, rfl, hcn⟩ := h3 0 _ rfl
  simp only [Nat.add_zero, Nat.zero_mul] at hcn
  clear h3 hown
  have hvE := HY.out.ext hy
  have hkE := HKE.out.ext hy
  have hxE := HXE.out.trans hy
  have hb4 := St4.keep (Keep.of_ext (O := fun _ => False) hy) (fun h => h) HB.out
  clear hy HY HKE HXE HB
  have HY := Lib.hid hvE
  have HKE := Lib.hid hkE
  have HXE := Lib.hid hxE
  have HB := Lib.hid hb4
  obtain ⟨d0, d1, d2, d3⟩ := St4.cells hb4
  clear hvE hkE hxE hb4
  have hS := size_any exA _ _ HY.out
  rw [sizeA] at hS
  have hS2 : wrap64 ((5 : Nat) : Int) = 5 := by decide +kernel
  rw [hS2] at hS
  go_wp2_with fail
  refine hS.mono ?_
  clear hS hS2 d0 d1 d2 d3
  rintro en w7 ⟨rfl, hy⟩
  have hvE := HY.out.ext hy
  have hkE := HKE.out.ext hy
  have hxE := HXE.out.trans hy
  have hcn' := hy.cell hcn
  have hb4 := St4.keep (Keep.of_ext (O := fun _ => False) hy) (fun h => h) HB.out
  clear hy HY HKE HXE HB hcn
  have HY := Lib.hid hvE
  have HKE := Lib.hid hkE
  have HXE := Lib.hid hxE
  have HB := Lib.hid hb4
  obtain ⟨d0, d1, d2, d3⟩ := St4.cells hb4
  clear hvE hkE hxE hb4
  have hD := depth_any exA _ _ (by rw [depthA]; decide) HY.out
  rw [depthA] at hD
  go_wp2_with fail
  refine hD.mono ?_
  clear hD d0 d1 d2 d3
  rintro en w8 ⟨rfl, hy⟩
  have hvE := HY.out.ext hy
  have hkE := HKE.out.ext hy
  have hxE := HXE.out.trans hy
  have hcn := hy.cell hcn'
  have hb4 := St4.keep (Keep.of_ext (O := fun _ => False) hy) (fun h => h) HB.out
  clear hy HY HKE HXE HB hcn'
  have HY := Lib.hid hvE
  have HKE := Lib.hid hkE
  have HXE := Lib.hid hxE
  have HB := Lib.hid hb4
  obtain ⟨d0, d1, d2, d3⟩ := St4.cells hb4
  clear hvE hkE hxE hb4
  have hF := Fold_any exA slimA _ _ HY.out HKE.out (by rw [depthA]; decide) (by rw [sizeA]; decide)
  go_wp2_with fail
  refine hF.mono ?_
  clear hF d0 d1 d2 d3
  rintro en w10 ⟨cs2, rfl, hcs2, hy⟩
  have hkE := HKE.out.ext hy
  have hxE := HXE.out.trans hy
  clear hy HKE HXE HB hcn HY
  have HKE := Lib.hid hkE
  have HXE := Lib.hid hxE
  clear hkE hxE
  have hS := size_any (FoldE exA) w10 (.agg cs2.toArray) ⟨_, hcs2.rep, rfl⟩
  rw [foldA] at hS
  have hS2 : wrap64 ((3 : Nat) : Int) = 3 := by decide +kernel
  rw [hS2] at hS
  clear hcs2
  go_wp2_with fail
  refine hS.mono ?_
  clear hS hS2
  rintro en w11 ⟨rfl, hy⟩
  have hkE := HKE.out.ext hy
  have hxE := HXE.out.trans hy
  clear hy HKE HXE
  have HKE := Lib.hid hkE
  have HXE := Lib.hid hxE
  clear hkE hxE
  go_wp2_with (first | (go_at_call 15; refine (number_val 70000 _).mono ?_; rintro e w' ⟨rfl, hy1⟩; have HY1 := Lib.hid hy1; clear hy1) | (go_at_call 20; refine (valid_any (.mk 1 70000 ⟨#[]⟩ []) _ _ ⟨_, leaf_rep _ 1 70000 ⟨#[]⟩ (by omega) (by omega) (by decide), rfl⟩ (HKE.out.ext HY1.out) (by decide +kernel) (by decide +kernel)).mono ?_; rintro e w' ⟨rfl, hy2⟩; have HY2 := Lib.hid hy2; clear hy2))
  go_ret
  exact ⟨ret_bool (by rw [validN]; rfl), (HXE.out.trans HY1.out).trans HY2.out⟩
end Go.Proofs.YtibfoafepjggjaaGreatDoor
