/-
  The law ExprChecks: its walk.
-/
import Derived.Test.YtibfoafepjggjaaDoorAwake
import Derived.Test.YtibfoafepjggjaaDoorLaw8
import Derived.Deep.RegionHeld3
namespace Go.Proofs.YtibfoafepjggjaaDoor
open Go.RowKit

set_option maxRecDepth 100000 in
set_option maxHeartbeats 2000000 in
theorem exprChecks_any (e : Ex) (v : Value) (w : World) (hv : ExVal w e v) (hk : Keys w) : Calls Tryd.prog 4 #[v] w (fun en w' => en = .returned (.bool true) ∧ Ext w w') := by
  have hF := fun w1 (hx : Ext w w1) => few_any e 450 v w1 (by omega) (by omega) (hv.ext hx)
  have hAw := fun w1 (hx : Ext w w1) => awake_any w1 (hk.ext hx)
  have hsz : decide (cnt e 450 ≤ 450) = true → esize e ≤ 450 := fun h => by have := few_size (by omega) (of_decide_eq_true h); omega
  have h1 := fun (h : decide (cnt e 450 ≤ 450) = true) w1 (hx : Ext w w1) => valid_any e w1 v (hv.ext hx) (hk.ext hx) (by have := depth_le e; have := hsz h; omega) (by have := hsz h; omega)
  have h2 := fun (h : decide (cnt e 450 ≤ 450) = true) w1 (hx : Ext w w1) => rvalid_any e w1 v (hv.ext hx) (by have := hsz h; omega) (by have := depth_le e; have := hsz h; omega)
  have h3 : decide (cnt e 450 ≤ 450) = true → rvalidE e = validE e := fun h => rvalid_eq e (by have := hsz h; omega)
  obtain ⟨p, cp, rfl, -⟩ := ex_open hv
  have HF := Lib.hid hF
  have HAW := Lib.hid hAw
  have H1 := Lib.hid h1
  have H2 := Lib.hid h2
  have H3 := Lib.hid h3
  clear hF hAw h1 h2 h3 hsz hv hk
  generalize validE e = y at *
  generalize rvalidE e = y2 at *
  generalize decide (cnt e 450 ≤ 450) = b at *
  go_enter Tryd.func4, Tryd.ntmps4
  cases b with
  | false =>
    go_wp2_with (first | (go_at_call 9; refine (HF.out _ ((Ext.refl w).alloc _)).mono ?_; rintro e w' ⟨rfl, hy⟩; have HY := Lib.hid (((Ext.refl w).alloc _).trans hy); clear hy) | (go_at_call 10; refine (HAW.out _ HY.out).mono ?_; rintro e w' ⟨rfl, hy2⟩; have HY2 := Lib.hid hy2; clear hy2))
    go_ret
    exact ⟨ret_bool (by rfl), HY.out.trans HY2.out⟩
  | true =>
    have hyy : y2 = y := H3.out rfl
    subst hyy
    have HB := H1.out rfl
    have HC := H2.out rfl
    have HV1 := Lib.hid HB
    have HV2 := Lib.hid HC
    clear HB HC H1 H2 H3
    go_wp2_with (first | (go_at_call 9; refine (HF.out _ ((Ext.refl w).alloc _)).mono ?_; rintro e w' ⟨rfl, hy⟩; have hbx := St4.keep (Keep.of_ext (O := fun _ => False) hy) (fun h => h) (one4 w _ _ _ _ _); obtain ⟨c0, c1, c2, c3⟩ := St4.cells hbx; have HY := Lib.hid (((Ext.refl w).alloc _).trans hy); clear hy hbx))
    go_region_held3 (fun wz => wz.cell? ⟨w.heap.size, 0, none⟩ = some (.int .i64 e.op) ∧ wz.cell? ⟨w.heap.size, 1, none⟩ = some (.int .i64 e.num) ∧ wz.cell? ⟨w.heap.size, 2, none⟩ = some (.string e.name) ∧ wz.cell? ⟨w.heap.size, 3, none⟩ = some (.slice p e.args.length cp) ∧ Hid (Ext w wz)) (first | (have hS : _ ∧ _ ∧ _ ∧ _ ∧ Hid (Ext w _) := (by assumption); exact ⟨hy.cell hS.1, hy.cell hS.2.1, hy.cell hS.2.2.1, hy.cell hS.2.2.2.1, Lib.hid (hS.2.2.2.2.out.trans hy)⟩) | exact ⟨c0, c1, c2, c3, Lib.hid HY.out.drew⟩) (first | (go_at_call 22; refine (HV1.out _ (‹_ ∧ _ ∧ _ ∧ _ ∧ Hid (Ext w _)›).2.2.2.2.out).mono ?_; rintro e w' ⟨rfl, hy⟩) | (go_at_call 23; refine (HV2.out _ (‹_ ∧ _ ∧ _ ∧ _ ∧ Hid (Ext w _)›).2.2.2.2.out).mono ?_; rintro e w' ⟨rfl, hy⟩) | (go_at_call 10; refine (HAW.out _ (‹_ ∧ _ ∧ _ ∧ _ ∧ Hid (Ext w _)›).2.2.2.2.out).mono ?_; rintro e w' ⟨rfl, hy⟩))
    have hS : _ ∧ _ ∧ _ ∧ _ ∧ Hid (Ext w _) := (by assumption)
    have HZ := hS.2.2.2.2
    clear hS
    go_wp2_with fail
    go_ret
    exact ⟨ret_bool (by rfl), HZ.out⟩
end Go.Proofs.YtibfoafepjggjaaDoor
