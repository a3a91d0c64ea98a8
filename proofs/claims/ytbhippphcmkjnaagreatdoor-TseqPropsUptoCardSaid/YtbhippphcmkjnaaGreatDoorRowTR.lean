/-
  The row of TseqProps, for inputs of a bounded bulk.
-/
import Derived.Test.YtbhippphcmkjnaaGreatDoorTVal
import Derived.Test.YtbhippphcmkjnaaGreatDoorRow39
set_option linter.unusedVariables false
set_option linter.unusedSimpArgs false
namespace Go.Proofs.YtbhippphcmkjnaaGreatDoor
open Go.ChangeShapes Go.WideShapes Go.ChangeAt Go.RowKit

def prZero : Array Value := #[.string ⟨#[]⟩, .bool false, .bool false, .int .i64 0, .int .i64 0, .int .i64 0, .int .i64 0, .int .i64 0, .string ⟨#[]⟩, .slice none 0 0, .string ⟨#[]⟩, .slice none 0 0, .int .i64 0, .int .i64 0, .int .i64 0, .int .i64 0, .int .i64 0, .string ⟨#[]⟩, .slice none 0 0, .string ⟨#[]⟩, .slice none 0 0]
section
variable {H : Type} {enc : TypeId × Value → H} {w : World} {v : Value} {d : DataW H} {p : List MemPlace} {base : Nat} {spare : Nat → Bool} {held : Bool}
set_option maxRecDepth 100000 in
theorem pr_reads (n : Nat) {cs : List Value} {y : DataW H × List MemPlace} (h : DataW.trod enc Tryz.prog w base spare held n 39 cs = some y) : ∃ p : Pr, DReps (mem w) (dpr p) cs ∧ 5 * (tbig p.cond + tbig p.then_) ≤ Rows.uptoBulk y.1 := by
  obtain ⟨xs, m, rfl, rfl, hlen, hxs, hf⟩ := DataW.trod_struct Tryz.underlying39 h
  rw [show Tryz.prog.cellsOf 39 = 21 by kernel_rfl] at hlen
  match cs, hlen with
  | [a, b, c, e0, e1, e2, e3, e4, e5, e6, e7, e8, g0, g1, g2, g3, g4, g5, g6, g7, g8], _ =>
    have hx2 : xs.length = 5 := hxs
    match xs, hx2 with
    | [x0, x1, x2, x3, x4], _ =>
    have f0 : DataW.trod enc Tryz.prog w base spare held m 9 [a] = some x0 := hf 0 _ rfl
    have f1 : DataW.trod enc Tryz.prog w base spare held m 4 [b] = some x1 := hf 1 _ rfl
    have f2 : DataW.trod enc Tryz.prog w base spare held m 4 [c] = some x2 := hf 2 _ rfl
    have f3 : DataW.trod enc Tryz.prog w base spare held m 27 [e0, e1, e2, e3, e4, e5, e6, e7, e8] = some x3 := by
      have := hf 3 _ rfl
      change DataW.trod enc Tryz.prog w base spare held m 27 (([a, b, c, e0, e1, e2, e3, e4, e5, e6, e7, e8, g0, g1, g2, g3, g4, g5, g6, g7, g8].drop 3).take (Tryz.prog.cellsOf 27)) = some x3 at this
      rw [show Tryz.prog.cellsOf 27 = 9 by kernel_rfl] at this
      exact this
    have f4 : DataW.trod enc Tryz.prog w base spare held m 27 [g0, g1, g2, g3, g4, g5, g6, g7, g8] = some x4 := by
      have := hf 4 _ rfl
      change DataW.trod enc Tryz.prog w base spare held m 27 (([a, b, c, e0, e1, e2, e3, e4, e5, e6, e7, e8, g0, g1, g2, g3, g4, g5, g6, g7, g8].drop 12).take (Tryz.prog.cellsOf 27)) = some x4 at this
      rw [show Tryz.prog.cellsOf 27 = 9 by kernel_rfl] at this
      exact this
    obtain ⟨s, q0, k0⟩ := str_reads Tryz.underlying9 f0
    obtain ⟨b1, q1⟩ := bool_reads Tryz.underlying4 f1
    obtain ⟨b2, q2⟩ := bool_reads Tryz.underlying4 f2
    obtain ⟨t1, k3, h3⟩ := ts_reads m f3
    obtain ⟨t2, k4, h4⟩ := ts_reads m f4
    cases q0; cases q1; cases q2
    refine ⟨⟨s, b1, b2, t1, t2⟩, .cons (.lit _ k0) (.cons (.lit _ trivial) (.cons (.lit _ trivial) (k3.append k4))), ?_⟩
    simp only [List.map_cons, List.map_nil, Rows.uptoBulk, Rows.uptoBulkAll]
    omega
set_option maxRecDepth 100000 in
theorem pr_trod (h : DataW.Trod enc Tryz.prog w base spare held 39 v d p) (hv : Value.okWide Tryz.prog w .any base 39 v) : ∃ s : Pr, Rep (mem w) [] (vpr s) v ∧ 5 * (tbig s.cond + tbig s.then_) ≤ Rows.uptoBulk d := by
  obtain ⟨fuel, hf⟩ := h
  obtain ⟨s, h1, h2⟩ := pr_reads fuel hf
  obtain ⟨cs, rfl, -⟩ := okWide_struct Tryz.underlying39 hv
  have h3 := h1.rep (bm := [])
  exact ⟨s, by simpa [vpr, Value.cells] using h3, h2⟩
end
set_option maxRecDepth 100000 in
theorem tseqProps_contract (H : Type) (enc : TypeId × Value → H) (W : World) (base : Nat) (args : Array Value) (ds gs : List (DataW H)) (before : List MemPlace)
    (hval : ∀ (j : Nat) t v, Tryz.f7.params[j]? = some t → args[j]? = some v → Value.okWide Tryz.prog W .any base t v)
    (hW : DataW.Whole enc Tryz.prog Tryz.f7.params.toList Rows.tseqPropsSpec.vars false W args.toList ds gs before) (hL : laidMetH Tryz.prog kwRow W) (hk : Rows.uptoSmall H (ds ++ gs) = true) :
    Calls Tryz.prog 7 args W fun e W' => ∃ v, e = .returned v ∧ Rows.tseqPropsSpec.post enc Tryz.prog Tryz.f7 false true false false W args v W' := by
  have hW' := hW
  obtain ⟨p, q, hA0, hV0, rfl, hfz, hnd⟩ := hW
  have hA : DataW.TrodAll enc Tryz.prog W 0 (fun _ => true) true Tryz.f7.params.toList args.toList ds p := hA0
  have hV : DataW.TrodVars enc Tryz.prog W (fun _ => true) [] gs q := hV0
  rw [Tryz.params7] at hA hval
  obtain ⟨v0, d0, rfl, rfl, h0⟩ := trodAll_one hA
  obtain ⟨rfl, rfl⟩ := trodVars_none hV
  have lt0 := lt_of_trod h0
  obtain ⟨s, hv, hb⟩ := pr_trod h0 (hval 0 39 v0 rfl rfl)
  have hbd : Rows.uptoBulk d0 + 0 ≤ 1048576 := by
    have := of_decide_eq_true hk
    simpa only [List.cons_append, List.nil_append, Rows.uptoBulkAll] using this
  have e1 : Rows.tseqPropsSpec.fn H ([d0] ++ []) = { results := [.lit (.bool true)], args := [d0] } := by simp [Rows.tseqPropsSpec]
  refine (calls_of_fun (vs := [v0]) (keys_of_laid hL) (tseqProps_fun s (by omega) (by omega)) rfl (fun i h h' => ?_)).mono fun en W' ⟨he, hx⟩ => ?_
  · match i, h with
    | 0, _ => exact hv
  subst he
  have bel := hx.below
  refine ⟨_, rfl, _, _, _, [], p, [], hW', ?_, ?_, ?_, bel.frame _, fun h => by cases h⟩
  · rw [e1]; exact trodAll_mk1 (shut_bool Tryz.underlying4 true)
  · rw [e1]; exact trodAll_mk1 (Below.trod Tryz.laidOut (by kernel_rfl) (of_decide_eq_true (by kernel_rfl)) h0 bel lt0)
  · rw [e1]; rfl
set_option maxRecDepth 100000 in
theorem tseqProps_lifted (os : Os) (started : os.Started) (H : Type) (enc : TypeId × Value → H) (F : Stop.Interp) :
    ReturnsInHanded {} Tryz.checked os 7 .any ((Rows.OpenSpec.upto Rows.tseqPropsSpec).preRow enc Tryz.prog Tryz.f7 Rows.tseqPropsUptoRow.domain false Rows.tseqPropsUptoRow.laid) (((Rows.OpenSpec.upto Rows.tseqPropsSpec).at F).post enc Tryz.prog Tryz.f7 false true false false) := by
  have hx : DataW.whole enc Tryz.prog ((laidWorld os).forCall (fun _ _ => 0) ⟨#[], #[.agg prZero], []⟩).memory Tryz.f7.params.toList Rows.tseqPropsSpec.vars false #[Value.agg prZero].toList 8 = some ([.agg [.lit (.string []), .lit (.bool false), .lit (.bool false), .agg [.lit (.int .i64 0), .lit (.int .i64 0), .lit (.int .i64 0), .agg [.lit (.int .i64 0), .lit (.int .i64 0), .lit (.string []), .nil], .lit (.string []), .nil], .agg [.lit (.int .i64 0), .lit (.int .i64 0), .lit (.int .i64 0), .agg [.lit (.int .i64 0), .lit (.int .i64 0), .lit (.string []), .nil], .lit (.string []), .nil]]], [], []) := by kernel_rfl
  refine returnsInHanded_of_row (C := Tryz.checked) (s := Rows.OpenSpec.upto Rows.tseqPropsSpec) Tryz.own started (by kernel_rfl) Tryz.func7
    (witness_row_atRef (enc := enc) (C := Tryz.checked) false (laidWorld os) #[.agg prZero] rfl (by kernel_rfl) (by kernel_rfl) (by kernel_rfl)
      (OpenSpec.preRow_of_cond 8 hx (by kernel_rfl) (fun k hk => by cases hk; kernel_rfl) (by kernel_rfl) (laidWorld_met os _))) ?_
  intro W base args ds gs before hval hW _ hcond _ hL _ _
  exact tseqProps_contract H enc W base args ds gs before hval hW hL (hcond _ rfl)
theorem tseqProps_upto : Rows.TseqPropsUptoSaid :=
  OpenClaim.holds_of_cond 7 Tryz.f7 rfl rfl rfl rfl rfl rfl rfl ⟨rfl, rfl, rfl, rfl, rfl⟩ rfl rfl rfl rfl rfl (by kernel_rfl) Tryz.func7 (by kernel_rfl)
    (of_decide_eq_true (by kernel_rfl)) (by unfold Func.isWrapper; first | (rw [if_pos (by decide +kernel)]; kernel_rfl) | (rw [if_neg (by decide +kernel)]; exact ⟨rfl, rfl⟩))
    (fun os started H enc _ F => by rw [OpenClaim.pre_eq_preRow]; exact tseqProps_lifted os started H enc F)
#print axioms tseqProps_upto
end Go.Proofs.YtbhippphcmkjnaaGreatDoor
