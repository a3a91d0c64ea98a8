/-
  What the rows of this chapter share: sequences that are read, with their size; a world that meets the condition.
-/
import Derived.Test.YtbhippphcmkjnaaGreatDoorReadB
import Derived.Test.YtbhippphcmkjnaaGreatDoorTs
import Derived.Test.YtbhippphcmkjnaaGreatDoorIn8
import Derived.Test.YtbhippphcmkjnaaGreatDoorRows
import Derived.Test.YtbhippphcmkjnaaGreatDoorLaid
import Derived.ChangeSame
import Derived.ChangeVars
import Derived.JoinedOf
import Derived.RowKit
import Derived.RowKitTokens
import Derived.LaidLaws
import Derived.ChangeOld
import Derived.Below
import Derived.OpenShut
import Derived.WalkKit
import Derived.ProofKit
import Derived.Deep.DeepHandedRow
import Derived.Deep.DeepWitnessRowRef
set_option linter.unusedVariables false
set_option linter.unusedSimpArgs false
namespace Go.Proofs.YtbhippphcmkjnaaGreatDoor
open Go.ChangeShapes Go.WideShapes Go.ChangeAt Go.RowKit

theorem Tryz.own : ownKnob Tryz.prog.godebug = none := by kernel_rfl
theorem Tryz.laidOut : laidOutB Tryz.prog = true := by kernel_rfl
def kwRow : List (String × DataW Unit) := [("testbench/lexer.keywords", Rows.laid_testbench_lexer_keywords)]
/-- A world that meets the condition. -/
noncomputable def laidWorld (os : Os) : World :=
  let w0 := World.holding Tryz.prog os ⟨#[], #[], []⟩
  let w1 := w0.alloc (.cells (kwList.map Value.string).toArray 9)
  { w1 with heap := w1.heap.modify 0 fun
      | .cells _ t frozen => .cells #[.slice (some ⟨w0.heap.size, 0, none⟩) 24 24] t frozen
      | o => o }
theorem laidWorld_met (os : Os) (args : Array Value) : laidMet Tryz.prog kwRow ((laidWorld os).forCall (fun _ _ => 0) ⟨#[], args, []⟩).memory :=
  laidMet_of_run' 8 (by kernel_rfl) (by kernel_rfl)
theorem Ext.below {w w' : World} (h : Ext w w') : Below w.heap.size w w' := ⟨h.os, h.tape, h.output, h.size, h.block⟩
theorem lt_of_trod {H : Type} {enc : TypeId × Value → H} {w : World} {t : TypeId} {v : Value} {d : DataW H} {p : List MemPlace} {base : Nat} {spare : Nat → Bool} {held : Bool} (h : DataW.Trod enc Tryz.prog w base spare held t v d p) : ∀ x ∈ p, x.block < w.heap.size := by
  obtain ⟨m, hm⟩ := h
  exact DataW.trod_lt m _ _ _ hm
def tsZero : Array Value := #[.int .i64 0, .int .i64 0, .int .i64 0, .int .i64 0, .int .i64 0, .string ⟨#[]⟩, .slice none 0 0, .string ⟨#[]⟩, .slice none 0 0]
instance : Inhabited Ex := ⟨.mk 0 0 ⟨#[]⟩ []⟩
instance : Inhabited Ts := ⟨.mk 0 0 0 (.mk 0 0 ⟨#[]⟩ []) ⟨#[]⟩ []⟩
theorem bulk_one {H : Type} (d : DataW H) : 1 ≤ Rows.uptoBulk d := by
  cases d with
  | lit l => cases l <;> simp [Rows.uptoBulk]
  | nil => simp [Rows.uptoBulk]
  | ptr d => simp [Rows.uptoBulk]
  | slice elems spare => simp [Rows.uptoBulk]
  | agg parts => simp [Rows.uptoBulk]
  | iface t d => simp [Rows.uptoBulk]
  | map entries => simp [Rows.uptoBulk]
  | held h => simp [Rows.uptoBulk]
theorem bulk_sum {H : Type} {α : Type} (g : α → Nat) : ∀ (l : List α) (es : List (DataW H)), es.length = l.length → (∀ i (h : i < l.length) (h' : i < es.length), 5 * g l[i] ≤ Rows.uptoBulk es[i]) → 5 * (l.map g).sum ≤ Rows.uptoBulkAll es
  | [], es, _, _ => by simp
  | a :: r, e :: es, hl, h => by
    have h1 := h 0 (by simp) (by simp)
    have h2 := bulk_sum g r es (by simpa using hl) (fun i g1 g2 => h (i + 1) (by simpa using g1) (by simpa using g2))
    simp only [List.getElem_cons_zero] at h1
    simp only [List.map_cons, List.sum_cons, Rows.uptoBulkAll]
    omega
theorem bulk_slice {H : Type} {α : Type} (g : α → Nat) {l : List α} {d : DataW H} (h : (d = .nil ∧ l = []) ∨ ∃ elems rest : List (DataW H), d = .slice elems rest ∧ elems.length = l.length ∧ ∀ i (h : i < l.length) (h' : i < elems.length), 5 * g l[i] ≤ Rows.uptoBulk elems[i]) : 5 * (l.map g).sum + 1 ≤ Rows.uptoBulk d := by
  rcases h with ⟨rfl, rfl⟩ | ⟨es, rest, rfl, h1, h2⟩
  · simp [Rows.uptoBulk]
  · have := bulk_sum g l es h1 h2
    simp only [Rows.uptoBulk]; omega
theorem esizes_sum (l : List Ex) : esizes l = (l.map esize).sum := by
  induction l with
  | nil => rfl
  | cons a r ih => simp only [esizes, ih, List.map_cons, List.sum_cons]
theorem tbigs_sum (l : List Ts) : tbigs l = (l.map tbig).sum := by
  induction l with
  | nil => rfl
  | cons a r ih => simp only [tbigs, ih, List.map_cons, List.sum_cons]
section
variable {H : Type} {enc : TypeId × Value → H} {w : World} {v : Value} {d : DataW H} {p : List MemPlace} {base : Nat} {spare : Nat → Bool} {held : Bool}
set_option maxRecDepth 100000 in
theorem ex_reads : ∀ (n : Nat) {cs : List Value} {y : DataW H × List MemPlace}, DataW.trod enc Tryz.prog w base spare held n 24 cs = some y → ∃ e : Ex, DReps (mem w) (dex e) cs ∧ 5 * esize e ≤ Rows.uptoBulk y.1 := by
  intro n
  induction n using Nat.strongRecOn with
  | _ n ih =>
  intro cs y h
  obtain ⟨xs, m, rfl, rfl, hlen, hxs, hf⟩ := DataW.trod_struct Tryz.underlying24 h
  rw [show Tryz.prog.cellsOf 24 = 4 by kernel_rfl] at hlen
  match cs, hlen with
  | [a, b, c, e], _ =>
    have hx2 : xs.length = 4 := hxs
    match xs, hx2 with
    | [x0, x1, x2, x3], _ =>
    have f0 : DataW.trod enc Tryz.prog w base spare held m 3 [a] = some x0 := hf 0 _ rfl
    have f1 : DataW.trod enc Tryz.prog w base spare held m 3 [b] = some x1 := hf 1 _ rfl
    have f2 : DataW.trod enc Tryz.prog w base spare held m 9 [c] = some x2 := hf 2 _ rfl
    have f3 : DataW.trod enc Tryz.prog w base spare held m 22 [e] = some x3 := hf 3 _ rfl
    obtain ⟨o, g0, k0⟩ := int_reads Tryz.underlying3 f0
    obtain ⟨q, g1, k1⟩ := int_reads Tryz.underlying3 f1
    obtain ⟨s, g2, k2⟩ := str_reads Tryz.underlying9 f2
    obtain ⟨l, v', g3, k3, hb⟩ := slice_readsQ (k := 4) Tryz.underlying22 (by kernel_rfl) (by decide) dex (fun a => by rw [dex_eq]; rfl) (fun e d => 5 * esize e ≤ Rows.uptoBulk d) f3 (fun n' hn cs' y hy => ih n' (by omega) hy)
    cases g0; cases g1; cases g2; cases g3
    refine ⟨.mk o q s l, by rw [dex_eq]; exact .cons (.lit _ k0) (.cons (.lit _ k1) (.cons (.lit _ k2) (.cons k3 .nil))), ?_⟩
    have hb' := bulk_slice esize hb
    have b0 := bulk_one x0.1
    have b1 := bulk_one x1.1
    have b2 := bulk_one x2.1
    simp only [esize, esizes_sum, List.map_cons, List.map_nil, Rows.uptoBulk, Rows.uptoBulkAll]
    omega
set_option maxRecDepth 100000 in
theorem ts_reads : ∀ (n : Nat) {cs : List Value} {y : DataW H × List MemPlace}, DataW.trod enc Tryz.prog w base spare held n 27 cs = some y → ∃ s : Ts, DReps (mem w) (dts s) cs ∧ 5 * tbig s ≤ Rows.uptoBulk y.1 := by
  intro n
  induction n using Nat.strongRecOn with
  | _ n ih =>
  intro cs y h
  obtain ⟨xs, m, rfl, rfl, hlen, hxs, hf⟩ := DataW.trod_struct Tryz.underlying27 h
  rw [show Tryz.prog.cellsOf 27 = 9 by kernel_rfl] at hlen
  match cs, hlen with
  | [a, b, c, e0, e1, e2, e3, nm, ar], _ =>
    have hx2 : xs.length = 6 := hxs
    match xs, hx2 with
    | [x0, x1, x2, x3, x4, x5], _ =>
    have f0 : DataW.trod enc Tryz.prog w base spare held m 3 [a] = some x0 := hf 0 _ rfl
    have f1 : DataW.trod enc Tryz.prog w base spare held m 3 [b] = some x1 := hf 1 _ rfl
    have f2 : DataW.trod enc Tryz.prog w base spare held m 3 [c] = some x2 := hf 2 _ rfl
    have f3 : DataW.trod enc Tryz.prog w base spare held m 24 [e0, e1, e2, e3] = some x3 := by
      have := hf 3 _ rfl
      change DataW.trod enc Tryz.prog w base spare held m 24 (([a, b, c, e0, e1, e2, e3, nm, ar].drop 3).take (Tryz.prog.cellsOf 24)) = some x3 at this
      rw [show Tryz.prog.cellsOf 24 = 4 by kernel_rfl] at this
      exact this
    have f4 : DataW.trod enc Tryz.prog w base spare held m 9 [nm] = some x4 := hf 4 _ rfl
    have f5 : DataW.trod enc Tryz.prog w base spare held m 25 [ar] = some x5 := hf 5 _ rfl
    obtain ⟨o, g0, k0⟩ := int_reads Tryz.underlying3 f0
    obtain ⟨lo, g1, k1⟩ := int_reads Tryz.underlying3 f1
    obtain ⟨hi, g2, k2⟩ := int_reads Tryz.underlying3 f2
    obtain ⟨e, k3, h3⟩ := ex_reads m f3
    obtain ⟨s, g4, k4⟩ := str_reads Tryz.underlying9 f4
    obtain ⟨l, v', g5, k5, hb⟩ := slice_readsQ (k := 9) Tryz.underlying25 (by kernel_rfl) (by decide) dts dts_len (fun e d => 5 * tbig e ≤ Rows.uptoBulk d) f5 (fun n' hn cs' y hy => ih n' (by omega) hy)
    cases g0; cases g1; cases g2; cases g4; cases g5
    refine ⟨.mk o lo hi e s l, ?_, ?_⟩
    · rw [dts_eq]
      rw [dex_eq] at k3
      exact .cons (.lit _ k0) (.cons (.lit _ k1) (.cons (.lit _ k2) (k3.append (.cons (.lit _ k4) (.cons k5 .nil)))))
    · have hb' := bulk_slice tbig hb
      have b0 := bulk_one x0.1
      have b1 := bulk_one x1.1
      have b2 := bulk_one x2.1
      have b4 := bulk_one x4.1
      rw [tbig_eq]
      simp only [Ts.ex, Ts.args, tbigs_sum, List.map_cons, List.map_nil, Rows.uptoBulk, Rows.uptoBulkAll]
      omega
set_option maxRecDepth 100000 in
theorem ts_trod (h : DataW.Trod enc Tryz.prog w base spare held 27 v d p) (hv : Value.okWide Tryz.prog w .any base 27 v) : ∃ s : Ts, Rep (mem w) [] (vts s) v ∧ 5 * tbig s ≤ Rows.uptoBulk d := by
  obtain ⟨fuel, hf⟩ := h
  obtain ⟨s, h1, h2⟩ := ts_reads fuel hf
  obtain ⟨cs, rfl, -⟩ := okWide_struct Tryz.underlying27 hv
  have h3 := h1.rep (bm := [])
  exact ⟨s, by simpa [vts, Value.cells] using h3, h2⟩
end
end Go.Proofs.YtbhippphcmkjnaaGreatDoor
