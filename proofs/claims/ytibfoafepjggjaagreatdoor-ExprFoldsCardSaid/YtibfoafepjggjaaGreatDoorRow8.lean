/-
  What the rows of this chapter share.
-/
import Derived.Test.YtibfoafepjggjaaGreatDoorAwake
import Derived.Test.YtibfoafepjggjaaGreatDoorIn8
import Derived.Test.YtibfoafepjggjaaGreatDoorRows
import Derived.Test.YtibfoafepjggjaaGreatDoorLaid
import Derived.ChangeSame
import Derived.ChangeVars
import Derived.JoinedOf
import Derived.RowKit
import Derived.RowKitTokens
import Derived.LaidLaws
import Derived.ChangeOld
import Derived.Below
import Derived.OpenShut
set_option linter.unusedVariables false
set_option linter.unusedSimpArgs false
namespace Go.Proofs.YtibfoafepjggjaaGreatDoor
open Go.ChangeShapes Go.WideShapes Go.RowKit

theorem Tryz.own : ownKnob Tryz.prog.godebug = none := by kernel_rfl
theorem Tryz.laidOut : laidOutB Tryz.prog = true := by kernel_rfl

def kwRow : List (String × DataW Unit) := [("testbench/lexer.keywords", Rows.laid_testbench_lexer_keywords)]
/-- A world that meets the condition. -/
noncomputable def laidWorld (os : Os) : World :=
  let w0 := World.holding Tryz.prog os ⟨#[], #[], []⟩
  let w1 := w0.alloc (.cells (kwList.map Value.string).toArray 9)
  { w1 with heap := w1.heap.modify 0 fun
      | .cells _ t frozen => .cells #[.slice (some ⟨w0.heap.size, 0, none⟩) 24 24] t frozen
      | o => o }
theorem laidWorld_met (os : Os) (args : Array Value) : laidMet Tryz.prog kwRow ((laidWorld os).forCall (fun _ _ => 0) ⟨#[], args, []⟩).memory :=
  laidMet_of_run' 8 (by kernel_rfl) (by kernel_rfl)
theorem Ext.below {w w' : World} (h : Ext w w') : Below w.heap.size w w' := ⟨h.os, h.tape, h.output, h.size, h.block⟩

theorem lt_of_trod {H : Type} {enc : TypeId × Value → H} {w : World} {t : TypeId} {v : Value} {d : DataW H} {p : List MemPlace} {base : Nat} {spare : Nat → Bool} {held : Bool} (h : DataW.Trod enc Tryz.prog w base spare held t v d p) : ∀ x ∈ p, x.block < w.heap.size := by
  obtain ⟨m, hm⟩ := h
  exact DataW.trod_lt m _ _ _ hm
theorem exval_trod {H : Type} {enc : TypeId × Value → H} {w : World} {v : Value} {d : DataW H} {p : List MemPlace} {base : Nat} {spare : Nat → Bool} {held : Bool} (h : DataW.Trod enc Tryz.prog w base spare held 24 v d p) (hv : Value.okWide Tryz.prog w .any base 24 v) : ∃ e, ExVal w e v := by
  obtain ⟨fuel, hf⟩ := h
  obtain ⟨e, he⟩ := open_ex fuel _ _ hf
  obtain ⟨cs, rfl, -⟩ := okWide_struct Tryz.underlying24 hv
  exact ⟨e, cs.toList, he, by simp⟩
theorem int_trod {H : Type} {enc : TypeId × Value → H} {w : World} {v : Value} {d : DataW H} {p : List MemPlace} {base : Nat} {spare : Nat → Bool} {held : Bool} (h : DataW.Trod enc Tryz.prog w base spare held 3 v d p) (hv : Value.okWide Tryz.prog w .any base 3 v) : ∃ n, v = .int .i64 n ∧ Fits (.int .i64 n) := by
  obtain ⟨n, rfl⟩ := okWide_int Tryz.underlying3 hv
  obtain ⟨fuel, hf⟩ := h
  cases fuel with
  | zero => simp [DataW.trod] at hf
  | succ m =>
    obtain ⟨o, g0, -, w0⟩ := DataW.trod_int Tryz.underlying3 hf
    cases g0
    exact ⟨_, rfl, by simpa [Fits, Lit.wf, IntKind.min, IntKind.max, IntKind.signed, IntKind.bits] using w0⟩
theorem str_trod {H : Type} {enc : TypeId × Value → H} {w : World} {v : Value} {d : DataW H} {p : List MemPlace} {base : Nat} {spare : Nat → Bool} {held : Bool} (h : DataW.Trod enc Tryz.prog w base spare held 9 v d p) (hv : Value.okWide Tryz.prog w .any base 9 v) : ∃ s, v = .string s ∧ Fits (.string s) := by
  obtain ⟨n, rfl⟩ := okWide_string Tryz.underlying9 hv
  obtain ⟨fuel, hf⟩ := h
  cases fuel with
  | zero => simp [DataW.trod] at hf
  | succ m =>
    obtain ⟨o, g0, -, w0⟩ := DataW.trod_string Tryz.underlying9 hf
    cases g0
    exact ⟨_, rfl, w0⟩
end Go.Proofs.YtibfoafepjggjaaGreatDoor
