/-
  What the rows of this chapter share.
-/
import Derived.Test.YtibfoafepjggjaaDoorAwake
import Derived.Test.YtibfoafepjggjaaDoorIn8
import Derived.Test.YtibfoafepjggjaaDoorRows
import Derived.Test.YtibfoafepjggjaaDoorLaid
import Derived.ChangeSame
import Derived.ChangeVars
import Derived.JoinedOf
import Derived.RowKit
import Derived.RowKitTokens
import Derived.LaidLaws
import Derived.ChangeOld
import Derived.Below
import Derived.OpenShut
namespace Go.Proofs.YtibfoafepjggjaaDoor
open Go.ChangeShapes Go.WideShapes Go.RowKit

theorem Tryd.own : ownKnob Tryd.prog.godebug = none := by kernel_rfl
theorem Tryd.laidOut : laidOutB Tryd.prog = true := by kernel_rfl

def kwRow : List (String × DataW Unit) := [("testbench/lexer.keywords", Rows.laid_testbench_lexer_keywords)]
/-- A world that meets the condition. -/
noncomputable def laidWorld (os : Os) : World :=
  let w0 := World.holding Tryd.prog os ⟨#[], #[], []⟩
  let w1 := w0.alloc (.cells (kwList.map Value.string).toArray 9)
  { w1 with heap := w1.heap.modify 0 fun
      | .cells _ t frozen => .cells #[.slice (some ⟨w0.heap.size, 0, none⟩) 24 24] t frozen
      | o => o }
theorem laidWorld_met (os : Os) (args : Array Value) : laidMet Tryd.prog kwRow ((laidWorld os).forCall (fun _ _ => 0) ⟨#[], args, []⟩).memory :=
  laidMet_of_run' 8 (by kernel_rfl) (by kernel_rfl)
theorem Ext.below {w w' : World} (h : Ext w w') : Below w.heap.size w w' := ⟨h.os, h.tape, h.output, h.size, h.block⟩

theorem lt_of_trod {H : Type} {enc : TypeId × Value → H} {w : World} {t : TypeId} {v : Value} {d : DataW H} {p : List MemPlace} {base : Nat} {spare : Nat → Bool} {held : Bool} (h : DataW.Trod enc Tryd.prog w base spare held t v d p) : ∀ x ∈ p, x.block < w.heap.size := by
  obtain ⟨m, hm⟩ := h
  exact DataW.trod_lt m _ _ _ hm
theorem exval_trod {H : Type} {enc : TypeId × Value → H} {w : World} {v : Value} {d : DataW H} {p : List MemPlace} {base : Nat} {spare : Nat → Bool} {held : Bool} (h : DataW.Trod enc Tryd.prog w base spare held 24 v d p) (hv : Value.okWide Tryd.prog w .any base 24 v) : ∃ e, ExVal w e v := by
  obtain ⟨fuel, hf⟩ := h
  obtain ⟨e, he⟩ := open_ex fuel _ _ hf
  obtain ⟨cs, rfl, -⟩ := okWide_struct Tryd.underlying24 hv
  exact ⟨e, cs.toList, he, by simp⟩
theorem int_trod {H : Type} {enc : TypeId × Value → H} {w : World} {v : Value} {d : DataW H} {p : List MemPlace} {base : Nat} {spare : Nat → Bool} {held : Bool} (h : DataW.Trod enc Tryd.prog w base spare held 3 v d p) (hv : Value.okWide Tryd.prog w .any base 3 v) : ∃ n, v = .int .i64 n ∧ Fits (.int .i64 n) := by
  obtain ⟨n, rfl⟩ := okWide_int Tryd.underlying3 hv
  obtain ⟨fuel, hf⟩ := h
  cases fuel with
  | zero => simp [DataW.trod] at hf
  | succ m =>
    obtain ⟨o, g0, -, w0⟩ := DataW.trod_int Tryd.underlying3 hf
    cases g0
    exact ⟨_, rfl, by simpa [Fits, Lit.wf, IntKind.min, IntKind.max, IntKind.signed, IntKind.bits] using w0⟩
theorem str_trod {H : Type} {enc : TypeId × Value → H} {w : World} {v : Value} {d : DataW H} {p : List MemPlace} {base : Nat} {spare : Nat → Bool} {held : Bool} (h : DataW.Trod enc Tryd.prog w base spare held 9 v d p) (hv : Value.okWide Tryd.prog w .any base 9 v) : ∃ s, v = .string s ∧ Fits (.string s) := by
  obtain ⟨n, rfl⟩ := okWide_string Tryd.underlying9 hv
  obtain ⟨fuel, hf⟩ := h
  cases fuel with
  | zero => simp [DataW.trod] at hf
  | succ m =>
    obtain ⟨o, g0, -, w0⟩ := DataW.trod_string Tryd.underlying9 hf
    cases g0
    exact ⟨_, rfl, w0⟩
end Go.Proofs.YtibfoafepjggjaaDoor
