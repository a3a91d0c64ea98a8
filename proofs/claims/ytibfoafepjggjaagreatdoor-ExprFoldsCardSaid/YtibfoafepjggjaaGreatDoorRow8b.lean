/-
  What the rows of this chapter share: lists of marks and of signals.
-/
import Derived.Test.YtibfoafepjggjaaGreatDoorRow8
import Derived.Test.YtibfoafepjggjaaGreatDoorEnv
set_option linter.unusedVariables false
set_option linter.unusedSimpArgs false
namespace Go.Proofs.YtibfoafepjggjaaGreatDoor
open Go.ChangeShapes Go.WideShapes Go.RowKit

section
variable {H : Type} {enc : TypeId × Value → H} {w : World} {v : Value} {d : DataW H} {p : List MemPlace} {base : Nat} {spare : Nat → Bool} {held : Bool}
instance : Inhabited Sig := ⟨⟨⟨#[]⟩, 0⟩⟩
set_option maxRecDepth 100000 in
theorem sig_reads {n : Nat} {cs : List Value} {y : DataW H × List MemPlace} (h : DataW.trod enc Tryz.prog w base spare held n 37 cs = some y) : ∃ s : Sig, DReps (mem w) [dstr s.name, dint s.val] cs := by
  obtain ⟨xs, m, rfl, -, hlen, hxs, hf⟩ := DataW.trod_struct Tryz.underlying37 h
  rw [show Tryz.prog.cellsOf 37 = 2 by kernel_rfl] at hlen
  match cs, hlen with
  | [a, b], _ =>
    have hx2 : xs.length = 2 := hxs
    have f0 : DataW.trod enc Tryz.prog w base spare held m 9 [a] = _ := (hf 0 _ rfl).trans (List.getElem?_eq_getElem (by omega))
    have f1 : DataW.trod enc Tryz.prog w base spare held m 3 [b] = _ := (hf 1 _ rfl).trans (List.getElem?_eq_getElem (by omega))
    obtain ⟨s, g0, k0⟩ := str_reads Tryz.underlying9 f0
    obtain ⟨n, g1, k1⟩ := int_reads Tryz.underlying3 f1
    cases g0; cases g1
    exact ⟨⟨s, n⟩, .cons (.lit _ k0) (.cons (.lit _ k1) .nil)⟩
theorem sigs_trod (h : DataW.Trod enc Tryz.prog w base spare held 25 v d p) (hv : Value.okWide Tryz.prog w .any base 25 v) : ∃ l : List Sig, DRep (mem w) (.sl (l.map fun s => [dstr s.name, dint s.val])) v := by
  obtain ⟨a, len, cap, rfl⟩ := okWide_slice Tryz.underlying25 hv
  obtain ⟨fuel, hf⟩ := h
  obtain ⟨l, v', h1, h2⟩ := slice_reads (cs := [.slice a len cap]) (k := 2) Tryz.underlying25 (by kernel_rfl) (by decide) (fun s : Sig => [dstr s.name, dint s.val]) (fun _ => rfl) hf (fun n _ cs' y hy => sig_reads hy)
  cases h1
  exact ⟨l, h2⟩
end
end Go.Proofs.YtibfoafepjggjaaGreatDoor
