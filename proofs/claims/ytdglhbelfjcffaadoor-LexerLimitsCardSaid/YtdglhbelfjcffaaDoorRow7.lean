/-
  What the rows of this chapter share.
-/
import Derived.Test.YtdglhbelfjcffaaDoorLaid7
import Derived.ChangeSame
import Derived.ChangeVars
import Derived.JoinedOf
import Derived.RowKit
import Derived.RowKitTokens
import Derived.LaidLaws
import Derived.ChangeOld
import Derived.Below
import Derived.OpenShut
set_option linter.unusedVariables false
set_option linter.unusedSimpArgs false
namespace Go.Proofs.YtdglhbelfjcffaaDoor
open Go.ChangeShapes Go.WideShapes Go.RowKit
set_option maxRecDepth 100000

theorem Tryd.own : ownKnob Tryd.prog.godebug = none := by kernel_rfl
theorem Tryd.laidOut : laidOutB Tryd.prog = true := by kernel_rfl
def setBlock (w : World) (g : Nat) (cs : Array Value) : World :=
  { w with heap := w.heap.modify g fun
      | .cells _ t frozen => .cells cs t frozen
      | o => o }
/-- A world that meets the condition. -/
noncomputable def laidWorld (os : Os) : World :=
  let w0 := World.holding Tryd.prog os ⟨#[], #[], []⟩
  let n := w0.heap.size
  let w1 := (((w0.alloc (.cells (kwList.map Value.string).toArray 9)).alloc (.cells (markSs.map Value.string).toArray 9)).alloc (.cells #[.string ⟨#[118, 97, 108, 117, 101, 32, 111, 117, 116, 32, 111, 102, 32, 114, 97, 110, 103, 101]⟩] 110)).alloc (.cells #[.string ⟨#[105, 110, 118, 97, 108, 105, 100, 32, 115, 121, 110, 116, 97, 120]⟩] 110)
  let w2 := setBlock w1 0 #[.slice (some ⟨n, 0, none⟩) 24 24]
  let w3 := setBlock w2 1 #[.slice (some ⟨n + 1, 0, none⟩) 36 36]
  let w4 := setBlock w3 4 #[.iface 108 (.pointer (some ⟨n + 2, 0, none⟩))]
  let w5 := setBlock w4 3 #[.iface 108 (.pointer (some ⟨n + 3, 0, none⟩))]
  let w6 := setBlock w5 5 (Lib.pow10Tab.map fun z => Value.int .u64 z).toArray
  let w7 := setBlock w6 6 (([0, 1, 28, 2, 29, 14, 24, 3, 30, 22, 20, 15, 25, 17, 4, 8, 31, 27, 13, 23, 21, 19, 16, 7, 26, 12, 18, 6, 11, 5, 10, 9] : List Int).map fun z => Value.int .u8 z).toArray
  setBlock w7 7 (([0, 1, 56, 2, 57, 49, 28, 3, 61, 58, 42, 50, 38, 29, 17, 4, 62, 47, 59, 36, 45, 43, 51, 22, 53, 39, 33, 30, 24, 18, 12, 5, 63, 55, 48, 27, 60, 41, 37, 16, 46, 35, 44, 21, 52, 32, 23, 11, 54, 26, 40, 15, 34, 20, 31, 10, 25, 14, 19, 9, 13, 8, 7, 6] : List Int).map fun z => Value.int .u8 z).toArray
theorem laidWorld_met (os : Os) (args : Array Value) : laidMet Tryd.prog row7 ((laidWorld os).forCall (fun _ _ => 0) ⟨#[], args, []⟩).memory :=
  laidMet_of_run' 8 (by kernel_rfl) (by kernel_rfl)
theorem Ext.below {w w' : World} (h : Ext w w') : Below w.heap.size w w' := ⟨h.os, h.tape, h.output, h.size, h.block⟩
theorem lt_of_trod {H : Type} {enc : TypeId × Value → H} {w : World} {t : TypeId} {v : Value} {d : DataW H} {p : List MemPlace} {base : Nat} {spare : Nat → Bool} {held : Bool} (h : DataW.Trod enc Tryd.prog w base spare held t v d p) : ∀ x ∈ p, x.block < w.heap.size := by
  obtain ⟨m, hm⟩ := h
  exact DataW.trod_lt m _ _ _ hm
section
variable {H : Type} {enc : TypeId × Value → H} {w : World} {v : Value} {d : DataW H} {p : List MemPlace} {base : Nat} {spare : Nat → Bool} {held : Bool}
theorem str_trod (h : DataW.Trod enc Tryd.prog w base spare held 9 v d p) (hv : Value.okWide Tryd.prog w .any base 9 v) : ∃ l : Bs, Rep (mem w) [] (V.d (dstr (bs l))) v := by
  obtain ⟨n, rfl⟩ := okWide_string Tryd.underlying9 hv
  obtain ⟨fuel, hf⟩ := h
  cases fuel with
  | zero => simp [DataW.trod] at hf
  | succ m =>
    obtain ⟨o, g0, -, w0⟩ := DataW.trod_string Tryd.underlying9 hf
    cases g0
    exact ⟨n.data.toList, by rw [bs_self]; exact .d (.lit _ w0)⟩
instance : Inhabited Tok := ⟨⟨0, 0, ⟨#[]⟩, 0⟩⟩
theorem tok_reads {n : Nat} {cs : List Value} {y : DataW H × List MemPlace} (h : DataW.trod enc Tryd.prog w base spare held n 30 cs = some y) : ∃ t : Tok, DReps (mem w) (tokD t) cs := by
  obtain ⟨xs, m, rfl, -, hlen, hxs, hf⟩ := DataW.trod_struct Tryd.underlying30 h
  rw [show Tryd.prog.cellsOf 30 = 4 by kernel_rfl] at hlen
  match cs, hlen with
  | [a, b, c, e], _ =>
    have hx2 : xs.length = 4 := hxs
    have f0 : DataW.trod enc Tryd.prog w base spare held m 3 [a] = _ := (hf 0 _ rfl).trans (List.getElem?_eq_getElem (by omega))
    have f1 : DataW.trod enc Tryd.prog w base spare held m 3 [b] = _ := (hf 1 _ rfl).trans (List.getElem?_eq_getElem (by omega))
    have f2 : DataW.trod enc Tryd.prog w base spare held m 9 [c] = _ := (hf 2 _ rfl).trans (List.getElem?_eq_getElem (by omega))
    have f3 : DataW.trod enc Tryd.prog w base spare held m 3 [e] = _ := (hf 3 _ rfl).trans (List.getElem?_eq_getElem (by omega))
    obtain ⟨n0, g0, k0⟩ := int_reads Tryd.underlying3 f0
    obtain ⟨n1, g1, k1⟩ := int_reads Tryd.underlying3 f1
    obtain ⟨s, g2, k2⟩ := str_reads Tryd.underlying9 f2
    obtain ⟨n3, g3, k3⟩ := int_reads Tryd.underlying3 f3
    cases g0; cases g1; cases g2; cases g3
    exact ⟨⟨n0, n1, s, n3⟩, .cons (.lit _ k0) (.cons (.lit _ k1) (.cons (.lit _ k2) (.cons (.lit _ k3) .nil)))⟩
theorem toks_trod (h : DataW.Trod enc Tryd.prog w base spare held 23 v d p) (hv : Value.okWide Tryd.prog w .any base 23 v) : ∃ l : List Tok, Rep (mem w) [] (V.d (.sl (l.map tokD))) v := by
  obtain ⟨a, len, cap, rfl⟩ := okWide_slice Tryd.underlying23 hv
  obtain ⟨fuel, hf⟩ := h
  obtain ⟨l, v', h1, h2⟩ := slice_reads (cs := [.slice a len cap]) (k := 4) Tryd.underlying23 (by kernel_rfl) (by decide) tokD (fun _ => rfl) hf (fun n _ cs' y hy => tok_reads hy)
  cases h1
  exact ⟨l, .d h2⟩
theorem bytes_trod (h : DataW.Trod enc Tryd.prog w base spare held 35 v d p) (hv : Value.okWide Tryd.prog w .any base 35 v) : ∃ l : List Int, (∀ x, x ∈ l → 0 ≤ x ∧ x < 256) ∧ Rep (mem w) [] (V.d (.sl (l.map fun b => [.lit (.int .u8 b)]))) v := by
  obtain ⟨a, len, cap, rfl⟩ := okWide_slice Tryd.underlying35 hv
  obtain ⟨fuel, hf⟩ := h
  obtain ⟨l, v', h1, h2⟩ := slice_reads (cs := [.slice a len cap]) (k := 1) Tryd.underlying35 (by kernel_rfl) (by decide) (fun b : Int => [D.lit (.int .u8 b)]) (fun _ => rfl) hf (fun n hn cs' y hy => by
    cases n with
    | zero => simp [DataW.trod] at hy
    | succ n =>
    obtain ⟨o, g0, -, w0⟩ := DataW.trod_int Tryd.underlying5 hy
    cases g0
    exact ⟨o, .cons (.lit _ (by simpa [Fits, Lit.wf, IntKind.min, IntKind.max, IntKind.signed, IntKind.bits] using w0)) .nil⟩)
  cases h1
  refine ⟨l, fun x hx => ?_, .d h2⟩
  have hw := h2.wf
  cases hw with
  | sl _ _ hh =>
  obtain ⟨i, hi, rfl⟩ := List.getElem_of_mem hx
  have := hh i 0 (by simpa using hi) (by simp)
  simp only [List.getElem_map, List.getElem_cons_zero] at this
  cases this with
  | lit _ hf =>
  simp only [Fits, IntKind.min, IntKind.max, IntKind.signed, IntKind.bits] at hf
  simp at hf
  omega
end
end Go.Proofs.YtdglhbelfjcffaaDoor
