/-
  What the rows of this chapter share.
-/
import Derived.Test.YtinenohgemndiaaGx6
import Derived.Test.YtinenohgemndiaaRows
import Derived.Test.YtinenohgemndiaaRead
import Derived.ChangeSame
import Derived.ChangeVars
import Derived.JoinedOf
import Derived.RowKit
import Derived.RowKitTokens
import Derived.ChangeOld
import Derived.Below
import Derived.OpenShut
import Derived.SizedLaws
set_option linter.unusedVariables false
set_option linter.unusedSimpArgs false
set_option linter.unusedSectionVars false
namespace Go.Proofs.Ytinenohgemndiaa
open Go.ChangeShapes Go.WideShapes Go.RowKit
set_option maxRecDepth 100000
theorem Try.own : ownKnob Try.prog.godebug = none := by kernel_rfl
theorem Try.laidOut : laidOutB Try.prog = true := by kernel_rfl
theorem glob21 (w : World) : G.glob (mem w) (fun b => b < w.heap.size) w := ⟨fun g cs hg => (by cases hg), fun g p hg => (by cases hg)⟩
theorem calls_of_fun21 {f : FuncId} {args : List V} {vs : List Value} {u : Value} {w : World} (h : Fun G f args [] (RetV (.d (.lit u)) [])) (hl : vs.length = args.length)
    (hr : ∀ i (h : i < args.length) (h' : i < vs.length), Rep (mem w) [] args[i] vs[i]) : Calls Try.prog f vs.toArray w fun e w' => e = .returned u ∧ Below w.heap.size w w' := by
  refine (h.2 _ _ _ _ _ _ (glob21 w) (inv_start w) (fun _ => rfl) hl hr).mono fun e w' ⟨M', bm', tk', σ', o, ⟨h1, h2⟩, h3, h4, h5⟩ => ?_
  subst h1
  obtain ⟨v, h6, h7, -⟩ := h5.1 _ rfl
  cases h7 with
  | d h7 =>
  cases h7 with
  | lit _ _ => exact ⟨h6, h4.os, h4.tape, h4.output, h4.size, fun b hb => h4.keep b hb⟩
theorem lt_of_trod {H : Type} {enc : TypeId × Value → H} {w : World} {t : TypeId} {v : Value} {d : DataW H} {p : List MemPlace} {base : Nat} {spare : Nat → Bool} {held : Bool} (h : DataW.Trod enc Try.prog w base spare held t v d p) : ∀ x ∈ p, x.block < w.heap.size := by
  obtain ⟨m, hm⟩ := h
  exact DataW.trod_lt m _ _ _ hm
section
variable {H : Type} {enc : TypeId × Value → H} {w : World} {v : Value} {d : DataW H} {p : List MemPlace} {base : Nat} {spare : Nat → Bool} {held : Bool}
theorem int_trod (h : DataW.Trod enc Try.prog w base spare held 3 v d p) (hv : Value.okWide Try.prog w .any base 3 v) : ∃ n : Int, Rep (mem w) [] (V.d (dint n)) v := by
  obtain ⟨n, rfl⟩ := okWide_int Try.underlying3 hv
  obtain ⟨fuel, hf⟩ := h
  obtain ⟨o, g0, k0⟩ := int_reads Try.underlying3 hf
  cases g0
  exact ⟨n, .d (.lit _ k0)⟩
theorem pair_reads {n : Nat} {cs : List Value} {y : DataW H × List MemPlace} (h : DataW.trod enc Try.prog w base spare held n 31 cs = some y) : ∃ t : Int × Int, DReps (mem w) [dint t.1, dint t.2] cs := by
  obtain ⟨xs, m, rfl, -, hlen, hxs, hf⟩ := DataW.trod_array Try.underlying31 h
  rw [show Try.prog.cellsOf 31 = 2 by kernel_rfl] at hlen
  match cs, hlen with
  | [a, b], _ =>
    have hc : Try.prog.cellsOf 3 = 1 := by kernel_rfl
    have f0 := hf 0 (by omega)
    have f1 := hf 1 (by omega)
    rw [hc] at f0 f1
    have f0' : DataW.trod enc Try.prog w base spare held m 3 [a] = _ := f0.trans (List.getElem?_eq_getElem (by omega))
    have f1' : DataW.trod enc Try.prog w base spare held m 3 [b] = _ := f1.trans (List.getElem?_eq_getElem (by omega))
    obtain ⟨n0, g0, k0⟩ := int_reads Try.underlying3 f0'
    obtain ⟨n1, g1, k1⟩ := int_reads Try.underlying3 f1'
    cases g0; cases g1
    exact ⟨(n0, n1), .cons (.lit _ k0) (.cons (.lit _ k1) .nil)⟩
theorem rel_trod (h : DataW.Trod enc Try.prog w base spare held 22 v d p) (hv : Value.okWide Try.prog w .any base 22 v) : ∃ l : Rw, Rep (mem w) [] (V.d (drel l)) v := by
  obtain ⟨a, len, cap, rfl⟩ := okWide_slice Try.underlying22 hv
  obtain ⟨fuel, hf⟩ := h
  obtain ⟨l, v', h1, h2⟩ := slice_reads (cs := [.slice a len cap]) (k := 2) Try.underlying22 (by kernel_rfl) (by decide) (fun t : Int × Int => [dint t.1, dint t.2]) (fun _ => rfl) hf (fun n _ cs' y hy => pair_reads hy)
  cases h1
  exact ⟨l, .d h2⟩
end
end Go.Proofs.Ytinenohgemndiaa
