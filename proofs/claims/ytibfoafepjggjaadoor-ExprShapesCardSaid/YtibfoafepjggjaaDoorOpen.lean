/-
  An argument that reads as an expression is one.
-/
import Derived.Test.YtibfoafepjggjaaDoorRows
import Derived.Test.YtibfoafepjggjaaDoorData
import Derived.ProofKit
import Derived.Deep.Slices
namespace Go.Proofs.YtibfoafepjggjaaDoor
open Go.RowKit

theorem cell_spot {w : World} {a : Addr} {v : Value} (h : w.cell? a = some v) : a.spot = none := by
  unfold World.cell? at h
  split at h
  · split at h
    · cases h
    · rename_i hs; simpa using hs
  · cases h
instance : Inhabited Ex := ⟨.mk 0 0 ⟨#[]⟩ []⟩
theorem Tryd.cellsI : Tryd.prog.cellsOf 3 = 1 := by kernel_rfl
theorem Tryd.cellsS : Tryd.prog.cellsOf 9 = 1 := by kernel_rfl
theorem Tryd.cellsL : Tryd.prog.cellsOf 22 = 1 := by kernel_rfl
theorem Tryd.cellsX : Tryd.prog.cellsOf 24 = 4 := by kernel_rfl

set_option maxRecDepth 100000 in
theorem open_ex {H : Type} {enc : TypeId × Value → H} {W : World} {base : Nat} {spare : Nat → Bool} {held : Bool} : ∀ (fuel : Nat) (cs : List Value) (x : DataW H × List MemPlace),
    DataW.trod enc Tryd.prog W base spare held fuel 24 cs = some x → ∃ e, ExRep W e cs := by
  intro fuel
  induction fuel using Nat.strongRecOn with
  | ind fuel ih =>
  intro cs x h
  obtain ⟨xs, n, rfl, -, hlen, hxs, hf⟩ := DataW.trod_struct Tryd.underlying24 h
  rw [Tryd.cellsX] at hlen
  match cs, hlen with
  | [a, b, c, d], _ =>
    have hx4 : xs.length = 4 := hxs
    have e0 : xs[0]? = some (xs[0]'(by omega)) := List.getElem?_eq_getElem (by omega)
    have e1 : xs[1]? = some (xs[1]'(by omega)) := List.getElem?_eq_getElem (by omega)
    have e2 : xs[2]? = some (xs[2]'(by omega)) := List.getElem?_eq_getElem (by omega)
    have e3 : xs[3]? = some (xs[3]'(by omega)) := List.getElem?_eq_getElem (by omega)
    have f0 : DataW.trod enc Tryd.prog W base spare held n 3 [a] = _ := (hf 0 _ rfl).trans e0
    have f1 : DataW.trod enc Tryd.prog W base spare held n 3 [b] = _ := (hf 1 _ rfl).trans e1
    have f2 : DataW.trod enc Tryd.prog W base spare held n 9 [c] = _ := (hf 2 _ rfl).trans e2
    have f3 : DataW.trod enc Tryd.prog W base spare held n 22 [d] = _ := (hf 3 _ rfl).trans e3
    clear hf e0 e1 e2 e3
    obtain ⟨o, g0, -, w0⟩ := DataW.trod_int Tryd.underlying3 f0
    obtain ⟨m, g1, -, w1⟩ := DataW.trod_int Tryd.underlying3 f1
    obtain ⟨s, g2, -, w2⟩ := DataW.trod_string Tryd.underlying9 f2
    simp only [List.cons.injEq, and_true] at g0 g1 g2
    subst g0; subst g1; subst g2
    have b0 : -9223372036854775808 ≤ o ∧ o ≤ 9223372036854775807 := by have k1 : IntKind.i64.min = -9223372036854775808 := rfl; have k2 : IntKind.i64.max = 9223372036854775807 := rfl; simp [Lit.wf] at w0; omega
    have b1 : -9223372036854775808 ≤ m ∧ m ≤ 9223372036854775807 := by have k1 : IntKind.i64.min = -9223372036854775808 := rfl; have k2 : IntKind.i64.max = 9223372036854775807 := rfl; simp [Lit.wf] at w1; omega
    rcases DataW.trod_slice Tryd.underlying22 f3 with ⟨g3, -⟩ | ⟨ad, len, cap, elems, rest, n', hn', g3, -, hb, hl, hm, hlen2, hel, -, -⟩
    · simp only [List.cons.injEq, and_true] at g3
      subst g3
      exact ⟨.mk o m s [], .mk o m s [] _ [] rfl (fun i h => by simp at h) ⟨none, 0, rfl, Nat.le_refl _, by unfold maxLen; omega, fun i cs h => by simp at h⟩ b0 b1 w2⟩
    · simp only [List.cons.injEq, and_true] at g3
      subst g3
      have hsp : 0 < len → ad.spot = none := by
        intro hi
        have h1 := hel 0 hi
        rw [Tryd.cellsX, List.getElem?_eq_getElem (by omega)] at h1
        obtain ⟨cs', hc, ht⟩ := Option.bind_eq_some_iff.1 h1
        obtain ⟨-, hcl, hcc⟩ := World.cells?_some hc
        have h2 := hcc 0 (by omega)
        rw [List.getElem?_eq_getElem (by omega)] at h2
        have h3 := cell_spot h2
        simpa [Addr.add] using h3
      have hall : ∀ i, i < len → ∃ q : Ex × List Value, ad.spot = none ∧ CellsAt W ad.block (ad.off + i * 4) q.2 ∧ q.2.length = 4 ∧ ExRep W q.1 q.2 := by
        intro i hi
        have h1 := hel i hi
        rw [Tryd.cellsX, List.getElem?_eq_getElem (by omega)] at h1
        obtain ⟨cs', hc, ht⟩ := Option.bind_eq_some_iff.1 h1
        obtain ⟨e, he⟩ := ih n' (by omega) cs' _ ht
        obtain ⟨-, hcl, hcc⟩ := World.cells?_some hc
        have hs0 := hsp (by omega)
        refine ⟨(e, cs'), hs0, fun j v hv => ?_, hcl, he⟩
        have hj : j < 4 := by rw [← hcl]; exact (List.getElem?_eq_some_iff.1 hv).1
        have h2 := hcc j hj
        rw [hv] at h2
        have ha : (ad.add (i * 4)).add j = ⟨ad.block, ad.off + i * 4 + j, none⟩ := by
          cases ad
          simp only at hs0
          subst hs0
          unfold Addr.add
          by_cases h1 : i * 4 = 0
          · by_cases h2 : j = 0
            · subst h2; simp [h1]
            · simp [h1, h2]
          · by_cases h2 : j = 0
            · subst h2; simp [h1]
            · simp [h1, h2]
        rw [ha] at h2; exact h2
      obtain ⟨f, hfx⟩ := Go.Deep.choose_lt hall
      refine ⟨.mk o m s ((List.range len).map fun i => (f i).1), .mk o m s _ _ ((List.range len).map fun i => (f i).2) (by simp) (fun i h1 h2 => ?_) ?_ b0 b1 w2⟩
      · simp only [List.getElem_map, List.getElem_range]
        exact (hfx i (by simpa using h2)).2.2.2
      · refine ⟨some ad, cap, by simp, by simpa using hl, hm, fun i cs hi => ?_⟩
        have hlt : i < len := by have := (List.getElem?_eq_some_iff.1 hi).1; simpa using this
        have hcs : cs = (f i).2 := by simp [hlt] at hi; exact hi.symm
        subst hcs
        obtain ⟨k1, k2, k3, -⟩ := hfx i hlt
        exact ⟨ad.block, ad.off, by cases ad; simp_all, k3, k2⟩
end Go.Proofs.YtibfoafepjggjaaDoor
