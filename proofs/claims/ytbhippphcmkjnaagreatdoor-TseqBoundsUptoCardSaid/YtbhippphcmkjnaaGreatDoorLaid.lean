/-
  From the laid variable to Keys.
-/
import Derived.Test.YtbhippphcmkjnaaGreatDoorData
import Derived.Test.YtbhippphcmkjnaaGreatDoorNames
import Derived.LaidLaws
set_option linter.unusedVariables false
set_option linter.unusedSimpArgs false
namespace Go.Proofs.YtbhippphcmkjnaaGreatDoor
open Go.RowKit

theorem kwG : Tryz.prog.globalNamed "testbench/lexer.keywords" = some 0 := by kernel_rfl
theorem kwT : (Tryz.prog.globals[0]?).map (·.type) = some 34 := by kernel_rfl
theorem kwD : Rows.laid_testbench_lexer_keywords (H := Unit) = .slice (kwList.map fun s => .lit (.string s.data.toList)) [] := by kernel_rfl

theorem keys_of_laid {W : World} (h : laidMet Tryz.prog [("testbench/lexer.keywords", Rows.laid_testbench_lexer_keywords)] W) : Keys W := by
  obtain ⟨ps, ⟨g', t', cs, fuel, p, q, hg', ht', hvar, hd, -, -⟩, -⟩ := h
  obtain rfl := Option.some.inj (kwG.symm.trans hg')
  obtain rfl := Option.some.inj (kwT.symm.trans ht')
  rw [kwD] at hd
  rcases DataW.trod_slice Tryz.underlying34 hd with ⟨-, hx⟩ | ⟨ad, len, cap, elems, rest, n', hn', g3, hx, hb, hl, hm, hlen2, hel, -, -⟩
  · simp at hx
  · simp only [Prod.mk.injEq, DataW.slice.injEq] at hx
    obtain ⟨⟨hx1, -⟩, -⟩ := hx
    have hlen : len = kwList.length := by have h9 := congrArg List.length hx1; rw [List.length_map, List.length_map] at h9; rw [← hlen2, h9]
    have hc0 := World.var?_cell kwG hvar 0
    have hv : cs.toList[0]? = some (.slice (some ad) len cap) := by rw [g3]; rfl
    refine ⟨.slice (some ad) len cap, by rw [hc0]; simpa using hv, ?_⟩
    have hcell : ∀ i (hi : i < len), ∃ s : ByteArray, W.cell? (ad.add i) = some (.string s) ∧ kwList[i]? = some s := by
      intro i hi
      have h1 := hel i hi
      rw [Tryz.cellsS, List.getElem?_eq_getElem (by omega)] at h1
      obtain ⟨cs', hc, ht⟩ := Option.bind_eq_some_iff.1 h1
      obtain ⟨-, hcl, hcc⟩ := World.cells?_some hc
      obtain ⟨s, rfl, hs, -⟩ := DataW.trod_string Tryz.underlying9 ht
      have h2 := hcc 0 (by omega)
      refine ⟨s, by simpa [Addr.add] using h2, ?_⟩
      have h3 := congrArg (·[i]?) hx1
      simp only [List.getElem?_map, List.getElem?_eq_getElem (show i < elems.length by omega), Option.map_some, hs] at h3
      rw [Option.map_eq_some_iff] at h3
      obtain ⟨s', h4, h5⟩ := h3
      rw [h4]
      simp only [DataW.lit.injEq, Lit.string.injEq] at h5
      congr 1
      cases s'; cases s
      simp at h5
      simp [h5]
    have hsp : ad.spot = none := by
      obtain ⟨s, h1, -⟩ := hcell 0 (by rw [hlen]; decide)
      have := cell_spot h1
      simpa [Addr.add] using this
    rw [hlen]
    refine ⟨some ad, cap, rfl, by omega, hm, fun i s hi => ⟨ad.block, ad.off, by cases ad; simp_all, ?_⟩⟩
    obtain ⟨s', h1, h2⟩ := hcell i (by rw [hlen]; exact (List.getElem?_eq_some_iff.1 hi).1)
    rw [hi] at h2
    cases h2
    have ha : ad.add i = ⟨ad.block, ad.off + i, none⟩ := by
      cases ad
      simp only at hsp
      subst hsp
      unfold Addr.add
      by_cases h : i = 0
      · subst h; simp
      · simp [h]
    rw [ha] at h1; exact h1
end Go.Proofs.YtbhippphcmkjnaaGreatDoor
