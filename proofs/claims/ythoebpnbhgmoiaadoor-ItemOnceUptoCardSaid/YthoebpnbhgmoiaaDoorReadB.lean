/-
  From the laid variable to Keys. From an argument that reads to plain data, with what else is known of the elements. No program is in sight here.
-/
import Derived.Test.YthoebpnbhgmoiaaDoorData
import Derived.Test.YthoebpnbhgmoiaaDoorNames
import Derived.LaidLaws
import Derived.Test.YthoebpnbhgmoiaaDoorEval
set_option linter.unusedVariables false
set_option linter.unusedSimpArgs false
set_option linter.unusedSectionVars false
namespace Go.Proofs.YthoebpnbhgmoiaaDoor
open Go.RowKit
theorem kwG : Tryd.prog.globalNamed "testbench/lexer.keywords" = some 0 := by kernel_rfl
theorem kwT : (Tryd.prog.globals[0]?).map (·.type) = some 45 := by kernel_rfl
theorem kwD : Rows.laid_testbench_lexer_keywords (H := Unit) = .slice (kwList.map fun s => .lit (.string s.data.toList)) [] := by kernel_rfl
theorem keys_of_laid {W : World} (h : laidMet Tryd.prog [("testbench/lexer.keywords", Rows.laid_testbench_lexer_keywords)] W) : Keys W := by
  obtain ⟨ps, ⟨g', t', cs, fuel, p, q, hg', ht', hvar, hd, -, -⟩, -⟩ := h
  obtain rfl := Option.some.inj (kwG.symm.trans hg')
  obtain rfl := Option.some.inj (kwT.symm.trans ht')
  rw [kwD] at hd
  rcases DataW.trod_slice Tryd.underlying45 hd with ⟨-, hx⟩ | ⟨ad, len, cap, elems, rest, n', hn', g3, hx, hb, hl, hm, hlen2, hel, -, -⟩
  · simp at hx
  · simp only [Prod.mk.injEq, DataW.slice.injEq] at hx
    obtain ⟨⟨hx1, -⟩, -⟩ := hx
    have hlen : len = kwList.length := by have h9 := congrArg List.length hx1; rw [List.length_map, List.length_map] at h9; rw [← hlen2, h9]
    have hc0 := World.var?_cell kwG hvar 0
    have hv : cs.toList[0]? = some (.slice (some ad) len cap) := by rw [g3]; rfl
    refine ⟨.slice (some ad) len cap, by rw [hc0]; simpa using hv, ?_⟩
    have hcell : ∀ i (hi : i < len), ∃ s : ByteArray, W.cell? (ad.add i) = some (.string s) ∧ kwList[i]? = some s := by
      intro i hi
      have h1 := hel i hi
      rw [Tryd.cellsS, List.getElem?_eq_getElem (by omega)] at h1
      obtain ⟨cs', hc, ht⟩ := Option.bind_eq_some_iff.1 h1
      obtain ⟨-, hcl, hcc⟩ := World.cells?_some hc
      obtain ⟨s, rfl, hs, -⟩ := DataW.trod_string Tryd.underlying9 ht
      have h2 := hcc 0 (by omega)
      refine ⟨s, by simpa [Addr.add] using h2, ?_⟩
      have h3 := congrArg (·[i]?) hx1
      simp only [List.getElem?_map, List.getElem?_eq_getElem (show i < elems.length by omega), Option.map_some, hs] at h3
      rw [Option.map_eq_some_iff] at h3
      obtain ⟨s', h4, h5⟩ := h3
      rw [h4]
      simp only [DataW.lit.injEq, Lit.string.injEq] at h5
      congr 1
      cases s'; cases s
      simp at h5
      simp [h5]
    have hsp : ad.spot = none := by
      obtain ⟨s, h1, -⟩ := hcell 0 (by rw [hlen]; decide)
      have := cell_spot h1
      simpa [Addr.add] using this
    rw [hlen]
    refine ⟨some ad, cap, rfl, by omega, hm, fun i s hi => ⟨ad.block, ad.off, by cases ad; simp_all, ?_⟩⟩
    obtain ⟨s', h1, h2⟩ := hcell i (by rw [hlen]; exact (List.getElem?_eq_some_iff.1 hi).1)
    rw [hi] at h2
    cases h2
    have ha : ad.add i = ⟨ad.block, ad.off + i, none⟩ := by
      cases ad
      simp only at hsp
      subst hsp
      unfold Addr.add
      by_cases h : i = 0
      · subst h; simp
      · simp [h]
    rw [ha] at h1; exact h1
end Go.Proofs.YthoebpnbhgmoiaaDoor
namespace Go.Proofs.YthoebpnbhgmoiaaDoor
open Go.RowKit
section
variable {H : Type} {enc : TypeId × Value → H} {P : Program} {W : World} {base : Nat} {spare : Nat → Bool} {held : Bool} {fuel : Nat} {t : TypeId} {cs : List Value} {x : DataW H × List MemPlace}
theorem slice_readsQ {e : TypeId} {k : Nat} (hu : P.underlying t = some (.slice e)) (hk : P.cellsOf e = k) (hk0 : 0 < k) {α : Type} [Inhabited α] (dr : α → List D) (hdr : ∀ a, (dr a).length = k) (Q : α → DataW H → Prop)
    (h : DataW.trod enc P W base spare held fuel t cs = some x) (he : ∀ n, n < fuel → ∀ cs' y, DataW.trod enc P W base spare held n e cs' = some y → ∃ a, DReps (mem W) (dr a) cs' ∧ Q a y.1) :
    ∃ (l : List α) (v : Value), cs = [v] ∧ DRep (mem W) (.sl (l.map dr)) v ∧ ((x.1 = .nil ∧ l = []) ∨ ∃ elems rest : List (DataW H), x.1 = .slice elems rest ∧ elems.length = l.length ∧ ∀ i (h : i < l.length) (h' : i < elems.length), Q l[i] elems[i]) := by
  rcases DataW.trod_slice hu h with ⟨rfl, hx⟩ | ⟨ad, len, cap, elems, rest, n', hn', rfl, hx, hb, hl, hm, hlen2, hel, -, -⟩
  · exact ⟨[], _, rfl, DRep.nil _, .inl ⟨by rw [hx], rfl⟩⟩
  · have hsp : 0 < len → ad.spot = none := by
      intro hi
      have h1 := hel 0 hi
      rw [hk, List.getElem?_eq_getElem (by omega)] at h1
      obtain ⟨cs', hc, ht⟩ := Option.bind_eq_some_iff.1 h1
      obtain ⟨-, hcl, hcc⟩ := World.cells?_some hc
      have h2 := hcc 0 hk0
      rw [List.getElem?_eq_getElem (by omega)] at h2
      have h3 := spot_of_cell h2
      simpa [Addr.add] using h3
    have hall : ∀ i, i < len → ∃ q : α × List Value, ad.spot = none ∧ (∀ j, j < k → mem W ad.block (ad.off + i * k + j) = some (q.2[j]?.getD .nilIface)) ∧ q.2.length = k ∧ DReps (mem W) (dr q.1) q.2 ∧ ∀ y, elems[i]? = some y → Q q.1 y.1 := by
      intro i hi
      have h1 := hel i hi
      rw [hk, List.getElem?_eq_getElem (by omega)] at h1
      obtain ⟨cs', hc, ht⟩ := Option.bind_eq_some_iff.1 h1
      obtain ⟨a, ha, hq⟩ := he n' (by omega) cs' _ ht
      obtain ⟨-, hcl, hcc⟩ := World.cells?_some hc
      have hs0 := hsp (by omega)
      refine ⟨(a, cs'), hs0, fun j hj => ?_, hcl, ha, fun y hy => by rw [List.getElem?_eq_getElem (by omega)] at hy; cases hy; exact hq⟩
      have h2 := hcc j hj
      rw [List.getElem?_eq_getElem (by omega)] at h2
      have ha : (ad.add (i * k)).add j = ⟨ad.block, ad.off + i * k + j, none⟩ := by
        cases ad
        simp only at hs0
        subst hs0
        unfold Addr.add
        by_cases h1 : i * k = 0
        · by_cases h2 : j = 0
          · subst h2; simp [h1]
          · simp [h1, h2]
        · by_cases h2 : j = 0
          · subst h2; simp [h1]
          · simp [h1, h2]
      rw [ha] at h2
      show mem W _ _ = some (cs'[j]?.getD .nilIface)
      rw [List.getElem?_eq_getElem (by omega), Option.getD_some]
      exact h2
    obtain ⟨f, hfx⟩ := Go.Deep.choose_lt hall
    refine ⟨(List.range len).map fun i => (f i).1, _, rfl, ?_, .inr ⟨_, _, by rw [hx], by simp [hlen2], fun i h1 h2 => ?_⟩⟩
    · have hlen : (((List.range len).map fun i => (f i).1).map dr).length = len := by simp
      generalize hrs : ((List.range len).map fun i => (f i).1).map dr = rows at hlen
      have hri : ∀ i (h : i < rows.length), rows[i] = dr (f i).1 := fun i h => by subst hrs; simp
      subst hlen
      refine .sl rows k (some ad) cap (fun i j => (f i).2[j]?.getD .nilIface) (fun r hr => ?_) (fun i j hi hj => ?_) (fun i hi => ?_) hl hm
      · obtain ⟨i, hi, rfl⟩ := List.getElem_of_mem hr
        rw [hri i hi]; exact hdr _
      · obtain ⟨k1, k2, k3, k4, -⟩ := hfx i hi
        have hjk : j < k := by rw [hri i hi, hdr] at hj; exact hj
        simp only [hri i hi]
        rw [List.getElem?_eq_getElem (by omega : j < (f i).2.length), Option.getD_some]
        exact k4.2 j (by rw [hdr]; exact hjk) (by omega)
      · obtain ⟨k1, k2, k3, k4, -⟩ := hfx i hi
        exact ⟨ad.block, ad.off, by cases ad; simp_all, fun j hj => k2 j hj⟩
    · have hi : i < len := by simpa using h1
      obtain ⟨-, -, -, -, hq⟩ := hfx i hi
      simp only [List.getElem_map, List.getElem_range]
      exact hq _ (List.getElem?_eq_getElem (by omega))
end
end Go.Proofs.YthoebpnbhgmoiaaDoor
