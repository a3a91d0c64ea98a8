/-
  From the laid variables into the plain world: keywords, marks, the table of powers, the library's errors.
-/
import Derived.Test.YteopfpebdalcoaaGreatDoorVal7
import Derived.Test.YteopfpebdalcoaaGreatDoorNum1
import Derived.Test.YteopfpebdalcoaaGreatDoorRows
import Derived.LaidLaws
import Derived.Lib.LaidTab
import Derived.OpenShut
set_option linter.unusedVariables false
set_option linter.unusedSimpArgs false
set_option linter.unusedSectionVars false
namespace Go.Proofs.YteopfpebdalcoaaGreatDoor
open Go.RowKit
theorem laidVars_at {P : Program} {W : World} {n : String} {d : DataW Unit} : ∀ {l : List (String × DataW Unit)} {ps : List MemPlace}, DataW.LaidVars P W l ps → (n, d) ∈ l →
    ∃ g t cs fuel p, P.globalNamed n = some g ∧ (P.globals[g]?).map (·.type) = some t ∧ W.var? P n = some cs ∧ DataW.trod (fun _ => ()) P W 0 (fun _ => true) false fuel t cs.toList = some (d, p)
  | [], _, _, h => by cases h
  | (n', d') :: r, ps, hv, h => by
    obtain ⟨g, t, cs, fuel, p, q, h1, h2, h3, h4, h5, -⟩ := hv
    rcases List.mem_cons.1 h with h | h
    · cases h; exact ⟨g, t, cs, fuel, p, h1, h2, h3, h4⟩
    · exact laidVars_at h5 h
theorem strs_of_laid {W : World} {n : String} {g : Nat} {l : List ByteArray} {d : DataW Unit} (hg : Tryz.prog.globalNamed n = some g) (ht : (Tryz.prog.globals[g]?).map (·.type) = some 44) (hd : d = .slice (l.map fun s => .lit (.string s.data.toList)) []) (hl : 0 < l.length)
    {cs : Array Value} {fuel : Nat} {p : List MemPlace} (hvar : W.var? Tryz.prog n = some cs) (hr : DataW.trod (fun _ => ()) Tryz.prog W 0 (fun _ => true) false fuel 44 cs.toList = some (d, p)) : ∃ v, W.cell? ⟨g, 0, none⟩ = some v ∧ StrsVal W l v := by
  subst hd
  rcases DataW.trod_slice Tryz.underlying44 hr with ⟨-, hx⟩ | ⟨ad, len, cap, elems, rest, n', hn', g3, hx, hb, hl', hm, hlen2, hel, -, -⟩
  · simp at hx
  · simp only [Prod.mk.injEq, DataW.slice.injEq] at hx
    obtain ⟨⟨hx1, -⟩, -⟩ := hx
    have hlen : len = l.length := by have h9 := congrArg List.length hx1; rw [List.length_map, List.length_map] at h9; rw [← hlen2, h9]
    have hc0 := World.var?_cell hg hvar 0
    have hv : cs.toList[0]? = some (.slice (some ad) len cap) := by rw [g3]; rfl
    refine ⟨.slice (some ad) len cap, by rw [hc0]; simpa using hv, ?_⟩
    have hcell : ∀ i (hi : i < len), ∃ s : ByteArray, W.cell? (ad.add i) = some (.string s) ∧ l[i]? = some s := by
      intro i hi
      have h1 := hel i hi
      rw [show Tryz.prog.cellsOf 9 = 1 by kernel_rfl, Nat.mul_one, List.getElem?_eq_getElem (by omega)] at h1
      obtain ⟨cs', hc, ht⟩ := Option.bind_eq_some_iff.1 h1
      obtain ⟨-, hcl, hcc⟩ := World.cells?_some hc
      obtain ⟨s, rfl, hs, -⟩ := DataW.trod_string Tryz.underlying9 ht
      have h2 := hcc 0 (by omega)
      refine ⟨s, by simpa [Addr.add] using h2, ?_⟩
      have h3 := congrArg (·[i]?) hx1
      simp only [List.getElem?_map, List.getElem?_eq_getElem (show i < elems.length by omega), Option.map_some, hs] at h3
      rw [Option.map_eq_some_iff] at h3
      obtain ⟨s', h4, h5⟩ := h3
      rw [h4]
      simp only [DataW.lit.injEq, Lit.string.injEq] at h5
      congr 1
      cases s'; cases s
      simp at h5
      simp [h5]
    have hsp : ad.spot = none := by
      obtain ⟨s, h1, -⟩ := hcell 0 (by rw [hlen]; exact hl)
      have := cell_spot h1
      simpa [Addr.add] using this
    rw [hlen]
    refine ⟨some ad, cap, rfl, by omega, hm, fun i s hi => ⟨ad.block, ad.off, by cases ad; simp_all, ?_⟩⟩
    obtain ⟨s', h1, h2⟩ := hcell i (by rw [hlen]; exact (List.getElem?_eq_some_iff.1 hi).1)
    rw [hi] at h2
    cases h2
    have ha : ad.add i = ⟨ad.block, ad.off + i, none⟩ := by
      cases ad
      simp only at hsp
      subst hsp
      unfold Addr.add
      by_cases h : i = 0
      · subst h; simp
      · simp [h]
    rw [ha] at h1; exact h1
theorem drep_strs {w : World} {l : List ByteArray} {v : Value} (h : StrsVal w l v) (hs : ∀ s, s ∈ l → s.size ≤ maxLen) : DRep (mem w) (dstrs l) v := by
  obtain ⟨p, cap, rfl, h4, h5, h6⟩ := h
  have hlen : l.length = (l.map fun s => [dstr s]).length := by simp
  unfold dstrs
  rw [hlen]
  refine .sl _ 1 p cap (fun i _ => .string (l[i]?.getD ⟨#[]⟩)) (fun r hr => ?_) (fun i j hi hj => ?_) (fun i hi => ?_) (by omega) h5
  · obtain ⟨s, -, rfl⟩ := List.mem_map.1 hr
    rfl
  · have hi' : i < l.length := by simpa using hi
    have hj0 : j = 0 := by simpa using hj
    subst hj0
    simp only [List.getElem_map, List.getElem_cons_zero, List.getElem?_eq_getElem hi', Option.getD_some]
    exact .lit _ (hs _ (List.getElem_mem hi'))
  · have hi' : i < l.length := by simpa using hi
    obtain ⟨b, off, h7, h8⟩ := h6 i _ (List.getElem?_eq_getElem hi')
    refine ⟨b, off, h7, fun j hj => ?_⟩
    have hj0 : j = 0 := by omega
    subst hj0
    simp only [List.getElem?_eq_getElem hi', Option.getD_some]
    simpa [mem] using h8
def row7 : List (String × DataW Unit) := [("math/bits.deBruijn32tab", Rows.laid_math_bits_deBruijn32tab), ("math/bits.deBruijn64tab", Rows.laid_math_bits_deBruijn64tab), ("internal/strconv.uint64pow10", Rows.laid_internal_strconv_uint64pow10), ("strconv.ErrRange", Rows.laid_strconv_ErrRange), ("strconv.ErrSyntax", Rows.laid_strconv_ErrSyntax), ("testbench/lexer.keywords", Rows.laid_testbench_lexer_keywords), ("testbench/lexer.marks", Rows.laid_testbench_lexer_marks)]
theorem glob7 {w : World} (h : laidMet Tryz.prog row7 w) : G.glob (mem w) (fun b => b < w.heap.size) w := by
  obtain ⟨ps, hv, -, hpl⟩ := h
  have at' := fun n d => @laidVars_at Tryz.prog w n d row7 ps hv
  refine ⟨fun g cs hg => ?_, fun g p hg => ?_⟩
  · change (if g = 1 then some [dstrs kwList] else if g = 0 then some [.sl (markList.map fun s => [.lit (.string (bs s))])] else none) = some cs at hg
    have fin : ∀ (l : List ByteArray), (∃ v, w.cell? ⟨g, 0, none⟩ = some v ∧ StrsVal w l v) → (∀ s, s ∈ l → s.size ≤ maxLen) → cs = [dstrs l] → ∃ val : Nat → Value, (∀ j, j < cs.length → mem w g j = some (val j)) ∧ ∀ j (h : j < cs.length), DRep (mem w) cs[j] (val j) := by
      rintro l ⟨v, h1, h2⟩ hs rfl
      refine ⟨fun _ => v, fun j hj => ?_, fun j hj => ?_⟩
      · have hj0 : j = 0 := by simpa using hj
        subst hj0; exact h1
      · have hj0 : j = 0 := by simpa using hj
        subst hj0; exact drep_strs h2 hs
    split at hg
    · rename_i e
      subst e
      obtain ⟨g', t, vs, fuel, p, h1, h2, h3, h4⟩ := at' "testbench/lexer.keywords" Rows.laid_testbench_lexer_keywords (by simp [row7])
      obtain rfl := Option.some.inj ((show Tryz.prog.globalNamed "testbench/lexer.keywords" = some 1 by kernel_rfl).symm.trans h1)
      obtain rfl := Option.some.inj ((show (Tryz.prog.globals[1]?).map (·.type) = some 44 by kernel_rfl).symm.trans h2)
      exact fin kwList (strs_of_laid h1 h2 (show Rows.laid_testbench_lexer_keywords (H := Unit) = .slice (kwList.map fun s => .lit (.string s.data.toList)) [] by kernel_rfl) (by decide) h3 h4) (by decide +kernel) (by simpa using hg.symm)
    · split at hg
      · rename_i e
        subst e
        obtain ⟨g', t, vs, fuel, p, h1, h2, h3, h4⟩ := at' "testbench/lexer.marks" Rows.laid_testbench_lexer_marks (by simp [row7])
        obtain rfl := Option.some.inj ((show Tryz.prog.globalNamed "testbench/lexer.marks" = some 0 by kernel_rfl).symm.trans h1)
        obtain rfl := Option.some.inj ((show (Tryz.prog.globals[0]?).map (·.type) = some 44 by kernel_rfl).symm.trans h2)
        exact fin markSs (strs_of_laid h1 h2 (show Rows.laid_testbench_lexer_marks (H := Unit) = .slice (markSs.map fun s => .lit (.string s.data.toList)) [] by kernel_rfl) (by decide) h3 h4) (by decide +kernel) (by have := Option.some.inj hg; rw [← this]; unfold dstrs markSs; rw [List.map_map]; rfl)
      · cases hg
  · have block : ∀ {n : String} {g : Nat} {cs : Array Value}, Tryz.prog.globalNamed n = some g → w.var? Tryz.prog n = some cs → g < w.heap.size ∧ ∃ T z, w.heap[g]? = some (.cells cs T z) := by
      intro n g cs h1 h2
      unfold World.var? at h2
      rw [h1, Option.bind_some] at h2
      split at h2
      · rename_i cs' T z hh
        cases h2
        exact ⟨(Array.getElem?_eq_some_iff.1 hh).1, T, z, hh⟩
      · cases h2
    change (if g = 3 then some (fun cs => cs = (Lib.pow10Tab.map fun z => Value.int .u64 z).toArray) else if g = 5 then some (fun cs => ∃ t x, cs[0]? = some (.iface t x)) else none) = some p at hg
    split at hg
    · rename_i e
      subst e
      cases hg
      obtain ⟨g', t, vs, fuel, p, h1, h2, h3, h4⟩ := at' "internal/strconv.uint64pow10" Rows.laid_internal_strconv_uint64pow10 (by simp [row7])
      obtain rfl := Option.some.inj ((show Tryz.prog.globalNamed "internal/strconv.uint64pow10" = some 3 by kernel_rfl).symm.trans h1)
      obtain rfl := Option.some.inj ((show (Tryz.prog.globals[3]?).map (·.type) = some 144 by kernel_rfl).symm.trans h2)
      obtain ⟨k1, T, z, k2⟩ := block h1 h3
      refine ⟨k1, vs, T, z, k2, ?_⟩
      have e : Rows.laid_internal_strconv_uint64pow10 (H := Unit) = Lib.tabData .u64 Lib.pow10Tab := by kernel_rfl
      rw [e] at h4
      have := Lib.cells_of_tab (n := 20) Tryz.underlying144 Tryz.underlying131 (by kernel_rfl) (by kernel_rfl) h4
      rw [← this]
    · split at hg
      · rename_i e
        subst e
        cases hg
        obtain ⟨g', t, vs, fuel, p, h1, h2, h3, h4⟩ := at' "strconv.ErrRange" Rows.laid_strconv_ErrRange (by simp [row7])
        obtain rfl := Option.some.inj ((show Tryz.prog.globalNamed "strconv.ErrRange" = some 5 by kernel_rfl).symm.trans h1)
        obtain rfl := Option.some.inj ((show (Tryz.prog.globals[5]?).map (·.type) = some 92 by kernel_rfl).symm.trans h2)
        obtain ⟨k1, T, z, k2⟩ := block h1 h3
        refine ⟨k1, vs, T, z, k2, ?_⟩
        cases fuel with
        | zero => simp [DataW.trod] at h4
        | succ fuel =>
          obtain ⟨ms, hms⟩ : ∃ ms, Tryz.prog.underlying 92 = some (.interface ms) := ⟨_, Tryz.underlying92⟩
          unfold DataW.trod at h4
          rw [hms] at h4
          have hl : ∃ a, vs.toList = [a] ∧ ∃ t x, a = .iface t x := by
            split at h4 <;> simp_all [Rows.laid_strconv_ErrRange]
          obtain ⟨a, ha, t, x, rfl⟩ := hl
          exact ⟨t, x, by rw [← Array.getElem?_toList, ha]; rfl⟩
      · cases hg
theorem calls_of_fun7 {f : FuncId} {args : List V} {vs : List Value} {u : Value} {w : World} (hk : laidMet Tryz.prog row7 w) (h : Fun G f args [] (RetV (.d (.lit u)) [])) (hl : vs.length = args.length)
    (hr : ∀ i (h : i < args.length) (h' : i < vs.length), Rep (mem w) [] args[i] vs[i]) : Calls Tryz.prog f vs.toArray w fun e w' => e = .returned u ∧ Ext w w' := by
  refine (h.2 _ _ _ _ _ _ (glob7 hk) (inv_start w) (fun _ => rfl) hl hr).mono fun e w' ⟨M', bm', tk', σ', o, ⟨h1, h2⟩, h3, h4, h5⟩ => ?_
  subst h1
  obtain ⟨v, h6, h7, -⟩ := h5.1 _ rfl
  cases h7 with
  | d h7 =>
  cases h7 with
  | lit _ _ => exact ⟨h6, h4.os, h4.tape, h4.output, h4.size, fun b hb => h4.keep b hb⟩
end Go.Proofs.YteopfpebdalcoaaGreatDoor
