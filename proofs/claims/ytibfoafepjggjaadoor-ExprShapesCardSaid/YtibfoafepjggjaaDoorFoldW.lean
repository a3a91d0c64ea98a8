/-
  Walks: Fold.
-/
import Derived.Test.YtibfoafepjggjaaDoorFold
import Derived.Test.YtibfoafepjggjaaDoorValid
namespace Go.Proofs.YtibfoafepjggjaaDoor
open Go.RowKit

def FoldE (e : Ex) : Ex := if validE e = 0 then foldE e else e
set_option maxRecDepth 100000 in
theorem Fold_any (e : Ex) (hs : Slim e) (v : Value) (w : World) (hv : ExVal w e v) (hk : Keys w) (hd : edepth e ≤ 1000000) (hz : esize e ≤ 1000000) :
    Calls Tryd.prog 35 #[v] w (RetEx (fun _ => False) (FoldE e) w) := by
  have h1 := fun w1 (hx : Ext w w1) => valid_any e w1 v (hv.ext hx) (hk.ext hx) hd hz
  have h2 := fun w1 (hx : Ext w w1) => copied_any e hs v w1 (hv.ext hx)
  have h3 := fun w1 (hx : Ext w w1) (he : validE e = 0) => fold_any e (validE_err he) v w1 (hv.ext hx)
  obtain ⟨R, hR⟩ : ∃ R, R = FoldE e := ⟨_, rfl⟩
  rw [← hR]
  unfold FoldE at hR
  have HR := Lib.hid hR; clear hR
  obtain ⟨p, cp, rfl, -⟩ := ex_open hv
  have H1 := Lib.hid h1; clear h1
  have H2 := Lib.hid h2; clear h2
  have H3 := Lib.hid h3; clear h3
  clear hv hk
  generalize validE e = y at *
  go_enter Tryd.func35, Tryd.ntmps35
  by_cases hy : (y == 0) = true
  · have hn : (y != 0) = false := by simpa using hy
    have hy0 : y = 0 := by simpa using hy
    have HY0 := Lib.hid hy0; clear hy0
    have HX0 := Lib.hid (((Ext.refl w).alloc (.cells #[.int .i64 e.op, .int .i64 e.num, .string e.name, .slice p e.args.length cp] 24)).alloc (.cells #[.int .i64 0, .int .i64 0, .string ⟨#[]⟩, .slice none 0 0] 24))
    go_wp2_with (go_at_call 22; refine (H1.out _ HX0.out).mono ?_; rintro e w' ⟨rfl, hx⟩; obtain ⟨c0, c1, c2, c3⟩ := St4.cells hx.two4.1; have HX1 := Lib.hid hx; clear hx)
    have hRe : R = foldE e := by rw [HR.out, if_pos HY0.out]
    refine (H3.out _ HX1.out.past.past HY0.out).mono ?_
    rintro en w2 ⟨cs2, rfl, hcs2, hy⟩
    obtain ⟨k0, k1, k2, k3, k4, k5, rfl⟩ := ex_cells hcs2
    have hyx := HX1.out.trans hy
    obtain ⟨hs1, hs2⟩ := hyx.two4
    obtain ⟨d0, d1, d2, d3⟩ := St4.cells hs2
    obtain ⟨g0, g1, g2, g3⟩ := St4.frozen hs2
    clear hs1 hs2
    have hsz : w.heap.size + 1 < w'.heap.size := by have := HX1.out.size; simp at this; omega
    have hend := RetEx.end4 (B := w.heap.size + 1) (D0 := fun _ => False) hyx.past.past (hcs2.mono (D' := fun k => False ∨ w.heap.size + 2 ≤ k) (fun b hb _ => hb.imp id (fun h => by omega))) (Nat.le_succ _) (Nat.lt_succ_self _) (fun _ h => h.elim)
    rw [← hRe] at hend
    have HEND := Lib.hid hend; clear hend hcs2 hyx hy hRe
    go_wp2_with fail
    refine bodyPost_ret (v := .agg #[.int .i64 k0, .int .i64 k1, .string k2, .slice k3 k4 k5]) (by simp [results, Tryd.results35, go_sem, d0, d1, d2, d3]) rfl ?_
    exact HEND.out
  · have hn : (y != 0) = true := by simpa using hy
    have hy0 : ¬ y = 0 := by simpa using hy
    have HY0 := Lib.hid hy0; clear hy0
    have HX0 := Lib.hid (((Ext.refl w).alloc (.cells #[.int .i64 e.op, .int .i64 e.num, .string e.name, .slice p e.args.length cp] 24)).alloc (.cells #[.int .i64 0, .int .i64 0, .string ⟨#[]⟩, .slice none 0 0] 24))
    go_wp2_with (go_at_call 22; refine (H1.out _ HX0.out).mono ?_; rintro e w' ⟨rfl, hx⟩; obtain ⟨c0, c1, c2, c3⟩ := St4.cells hx.two4.1; have HX1 := Lib.hid hx; clear hx)
    have hRe : R = e := by rw [HR.out, if_neg HY0.out]
    refine (H2.out _ HX1.out.past.past).mono ?_
    rintro en w2 ⟨cs2, rfl, hcs2, hy⟩
    obtain ⟨k0, k1, k2, k3, k4, k5, rfl⟩ := ex_cells hcs2
    have hyx := HX1.out.trans hy
    obtain ⟨hs1, hs2⟩ := hyx.two4
    obtain ⟨d0, d1, d2, d3⟩ := St4.cells hs2
    obtain ⟨g0, g1, g2, g3⟩ := St4.frozen hs2
    clear hs1 hs2
    have hsz : w.heap.size + 1 < w'.heap.size := by have := HX1.out.size; simp at this; omega
    have hend := RetEx.end4 (B := w.heap.size + 1) (D0 := fun _ => False) hyx.past.past (hcs2.mono (D' := fun k => False ∨ w.heap.size + 2 ≤ k) (fun b hb _ => hb.imp id (fun h => by omega))) (Nat.le_succ _) (Nat.lt_succ_self _) (fun _ h => h.elim)
    rw [← hRe] at hend
    have HEND := Lib.hid hend; clear hend hcs2 hyx hy hRe
    go_wp2_with fail
    refine bodyPost_ret (v := .agg #[.int .i64 k0, .int .i64 k1, .string k2, .slice k3 k4 k5]) (by simp [results, Tryd.results35, go_sem, d0, d1, d2, d3]) rfl ?_
    exact HEND.out
end Go.Proofs.YtibfoafepjggjaaDoor
