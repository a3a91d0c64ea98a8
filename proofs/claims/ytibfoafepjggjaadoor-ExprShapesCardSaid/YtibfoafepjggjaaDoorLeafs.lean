/-
  Walks: number, variable.
-/
import Derived.Test.YtibfoafepjggjaaDoorSubst2
namespace Go.Proofs.YtibfoafepjggjaaDoor
open Go.RowKit

theorem one4 (w : World) (T : TypeId) (a b c d : Value) : St4 w.heap.size T a b c d (w.alloc (.cells #[a, b, c, d] T)) := heap_alloc_new _ _

/-- An expression without operands, in cells. -/
theorem ex_leaf (D : Nat → Prop) (w : World) (o n : Int) (s : ByteArray) (ho : -9223372036854775808 ≤ o ∧ o ≤ 9223372036854775807) (hn : -9223372036854775808 ≤ n ∧ n ≤ 9223372036854775807) (hs : s.size ≤ maxLen) :
    ExIn D w (.mk o n s []) [.int .i64 o, .int .i64 n, .string s, .slice none 0 0] :=
  .mk o n s [] (.slice none 0 0) [] rfl (fun i h => by simp at h) ⟨none, 0, rfl, Nat.le_refl _, by unfold maxLen; omega, fun i cs h => by simp at h⟩ ho hn hs

set_option maxRecDepth 100000 in
theorem number_any (n : Int) (hn : -9223372036854775808 ≤ n ∧ n ≤ 9223372036854775807) (w : World) : Calls Tryd.prog 34 #[.int .i64 n] w (RetEx (fun _ => False) (.mk 1 n ⟨#[]⟩ []) w) := by
  obtain ⟨d0, d1, d2, d3⟩ := St4.cells (one4 w 24 (.int .i64 0) (.int .i64 0) (.string ⟨#[]⟩) (.slice none 0 0))
  obtain ⟨g0, g1, g2, g3⟩ := St4.frozen (one4 w 24 (.int .i64 0) (.int .i64 0) (.string ⟨#[]⟩) (.slice none 0 0))
  go_enter Tryd.func34, Tryd.ntmps34
  go_wp2_with fail
  refine bodyPost_ret (v := .agg #[.int .i64 1, .int .i64 n, .string ⟨#[]⟩, .slice none 0 0]) (by simp [results, Tryd.results34, go_sem, d0, d1, d2, d3]) rfl ?_
  exact ⟨_, rfl, ex_leaf _ _ 1 n ⟨#[]⟩ (by omega) hn (by decide), (Ext.refl w).alloc _⟩

set_option maxRecDepth 100000 in
theorem variable_any (s : ByteArray) (hs : s.size ≤ maxLen) (w : World) : Calls Tryd.prog 32 #[.string s] w (RetEx (fun _ => False) (.mk 2 0 s []) w) := by
  obtain ⟨d0, d1, d2, d3⟩ := St4.cells (one4 w 24 (.int .i64 0) (.int .i64 0) (.string ⟨#[]⟩) (.slice none 0 0))
  obtain ⟨g0, g1, g2, g3⟩ := St4.frozen (one4 w 24 (.int .i64 0) (.int .i64 0) (.string ⟨#[]⟩) (.slice none 0 0))
  go_enter Tryd.func32, Tryd.ntmps32
  go_wp2_with fail
  refine bodyPost_ret (v := .agg #[.int .i64 2, .int .i64 0, .string s, .slice none 0 0]) (by simp [results, Tryd.results32, go_sem, d0, d1, d2, d3]) rfl ?_
  exact ⟨_, rfl, ex_leaf _ _ 2 0 s (by omega) (by omega) hs, (Ext.refl w).alloc _⟩
theorem number_val (n : Int) (w : World) : Calls Tryd.prog 34 #[.int .i64 n] w (fun en w' => en = .returned (.agg #[.int .i64 1, .int .i64 n, .string ⟨#[]⟩, .slice none 0 0]) ∧ Ext w w') := by
  obtain ⟨d0, d1, d2, d3⟩ := St4.cells (one4 w 24 (.int .i64 0) (.int .i64 0) (.string ⟨#[]⟩) (.slice none 0 0))
  obtain ⟨g0, g1, g2, g3⟩ := St4.frozen (one4 w 24 (.int .i64 0) (.int .i64 0) (.string ⟨#[]⟩) (.slice none 0 0))
  go_enter Tryd.func34, Tryd.ntmps34
  go_wp2_with fail
  refine bodyPost_ret (v := .agg #[.int .i64 1, .int .i64 n, .string ⟨#[]⟩, .slice none 0 0]) (by simp [results, Tryd.results34, go_sem, d0, d1, d2, d3]) rfl ?_
  exact ⟨rfl, (Ext.refl w).alloc _⟩
theorem variable_val (s : ByteArray) (w : World) : Calls Tryd.prog 32 #[.string s] w (fun en w' => en = .returned (.agg #[.int .i64 2, .int .i64 0, .string s, .slice none 0 0]) ∧ Ext w w') := by
  obtain ⟨d0, d1, d2, d3⟩ := St4.cells (one4 w 24 (.int .i64 0) (.int .i64 0) (.string ⟨#[]⟩) (.slice none 0 0))
  obtain ⟨g0, g1, g2, g3⟩ := St4.frozen (one4 w 24 (.int .i64 0) (.int .i64 0) (.string ⟨#[]⟩) (.slice none 0 0))
  go_enter Tryd.func32, Tryd.ntmps32
  go_wp2_with fail
  refine bodyPost_ret (v := .agg #[.int .i64 2, .int .i64 0, .string s, .slice none 0 0]) (by simp [results, Tryd.results32, go_sem, d0, d1, d2, d3]) rfl ?_
  exact ⟨rfl, (Ext.refl w).alloc _⟩
end Go.Proofs.YtibfoafepjggjaaDoor
