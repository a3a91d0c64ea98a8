/-
  The examples' expression in memory. No program is in sight here.
-/
import Derived.Test.YtibfoafepjggjaaDoorExIn
import Derived.Test.YtibfoafepjggjaaDoorEnv
namespace Go.Proofs.YtibfoafepjggjaaDoor
open Go.RowKit

theorem slice2 {w : World} {b : Nat} {T : TypeId} {a0 a1 a2 a3 b0 b1 b2 b3 : Value} (h : w.heap[b]? = some (.cells #[a0, a1, a2, a3, b0, b1, b2, b3] T (0, 0))) :
    SliceAt w 4 (.slice (some ⟨b, 0, none⟩) 2 2) [[a0, a1, a2, a3], [b0, b1, b2, b3]] := by
  refine ⟨_, 2, rfl, Nat.le_refl _, by unfold maxLen; omega, fun i cs hi => ⟨b, 0, rfl, ?_⟩⟩
  match i, hi with
  | 0, hi =>
    simp at hi; subst hi
    refine ⟨rfl, fun j x hj => ?_⟩
    match j, hj with
    | 0, hj => simp at hj; subst hj; simp [World.cell?, h]
    | 1, hj => simp at hj; subst hj; simp [World.cell?, h]
    | 2, hj => simp at hj; subst hj; simp [World.cell?, h]
    | 3, hj => simp at hj; subst hj; simp [World.cell?, h]
    | j + 4, hj => simp at hj
  | 1, hi =>
    simp at hi; subst hi
    refine ⟨rfl, fun j x hj => ?_⟩
    match j, hj with
    | 0, hj => simp at hj; subst hj; simp [World.cell?, h]
    | 1, hj => simp at hj; subst hj; simp [World.cell?, h]
    | 2, hj => simp at hj; subst hj; simp [World.cell?, h]
    | 3, hj => simp at hj; subst hj; simp [World.cell?, h]
    | j + 4, hj => simp at hj
  | i + 2, hi => simp at hi

def exA1 : Ex := .mk 7 0 ⟨#[]⟩ [.mk 1 1 ⟨#[]⟩ [], .mk 1 2 ⟨#[]⟩ []]
def exA : Ex := .mk 9 0 ⟨#[]⟩ [exA1, .mk 2 0 ⟨#[120]⟩ []]

theorem leaf_rep (w : World) (o n : Int) (s : ByteArray) (ho : -9223372036854775808 ≤ o ∧ o ≤ 9223372036854775807) (hn : -9223372036854775808 ≤ n ∧ n ≤ 9223372036854775807) (hs : s.size ≤ maxLen) :
    ExRep w (.mk o n s []) [.int .i64 o, .int .i64 n, .string s, .slice none 0 0] :=
  .mk o n s [] (.slice none 0 0) [] rfl (fun i h => by simp at h) ⟨none, 0, rfl, Nat.le_refl _, by unfold maxLen; omega, fun i cs h => by simp at h⟩ ho hn hs
theorem pair_rep {w : World} {b : Nat} {T : TypeId} {a0 a1 a2 a3 b0 b1 b2 b3 : Value} {x y : Ex} (h : w.heap[b]? = some (.cells #[a0, a1, a2, a3, b0, b1, b2, b3] T (0, 0)))
    (hx : ExRep w x [a0, a1, a2, a3]) (hy : ExRep w y [b0, b1, b2, b3]) (o : Int) (ho : -9223372036854775808 ≤ o ∧ o ≤ 9223372036854775807) :
    ExRep w (.mk o 0 ⟨#[]⟩ [x, y]) [.int .i64 o, .int .i64 0, .string ⟨#[]⟩, .slice (some ⟨b, 0, none⟩) 2 2] := by
  refine .mk o 0 ⟨#[]⟩ [x, y] _ [[a0, a1, a2, a3], [b0, b1, b2, b3]] rfl (fun i h1 h2 => ?_) (slice2 h) ho (by omega) (by decide)
  match i, h1 with
  | 0, _ => exact hx
  | 1, _ => exact hy
theorem exA_val {w2 w3 : World} {T : TypeId} (h : Ext (w2.alloc (.cells #[.int .i64 1, .int .i64 1, .string ⟨#[]⟩, .slice none 0 0, .int .i64 1, .int .i64 2, .string ⟨#[]⟩, .slice none 0 0] T)) w3) {w4 : World}
    (h4 : Ext (w3.alloc (.cells #[.int .i64 7, .int .i64 0, .string ⟨#[]⟩, .slice (some ⟨w2.heap.size, 0, none⟩) 2 2, .int .i64 2, .int .i64 0, .string ⟨#[120]⟩, .slice none 0 0] T)) w4) :
    ExVal w4 exA (.agg #[.int .i64 9, .int .i64 0, .string ⟨#[]⟩, .slice (some ⟨w3.heap.size, 0, none⟩) 2 2]) := by
  have e2 : w3.heap[w2.heap.size]? = some (.cells #[.int .i64 1, .int .i64 1, .string ⟨#[]⟩, .slice none 0 0, .int .i64 1, .int .i64 2, .string ⟨#[]⟩, .slice none 0 0] T (0, 0)) := (h.same (by simp)).trans (heap_alloc_new _ _)
  have e4 : w4.heap[w3.heap.size]? = _ := (h4.same (by simp)).trans (heap_alloc_new _ _)
  have e3 : w4.heap[w2.heap.size]? = some (.cells #[.int .i64 1, .int .i64 1, .string ⟨#[]⟩, .slice none 0 0, .int .i64 1, .int .i64 2, .string ⟨#[]⟩, .slice none 0 0] T (0, 0)) := (h4.past.same (Array.getElem?_eq_some_iff.1 e2).1).trans e2
  exact ⟨_, pair_rep e4 (pair_rep e3 (leaf_rep _ 1 1 ⟨#[]⟩ (by omega) (by omega) (by decide)) (leaf_rep _ 1 2 ⟨#[]⟩ (by omega) (by omega) (by decide)) 7 (by omega)) (leaf_rep _ 2 0 ⟨#[120]⟩ (by omega) (by omega) (by decide)) 9 (by omega), rfl⟩
/-- The value of one signal in memory. -/
theorem sig1_val (w : World) (T : TypeId) : SigsVal ((w.alloc (.cells #[.string ⟨#[120]⟩, .int .i64 5] T))) [⟨⟨#[120]⟩, 5⟩] (.slice (some ⟨w.heap.size, 0, none⟩) 1 1) := by
  refine ⟨_, 1, rfl, Nat.le_refl _, by omega, fun i s hi => ?_⟩
  match i, hi with
  | 0, hi => simp at hi; subst hi; exact ⟨w.heap.size, 0, rfl, by simp [World.cell?_alloc_new], by simp [World.cell?_alloc_new]⟩
  | i + 1, hi => simp at hi
end Go.Proofs.YtibfoafepjggjaaDoor
