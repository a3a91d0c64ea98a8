/-
  Walks: rebuilt, copied.
-/
import Derived.Test.YtibfoafepjggjaaDoorExIn
import Derived.Test.YtibfoafepjggjaaDoorSizes
namespace Go.Proofs.YtibfoafepjggjaaDoor
open Go.RowKit

/-- A list of expressions that a call builds: what it has so far. -/
structure Built (D0 : Nat → Prop) (B : Nat) (rs : List Ex) (u : Value) (css : List (List Value)) (w : World) : Prop where
  row : w.ownsRow 0 24 4 u css.length css.flatten
  len : css.length = rs.length
  els : ∀ k (h : k < css.length) (h' : k < rs.length), ExIn (fun b => D0 b ∨ (B ≤ b ∧ u.ownBlock ≠ some b)) w rs[k] css[k]
  new : ∀ k, u.ownBlock = some k → B ≤ k
theorem Built.nil (D0 : Nat → Prop) (B : Nat) (w : World) : Built D0 B [] (.slice none 0 0) [] w :=
  ⟨World.ownsRow_nil _ _ _ _, rfl, fun k h => by simp at h, by simp [Value.ownBlock]⟩
theorem Built.four {D0 : Nat → Prop} {B : Nat} {rs : List Ex} {u : Value} {css : List (List Value)} {w : World} (h : Built D0 B rs u css w) : ∀ cs, cs ∈ css → cs.length = 4 := by
  intro cs hcs
  obtain ⟨k, hk, rfl⟩ := List.getElem_of_mem hcs
  exact (h.els k hk (by rw [← h.len]; exact hk)).len
theorem Built.ext {D0 : Nat → Prop} {B : Nat} {rs : List Ex} {u : Value} {css : List (List Value)} {w w' : World} (hx : Ext w w') (h : Built D0 B rs u css w) : Built D0 B rs u css w' :=
  ⟨row_ext hx h.row, h.len, fun k h1 h2 => (h.els k h1 h2).ext hx, h.new⟩
theorem Built.step {D0 : Nat → Prop} {B : Nat} (hD0 : ∀ k, D0 k → k < B) {rs : List Ex} {u : Value} {css : List (List Value)} {wr w1 w3 : World} (h : Built D0 B rs u css wr) (hB : B ≤ wr.heap.size) {r : Ex} {cs : List Value}
    (hx : Ext wr w1) (hcs : ExIn (fun k => D0 k ∨ wr.heap.size ≤ k) w1 r cs) {g cap : Nat} (hg : Grew w1 24 4 u (css.length + 1) (css.flatten ++ cs) g cap w3) :
    Built D0 B (rs ++ [r]) (.slice (some ⟨g, 0, none⟩) (css.length + 1) cap) (css ++ [cs]) w3 := by
  have hk : Keep (fun k => u.ownBlock = some k) w1 w3 := (Keep.refl _ w1).grown hg.grown (fun k hk => .inl hk)
  have hgB : B ≤ g := hg.new.elim (h.new g) (fun hh => Nat.le_trans hB (Nat.le_trans hx.size hh))
  have hog : ∀ k, u.ownBlock = some k → k < wr.heap.size := fun k hk => (h.row.lt k hk).2
  refine ⟨?_, by simp [h.len], ?_, fun k hk => by simp [Value.ownBlock] at hk; omega⟩
  · simpa using hg.row
  · intro k h1 h2
    by_cases hkl : k < css.length
    · have hkr : k < rs.length := by rw [← h.len]; exact hkl
      have h9 := ((h.els k hkl hkr).mono (D' := fun b => D0 b ∨ (B ≤ b ∧ u.ownBlock ≠ some b ∧ b < wr.heap.size)) (fun b hb hlt => hb.imp id (fun hh => ⟨hh.1, hh.2, hlt⟩))).ext hx
      have h10 := h9.keep hk (fun b hb ho => by
        rcases hb with hb | hb
        · have := hD0 b hb; have := h.new b ho; omega
        · exact hb.2.1 ho)
      simp only [List.getElem_append_left hkl, List.getElem_append_left hkr]
      refine h10.mono (fun b hb _ => hb.imp id (fun hh => ⟨hh.1, fun e => ?_⟩))
      simp [Value.ownBlock] at e
      subst e
      rcases hg.new with h11 | h11
      · exact hh.2.1 h11
      · have := hx.size; omega
    · have hkc : k = css.length := by simp at h1; omega
      subst hkc
      have hrl : rs.length = css.length := h.len.symm
      simp only [List.getElem_append_right (Nat.le_refl _), List.getElem_append_right (Nat.le_of_eq hrl), hrl, Nat.sub_self, List.getElem_cons_zero]
      have h9 := (hcs.mono (D' := fun b => D0 b ∨ (wr.heap.size ≤ b ∧ b < w1.heap.size)) (fun b hb hlt => hb.imp id (fun hh => ⟨hh, hlt⟩))).keep hk (fun b hb ho => by
        have := hog b ho
        rcases hb with hb | hb
        · have := hD0 b hb; have := h.new b ho; omega
        · omega)
      refine h9.mono (fun b hb _ => hb.imp id (fun hh => ⟨by omega, fun e => ?_⟩))
      simp [Value.ownBlock] at e
      subst e
      rcases hg.new with h11 | h11
      · have := hog g h11; omega
      · omega
/-- The slice value of what was built. -/
theorem Built.slice {D0 : Nat → Prop} {B : Nat} {rs : List Ex} {u : Value} {css : List (List Value)} {w : World} (h : Built D0 B rs u css w) : SliceIn (fun b => D0 b ∨ B ≤ b) w 4 u css :=
  slice_own h.row h.four (fun k hk => .inr (h.new k hk))
theorem Built.expr {D0 : Nat → Prop} {B : Nat} {rs : List Ex} {u : Value} {css : List (List Value)} {w : World} (h : Built D0 B rs u css w) {o n : Int} {s : ByteArray}
    (ho : -9223372036854775808 ≤ o ∧ o ≤ 9223372036854775807) (hn : -9223372036854775808 ≤ n ∧ n ≤ 9223372036854775807) (hs : s.size ≤ maxLen) :
    ExIn (fun b => D0 b ∨ B ≤ b) w (.mk o n s rs) [.int .i64 o, .int .i64 n, .string s, u] :=
  .mk o n s rs u css h.len (fun i h1 h2 => (h.els i h2 h1).mono (fun b hb _ => hb.imp id (·.1))) h.slice ho hn hs

theorem Tryd.infoE : (Tryd.prog.info? 24).map (fun i => (i.zero, i.size, i.bytes)) = some (some (.agg #[.int .i64 0, .int .i64 0, .string ⟨#[]⟩, .slice none 0 0]), 4, 56) := by kernel_rfl
end Go.Proofs.YtibfoafepjggjaaDoor
