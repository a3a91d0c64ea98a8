/-
  Expressions in memory that lie in the blocks of a set; lists of expressions of one's own. No program is in sight here.
-/
import Derived.Test.YtibfoafepjggjaaDoorAppend
namespace Go.Proofs.YtibfoafepjggjaaDoor
open Go.RowKit

def SliceIn (D : Nat → Prop) (w : World) (size : Nat) (v : Value) (css : List (List Value)) : Prop :=
  ∃ p cap, v = .slice p css.length cap ∧ css.length ≤ cap ∧ cap ≤ maxLen ∧
    ∀ i cs, css[i]? = some cs → ∃ b off, p = some ⟨b, off, none⟩ ∧ D b ∧ cs.length = size ∧ CellsAt w b (off + i * size) cs
/-- The cells of an expression whose parts lie in the blocks of D. -/
inductive ExIn (D : Nat → Prop) (w : World) : Ex → List Value → Prop
  | mk (o n : Int) (s : ByteArray) (l : List Ex) (v : Value) (css : List (List Value)) (hl : css.length = l.length)
      (hc : ∀ i (h : i < l.length) (h' : i < css.length), ExIn D w l[i] css[i]) (hv : SliceIn D w 4 v css)
      (ho : -9223372036854775808 ≤ o ∧ o ≤ 9223372036854775807) (hn : -9223372036854775808 ≤ n ∧ n ≤ 9223372036854775807) (hs : s.size ≤ maxLen) :
      ExIn D w (.mk o n s l) [.int .i64 o, .int .i64 n, .string s, v]

theorem SliceIn.at {D : Nat → Prop} {w : World} {z : Nat} {v : Value} {css : List (List Value)} : SliceIn D w z v css → SliceAt w z v css
  | ⟨p, cap, h1, h2, h3, h4⟩ => ⟨p, cap, h1, h2, h3, fun i cs hi => by obtain ⟨b, off, g1, _, g2, g3⟩ := h4 i cs hi; exact ⟨b, off, g1, g2, g3⟩⟩
theorem ExIn.rep {D : Nat → Prop} {w : World} {e : Ex} {cs : List Value} (h : ExIn D w e cs) : ExRep w e cs := by
  induction h with
  | mk o n s l v css hl hc hv ho hn hs ih => exact .mk o n s l v css hl ih hv.at ho hn hs
theorem cell_lt {w : World} {p : Addr} {v : Value} (hp : w.cell? p = some v) : p.block < w.heap.size := by
  unfold World.cell? at hp
  split at hp
  · rename_i h1; exact (Array.getElem?_eq_some_iff.1 h1).1
  · cases hp
theorem ExRep.inside {w : World} {e : Ex} {cs : List Value} (h : ExRep w e cs) : ExIn (fun k => k < w.heap.size) w e cs := by
  induction h with
  | mk o n s l v css hl hc hv ho hn hs ih =>
    refine .mk o n s l v css hl ih ?_ ho hn hs
    obtain ⟨p, cap, h1, h2, h3, h4⟩ := hv
    refine ⟨p, cap, h1, h2, h3, fun i cs hi => ?_⟩
    obtain ⟨b, off, g1, g2, g3⟩ := h4 i cs hi
    refine ⟨b, off, g1, ?_, g2, g3⟩
    have : cs ≠ [] := fun e => by rw [e] at g2; cases g2
    match cs, this, g3 with
    | x :: r, _, g3 => exact cell_lt (g3 0 x rfl)
theorem ExIn.mono {D D' : Nat → Prop} {w : World} {e : Ex} {cs : List Value} (hd : ∀ k, D k → k < w.heap.size → D' k) (h : ExIn D w e cs) : ExIn D' w e cs := by
  induction h with
  | mk o n s l v css hl hc hv ho hn hs ih =>
    refine .mk o n s l v css hl ih ?_ ho hn hs
    obtain ⟨p, cap, h1, h2, h3, h4⟩ := hv
    refine ⟨p, cap, h1, h2, h3, fun i cs hi => ?_⟩
    obtain ⟨b, off, g1, g0, g2, g3⟩ := h4 i cs hi
    refine ⟨b, off, g1, hd b g0 ?_, g2, g3⟩
    have : cs ≠ [] := fun e => by rw [e] at g2; cases g2
    match cs, this, g3 with
    | x :: r, _, g3 => exact cell_lt (g3 0 x rfl)
theorem ExIn.keep {D O : Nat → Prop} {w w' : World} (hk : Keep O w w') (hd : ∀ k, D k → ¬ O k) {e : Ex} {cs : List Value} (h : ExIn D w e cs) : ExIn D w' e cs := by
  induction h with
  | mk o n s l v css hl hc hv ho hn hs ih =>
    refine .mk o n s l v css hl ih ?_ ho hn hs
    obtain ⟨p, cap, h1, h2, h3, h4⟩ := hv
    refine ⟨p, cap, h1, h2, h3, fun i cs hi => ?_⟩
    obtain ⟨b, off, g1, g0, g2, g3⟩ := h4 i cs hi
    exact ⟨b, off, g1, g0, g2, fun j x hj => hk.cell (hd b g0) (g3 j x hj)⟩
theorem ExIn.ext {D : Nat → Prop} {w w' : World} (hx : Ext w w') {e : Ex} {cs : List Value} (h : ExIn D w e cs) : ExIn D w' e cs :=
  h.keep (Keep.of_ext (O := fun _ => False) hx) (fun _ _ h => h)
theorem ExIn.len {D : Nat → Prop} {w : World} {e : Ex} {cs : List Value} (h : ExIn D w e cs) : cs.length = 4 := by cases h; rfl
theorem ExRep.len {w : World} {e : Ex} {cs : List Value} (h : ExRep w e cs) : cs.length = 4 := by cases h; rfl

theorem ex_cells {D : Nat → Prop} {w : World} {e : Ex} {cs : List Value} (h : ExIn D w e cs) : ∃ (o n : Int) (s : ByteArray) (p : Option Addr) (k c : Nat), cs = [.int .i64 o, .int .i64 n, .string s, .slice p k c] := by
  cases h with
  | mk o n s l v css hl hc hv ho hn hs =>
    obtain ⟨p, cap, rfl, -⟩ := hv
    exact ⟨o, n, s, p, _, cap, rfl⟩
theorem cells_at (w : World) (T : TypeId) (a b c d : Value) : ∀ j u, [a, b, c, d][j]? = some u → (w.alloc (.cells #[a, b, c, d] T)).cell? ((⟨w.heap.size, 0, none⟩ : Addr).add j) = some u := by
  intro j u hj
  match j, hj with
  | 0, hj => simp at hj; subst hj; simp [Addr.add, World.cell?_alloc_new]
  | 1, hj => simp at hj; subst hj; simp [Addr.add, World.cell?_alloc_new]
  | 2, hj => simp at hj; subst hj; simp [Addr.add, World.cell?_alloc_new]
  | 3, hj => simp at hj; subst hj; simp [Addr.add, World.cell?_alloc_new]
  | j + 4, hj => simp at hj
theorem Ext.same {w w' : World} (h : Ext w w') {k : Nat} (hk : k < w.heap.size) : w'.heap[k]? = w.heap[k]? := h.block k hk
/-- Two boxes of four cells, later on. -/
theorem Ext.two4 {w w' : World} {T T' : TypeId} {a b c d a' b' c' d' : Value} (h : Ext ((w.alloc (.cells #[a, b, c, d] T)).alloc (.cells #[a', b', c', d'] T')) w') :
    w'.heap[w.heap.size]? = some (.cells #[a, b, c, d] T (0, 0)) ∧ w'.heap[w.heap.size + 1]? = some (.cells #[a', b', c', d'] T' (0, 0)) := by
  have e1 : ((w.alloc (.cells #[a, b, c, d] T)).alloc (.cells #[a', b', c', d'] T')).heap[w.heap.size]? = some (.cells #[a, b, c, d] T (0, 0)) := by
    rw [Below.heap_alloc _ _ _ (by simp)]; exact heap_alloc_new _ _
  have e2 : ((w.alloc (.cells #[a, b, c, d] T)).alloc (.cells #[a', b', c', d'] T')).heap[w.heap.size + 1]? = some (.cells #[a', b', c', d'] T' (0, 0)) := by
    have := heap_alloc_new (w.alloc (.cells #[a, b, c, d] T)) (.cells #[a', b', c', d'] T')
    simpa only [World.size_alloc] using this
  exact ⟨(h.same (by simp; omega)).trans e1, (h.same (by simp)).trans e2⟩
/-- A block of four cells. -/
def St4 (b : Nat) (T : TypeId) (v0 v1 v2 v3 : Value) (w : World) : Prop := w.heap[b]? = some (.cells #[v0, v1, v2, v3] T (0, 0))
theorem St4.cells {b : Nat} {T : TypeId} {v0 v1 v2 v3 : Value} {w : World} (h : St4 b T v0 v1 v2 v3 w) : w.cell? ⟨b, 0, none⟩ = some v0 ∧ w.cell? ⟨b, 1, none⟩ = some v1 ∧ w.cell? ⟨b, 2, none⟩ = some v2 ∧ w.cell? ⟨b, 3, none⟩ = some v3 := by
  unfold St4 at h; simp [World.cell?, h]
theorem St4.frozen {b : Nat} {T : TypeId} {v0 v1 v2 v3 : Value} {w : World} (h : St4 b T v0 v1 v2 v3 w) : w.frozen? ⟨b, 0, none⟩ = false ∧ w.frozen? ⟨b, 1, none⟩ = false ∧ w.frozen? ⟨b, 2, none⟩ = false ∧ w.frozen? ⟨b, 3, none⟩ = false := by
  unfold St4 at h; simp [World.frozen?, h]
theorem St4.lt {b : Nat} {T : TypeId} {v0 v1 v2 v3 : Value} {w : World} (h : St4 b T v0 v1 v2 v3 w) : b < w.heap.size := (Array.getElem?_eq_some_iff.1 h).1
theorem St4.keep {b : Nat} {T : TypeId} {v0 v1 v2 v3 : Value} {w w' : World} {O : Nat → Prop} (hk : Keep O w w') (hn : ¬ O b) (h : St4 b T v0 v1 v2 v3 w) : St4 b T v0 v1 v2 v3 w' := hk.heap hn h
/-- A result that is an expression: its parts lie in D0's blocks or in new ones. -/
def RetEx (D0 : Nat → Prop) (e : Ex) (w : World) (en : Ending) (w' : World) : Prop :=
  ∃ cs, en = .returned (.agg cs.toArray) ∧ ExIn (fun k => D0 k ∨ w.heap.size ≤ k) w' e cs ∧ Ext w w'

theorem flat_len {css : List (List Value)} {z : Nat} (h : ∀ cs, cs ∈ css → cs.length = z) : css.flatten.length = css.length * z := by
  induction css with
  | nil => simp
  | cons a r ih => simp only [List.flatten_cons, List.length_append, List.length_cons, ih (fun c hc => h c (by simp [hc])), h a (by simp), Nat.add_mul]; omega
theorem flat_at {css : List (List Value)} {z : Nat} (h : ∀ cs, cs ∈ css → cs.length = z) : ∀ {i j : Nat} {cs : List Value} {x : Value}, css[i]? = some cs → cs[j]? = some x → css.flatten[i * z + j]? = some x := by
  induction css with
  | nil => intro i j cs x hi; simp at hi
  | cons a r ih =>
    intro i j cs x hi hj
    have ha : a.length = z := h a (by simp)
    cases i with
    | zero =>
      simp at hi; subst hi
      rw [List.flatten_cons, Nat.zero_mul, Nat.zero_add, List.getElem?_append_left (List.getElem?_eq_some_iff.1 hj).1]; exact hj
    | succ i =>
      rw [List.flatten_cons, List.getElem?_append_right (by rw [ha, Nat.add_mul]; omega)]
      have := ih (fun c hc => h c (by simp [hc])) (i := i) (j := j) (cs := cs) (x := x) (by simpa using hi) hj
      rw [ha, show (i + 1) * z + j - z = i * z + j by rw [Nat.add_mul]; omega]; exact this

/-- An owned row of rows of cells. -/
theorem slice_own {D : Nat → Prop} {w : World} {T : TypeId} {z : Nat} {v : Value} {css : List (List Value)} (h : w.ownsRow 0 T z v css.length css.flatten) (hz : ∀ cs, cs ∈ css → cs.length = z) (hD : ∀ k, v.ownBlock = some k → D k) : SliceIn D w z v css := by
  obtain ⟨h1, h2⟩ := h
  rcases h2 with ⟨rfl, h0⟩ | ⟨g, cap, cur, rfl, hb, hh, hn, hc, hs, ht⟩
  · have : css = [] := List.eq_nil_of_length_eq_zero h0
    subst this
    exact ⟨none, 0, rfl, Nat.le_refl _, by unfold maxLen; omega, fun i s hi => by simp at hi⟩
  · refine ⟨_, cap, rfl, hn, hc, fun i cs hi => ⟨g, 0, rfl, hD g rfl, hz cs (List.mem_of_getElem? hi), fun j x hj => ?_⟩⟩
    have e1 := flat_at hz hi hj
    rw [← ht] at e1
    have hlt := (List.getElem?_eq_some_iff.1 e1).1
    rw [List.getElem?_take_of_lt (by simp at hlt; omega)] at e1
    simp [World.cell?, hh]
    simpa using e1
end Go.Proofs.YtibfoafepjggjaaDoor
