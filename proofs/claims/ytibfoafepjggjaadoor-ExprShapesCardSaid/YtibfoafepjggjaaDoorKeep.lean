/-
  What a call lets be: all blocks that were there, but for the blocks of a set. No program is in sight here.
-/
import Derived.Test.YtibfoafepjggjaaDoorData
namespace Go.Proofs.YtibfoafepjggjaaDoor
open Go.RowKit

/-- Of what was there only the blocks of O may have turned. -/
structure Keep (O : Nat → Prop) (w w' : World) : Prop where
  os : w'.os = w.os
  tape : w'.tape = w.tape
  output : w'.output = w.output
  size : w.heap.size ≤ w'.heap.size
  block : ∀ k, k < w.heap.size → ¬ O k → w'.heap[k]? = w.heap[k]?

theorem Keep.refl (O : Nat → Prop) (w : World) : Keep O w w := ⟨rfl, rfl, rfl, Nat.le_refl _, fun _ _ _ => rfl⟩
theorem Keep.trans {O O' : Nat → Prop} {a b c : World} (h : Keep O a b) (k : Keep O' b c) (ho : ∀ x, O' x → O x ∨ a.heap.size ≤ x) : Keep O a c :=
  ⟨k.os.trans h.os, k.tape.trans h.tape, k.output.trans h.output, Nat.le_trans h.size k.size, fun i hi hn =>
    (k.block i (Nat.lt_of_lt_of_le hi h.size) (fun hx => (ho i hx).elim hn (fun hx => by omega))).trans (h.block i hi hn)⟩
theorem Keep.of_ext {O : Nat → Prop} {w w' : World} (h : Ext w w') : Keep O w w' := ⟨h.os, h.tape, h.output, h.size, fun k hk _ => h.block k hk⟩
theorem Keep.mono {O O' : Nat → Prop} {w w' : World} (h : Keep O w w') (ho : ∀ x, O x → O' x) : Keep O' w w' :=
  ⟨h.os, h.tape, h.output, h.size, fun k hk hn => h.block k hk fun hx => hn (ho k hx)⟩
/-- What was there before the set's blocks were made is as it was. -/
theorem Keep.ext {O : Nat → Prop} {w0 w w' : World} (h : Keep O w w') (h0 : Ext w0 w) (ho : ∀ x, O x → w0.heap.size ≤ x) : Ext w0 w' :=
  ⟨h.os.trans h0.os, h.tape.trans h0.tape, h.output.trans h0.output, Nat.le_trans h0.size h.size, fun k hk =>
    (h.block k (Nat.lt_of_lt_of_le hk h0.size) (fun hx => by have := ho k hx; omega)).trans (h0.block k hk)⟩
theorem Keep.cell {O : Nat → Prop} {w w' : World} (h : Keep O w w') {p : Addr} {v : Value} (hn : ¬ O p.block) (hp : w.cell? p = some v) : w'.cell? p = some v := by
  have hb : p.block < w.heap.size := by
    unfold World.cell? at hp
    split at hp
    · rename_i h1; exact (Array.getElem?_eq_some_iff.1 h1).1
    · cases hp
  rw [World.cell?_of_block (w := w) (h.block p.block hb hn)]; exact hp
theorem Keep.heap {O : Nat → Prop} {w w' : World} (h : Keep O w w') {k : Nat} {o : Obj} (hn : ¬ O k) (hp : w.heap[k]? = some o) : w'.heap[k]? = some o := by
  rw [h.block k (Array.getElem?_eq_some_iff.1 hp).1 hn]; exact hp
theorem Keep.alloc {O : Nat → Prop} {a w : World} (h : Keep O a w) (o : Obj) : Keep O a (w.alloc o) :=
  h.trans (Keep.of_ext (O := O) ((Ext.refl w).alloc o)) fun _ hx => .inl hx
theorem Keep.drew {O : Nat → Prop} {a w : World} (h : Keep O a w) : Keep O a w.drew := ⟨h.os, h.tape, h.output, h.size, h.block⟩
theorem Keep.drewN {O : Nat → Prop} {a w : World} (h : Keep O a w) (n : Nat) : Keep O a (w.drewN n) := ⟨h.os, h.tape, h.output, h.size, h.block⟩
theorem Keep.setCell {O : Nat → Prop} {a w : World} (h : Keep O a w) {p : Addr} (hp : O p.block ∨ a.heap.size ≤ p.block) (u : Value) : Keep O a (w.setCell p u) := by
  refine ⟨h.os, h.tape, h.output, Nat.le_trans h.size (by simp [World.setCell]), fun k hk hn => ?_⟩
  rw [Below.heap_setCell _ _ _ _ (fun e => ?_)]
  · exact h.block k hk hn
  · subst e; rcases hp with hp | hp
    · exact hn hp
    · omega
theorem Keep.grown {O : Nat → Prop} {a w w' : World} {row : Option Nat} (h : Keep O a w) (hg : w.grownBy w' row) (hr : ∀ k, row = some k → O k ∨ a.heap.size ≤ k) : Keep O a w' :=
  ⟨hg.os.trans h.os, hg.tape.trans h.tape, hg.output.trans h.output, Nat.le_trans h.size hg.size, fun k hk hn => by
    rw [hg.block k (Nat.lt_of_lt_of_le hk h.size) (fun e => ?_)]
    · exact h.block k hk hn
    · rcases hr k e.symm with h' | h'
      · exact hn h'
      · omega⟩

/-- A block of one cell. -/
def One (b : Nat) (T : TypeId) (v : Value) (w : World) : Prop := w.heap[b]? = some (.cells #[v] T (0, 0))
theorem One.cell {b : Nat} {T : TypeId} {v : Value} {w : World} (h : One b T v w) : w.cell? ⟨b, 0, none⟩ = some v := by
  unfold One at h; simp [World.cell?, h]
theorem One.frozen {b : Nat} {T : TypeId} {v : Value} {w : World} (h : One b T v w) : w.frozen? ⟨b, 0, none⟩ = false := by
  unfold One at h; simp [World.frozen?, h]
theorem One.lt {b : Nat} {T : TypeId} {v : Value} {w : World} (h : One b T v w) : b < w.heap.size := (Array.getElem?_eq_some_iff.1 h).1
theorem One.keep {O : Nat → Prop} {w w' : World} (h : Keep O w w') {b : Nat} {T : TypeId} {v : Value} (hn : ¬ O b) (h1 : One b T v w) : One b T v w' := h.heap hn h1
theorem One.set {b : Nat} {T : TypeId} {v : Value} {w : World} (h : One b T v w) (u : Value) : One b T u (w.setCell ⟨b, 0, none⟩ u) := by
  unfold One at h ⊢
  simp [World.setCell, Array.getElem?_modify, h]
theorem One.alloc {b : Nat} {T : TypeId} {v : Value} {w : World} (h : One b T v w) (o : Obj) : One b T v (w.alloc o) := by
  have := h.lt
  unfold One at h ⊢
  rw [Below.heap_alloc _ _ _ this]; exact h
theorem One.new (w : World) (T : TypeId) (v : Value) : One w.heap.size T v (w.alloc (.cells #[v] T)) := by
  unfold One; show (w.heap.push _)[w.heap.size]? = _; simp
theorem One.other {b : Nat} {T : TypeId} {v : Value} {w : World} (h : One b T v w) {p : Addr} (hp : b ≠ p.block) (u : Value) : One b T v (w.setCell p u) := by
  unfold One at h ⊢; rw [Below.heap_setCell _ _ _ _ hp]; exact h

theorem _root_.Go.World.ownsRow.drewN {w : World} {base : Nat} {e : TypeId} {size : Nat} {v : Value} {n : Nat} {xs : List Value} (h : w.ownsRow base e size v n xs) (k : Nat) : (w.drewN k).ownsRow base e size v n xs := h
/-- A contract that leaves the world as it is serves in a region that draws its order. -/
theorem quiet_of_eq {P : Program} {f : FuncId} {args : Array Value} {w : World} {n : Nat} {v : Value} (h : Calls P f args (w.drewN n) fun e w' => e = .returned v ∧ w.drewN n = w') :
    Calls P f args (w.drewN n) fun e w'' => e = .returned v ∧ ∃ m, w'' = w.drewN m := h.mono fun _ _ h => ⟨h.1, n, h.2.symm⟩
theorem cell_new1 (w : World) (o : Obj) (T : TypeId) (x : Value) : ∀ j u, [x][j]? = some u → ((w.alloc o).alloc (.cells #[x] T)).cell? ((⟨w.heap.size + 1, 0, none⟩ : Addr).add j) = some u := by
  intro j u hj
  cases j with
  | zero =>
    simp at hj; subst hj
    simp [Addr.add]
  | succ j => simp at hj
/-- An owned row that holds something has a place. -/
theorem own_shape {w : World} {base : Nat} {T : TypeId} {size n : Nat} {v : Value} {xs : List Value} (h : w.ownsRow base T size v n xs) (hn : ¬ v = .slice none 0 0) : ∃ g cap, v = .slice (some ⟨g, 0, none⟩) n cap ∧ base ≤ g := by
  rcases h.2 with ⟨h, -⟩ | ⟨g, cap, cur, rfl, hb, -⟩
  · exact absurd h hn
  · exact ⟨g, cap, rfl, hb⟩
/-- An owned row of strings reads as the list. -/
theorem strs_own {w : World} {base : Nat} {T : TypeId} {v : Value} {l : List ByteArray} (h : w.ownsRow base T 1 v l.length (l.map Value.string)) : StrsVal w l v := by
  obtain ⟨h1, h2⟩ := h
  rcases h2 with ⟨rfl, h0⟩ | ⟨g, cap, cur, rfl, hb, hh, hn, hc, hs, ht⟩
  · have : l = [] := List.eq_nil_of_length_eq_zero h0
    subst this
    exact ⟨none, 0, rfl, Nat.le_refl _, by omega, fun i s hi => by simp at hi⟩
  · refine ⟨_, cap, rfl, hn, hc, fun i s hi => ⟨g, 0, rfl, ?_⟩⟩
    have hlt : i < l.length := (List.getElem?_eq_some_iff.1 hi).1
    have e1 : (cur.toList.take (l.length * 1))[i]? = some (.string s) := by rw [ht]; simp [hi]
    rw [List.getElem?_take_of_lt (by omega)] at e1
    simp [World.cell?, hh]
    simpa using e1
/-- An owned row of ints reads as the list. -/
theorem ints_own {w : World} {base : Nat} {T : TypeId} {v : Value} {l : List Int} (h : w.ownsRow base T 1 v l.length (l.map (Value.int .i64))) : IntsVal w l v := by
  obtain ⟨h1, h2⟩ := h
  rcases h2 with ⟨rfl, h0⟩ | ⟨g, cap, cur, rfl, hb, hh, hn, hc, hs, ht⟩
  · have : l = [] := List.eq_nil_of_length_eq_zero h0
    subst this
    exact ⟨none, 0, rfl, Nat.le_refl _, by omega, fun i s hi => by simp at hi⟩
  · refine ⟨_, cap, rfl, hn, hc, fun i s hi => ⟨g, 0, rfl, ?_⟩⟩
    have hlt : i < l.length := (List.getElem?_eq_some_iff.1 hi).1
    have e1 : (cur.toList.take (l.length * 1))[i]? = some (.int .i64 s) := by rw [ht]; simp [hi]
    rw [List.getElem?_take_of_lt (by omega)] at e1
    simp [World.cell?, hh]
    simpa using e1
theorem row_kept' {w w' : World} {O : Nat → Prop} (hk : Keep O w w') {T : TypeId} {z : Nat} {v : Value} {n : Nat} {xs : List Value} (h : w.ownsRow 0 T z v n xs) (hn : ∀ k, v.ownBlock = some k → ¬ O k) : w'.ownsRow 0 T z v n xs := by
  refine ⟨h.1, h.2.imp id ?_⟩
  rintro ⟨g, cap, cur, rfl, hb, hh, hr⟩
  exact ⟨g, cap, cur, rfl, hb, hk.heap (hn g rfl) hh, hr⟩
theorem row_ext {w w' : World} (hx : Ext w w') {T : TypeId} {z : Nat} {v : Value} {n : Nat} {xs : List Value} (h : w.ownsRow 0 T z v n xs) : w'.ownsRow 0 T z v n xs :=
  row_kept' (Keep.of_ext (O := fun _ => False) hx) h (fun _ _ h => h)
/-- A list without doubles is no longer than one that holds it. -/
theorem nodup_le {α : Type} [DecidableEq α] : ∀ {l N : List α}, l.Nodup → (∀ s, s ∈ l → s ∈ N) → l.length ≤ N.length
  | [], _, _, _ => Nat.zero_le _
  | a :: r, N, hn, hm => by
    have ha : a ∈ N := hm a (by simp)
    have hr := nodup_le (l := r) (N := N.erase a) (List.nodup_cons.1 hn).2 (fun s hs => by
      have hne : s ≠ a := fun e => (List.nodup_cons.1 hn).1 (e ▸ hs)
      exact (List.mem_erase_of_ne hne).2 (hm s (by simp [hs])))
    rw [List.length_erase_of_mem ha] at hr
    have : 0 < N.length := List.length_pos_of_mem ha
    simp only [List.length_cons]; omega

/-! ### A walk over the nodes of an expression -/
mutual
def walkE {σ : Type} (next : σ → Ex → σ × Bool) : Ex → σ → σ × Bool
  | .mk o n s l, x => if (next x (.mk o n s l)).2 then walkL next l (next x (.mk o n s l)).1 else ((next x (.mk o n s l)).1, false)
def walkL {σ : Type} (next : σ → Ex → σ × Bool) : List Ex → σ → σ × Bool
  | [], x => (x, true)
  | a :: r, x => if (walkE next a x).2 then walkL next r (walkE next a x).1 else ((walkE next a x).1, false)
end
/-- A state and the blocks that bear it: what a visiting function owns. -/
structure Visits (P : Program) (w0 : World) (F : FuncId) (cap : Array Value) {σ : Type} (next : σ → Ex → σ × Bool) (I : (Nat → Prop) → σ → World → Prop) (Q : Ex → Prop) : Prop where
  sub : ∀ {o n s l}, Q (.mk o n s l) → ∀ a, a ∈ l → Q a
  stays : ∀ {O s w w'}, I O s w → (∀ k, O k → w'.heap[k]? = w.heap[k]?) → I O s w'
  lt : ∀ {O s w}, I O s w → ∀ k, O k → w0.heap.size ≤ k ∧ k < w.heap.size
  call : ∀ {O s w e v}, Q e → Ext w0 w → I O s w → ExVal w0 e v →
    Calls P F (#[v] ++ cap) w fun en w' => en = .returned (.bool (next s e).2) ∧ ∃ O', I O' (next s e).1 w' ∧ (∀ k, O' k → O k ∨ w.heap.size ≤ k) ∧ Keep O w w'
end Go.Proofs.YtibfoafepjggjaaDoor
