/-
  Expressions as plain data, and how they lie in memory. No program is in sight here.
-/
import Derived.WalkKit
import Derived.Lib.Hide
import Derived.Deep.Draws
namespace Go.Proofs.YtibfoafepjggjaaDoor
open Go.RowKit

/-- An expression as plain data. -/
inductive Ex where
  | mk (op n : Int) (name : ByteArray) (args : List Ex)

namespace Ex
def op : Ex → Int | mk o _ _ _ => o
def num : Ex → Int | mk _ n _ _ => n
def name : Ex → ByteArray | mk _ _ s _ => s
def args : Ex → List Ex | mk _ _ _ l => l
end Ex

mutual
theorem Ex.ind {P : Ex → Prop} (h : ∀ o n s l, (∀ a, a ∈ l → P a) → P (.mk o n s l)) : ∀ e, P e
  | .mk o n s l => h o n s l (Ex.inds h l)
theorem Ex.inds {P : Ex → Prop} (h : ∀ o n s l, (∀ a, a ∈ l → P a) → P (.mk o n s l)) : ∀ l : List Ex, ∀ a, a ∈ l → P a
  | [], _, ha => nomatch ha
  | b :: r, a, ha => by
    rcases List.mem_cons.1 ha with e | e
    · rw [e]; exact Ex.ind h b
    · exact Ex.inds h r a e
end

theorem ret_int {k : IntKind} {a b : Int} (h : a = b) : Ending.returned (.int k a) = .returned (.int k b) := by rw [h]
theorem ret_bool {a b : Bool} (h : a = b) : Ending.returned (.bool a) = .returned (.bool b) := by rw [h]
theorem ret_str {a b : ByteArray} (h : a = b) : Ending.returned (.string a) = .returned (.string b) := by rw [h]

/-- What was there is as it was. -/
def Ext (w w' : World) : Prop := Below w.heap.size w w'
theorem Ext.refl (w : World) : Ext w w := Below.refl _ _
theorem Ext.trans {a b c : World} (h : Ext a b) (k : Ext b c) : Ext a c := Below.trans h (Below.mono k h.size)
theorem Ext.cell {w w' : World} (h : Ext w w') {p : Addr} {v : Value} (hp : w.cell? p = some v) : w'.cell? p = some v := by
  have hb : p.block < w.heap.size := by
    unfold World.cell? at hp
    split at hp
    · rename_i h1; exact (Array.getElem?_eq_some_iff.1 h1).1
    · cases hp
  rw [Below.cell h hb]; exact hp
theorem Ext.alloc {a w : World} (h : Ext a w) (o : Obj) : Ext a (w.alloc o) := Below.alloc h h.size o
theorem Ext.drewN {a w : World} (h : Ext a w) (n : Nat) : Ext a (w.drewN n) := ⟨h.os, h.tape, h.output, h.size, h.block⟩
theorem Ext.drew {a w : World} (h : Ext a w) : Ext a w.drew := Below.drew h

/-- The cells of a boxed value of four cells, later on. -/
theorem Ext.box4 {w w' : World} {T : TypeId} {a b c d : Value} (h : Ext (w.alloc (.cells #[a, b, c, d] T)) w') :
    w'.cell? ⟨w.heap.size, 0, none⟩ = some a ∧ w'.cell? ⟨w.heap.size, 1, none⟩ = some b ∧ w'.cell? ⟨w.heap.size, 2, none⟩ = some c ∧ w'.cell? ⟨w.heap.size, 3, none⟩ = some d :=
  ⟨h.cell (by simp [World.cell?_alloc_new]), h.cell (by simp [World.cell?_alloc_new]), h.cell (by simp [World.cell?_alloc_new]), h.cell (by simp [World.cell?_alloc_new])⟩
theorem Ext.past {w w' : World} {o : Obj} (h : Ext (w.alloc o) w') : Ext w w' := ((Ext.refl w).alloc o).trans h

/-- n cells at an address. -/
def CellsAt (w : World) (b off : Nat) (cs : List Value) : Prop := ∀ j v, cs[j]? = some v → w.cell? ⟨b, off + j, none⟩ = some v

/-- A slice value over rows of cells. -/
def SliceAt (w : World) (size : Nat) (v : Value) (css : List (List Value)) : Prop :=
  ∃ p cap, v = .slice p css.length cap ∧ css.length ≤ cap ∧ cap ≤ maxLen ∧
    ∀ i cs, css[i]? = some cs → ∃ b off, p = some ⟨b, off, none⟩ ∧ cs.length = size ∧ CellsAt w b (off + i * size) cs

theorem CellsAt.ext {w w' : World} (h : Ext w w') {b off : Nat} {cs : List Value} (hc : CellsAt w b off cs) : CellsAt w' b off cs :=
  fun j v hj => h.cell (hc j v hj)
theorem SliceAt.ext {w w' : World} (h : Ext w w') {size : Nat} {v : Value} {css : List (List Value)} (hs : SliceAt w size v css) : SliceAt w' size v css := by
  obtain ⟨p, cap, h1, h2, h3, h4⟩ := hs
  refine ⟨p, cap, h1, h2, h3, fun i cs hi => ?_⟩
  obtain ⟨b, off, g1, g2, g3⟩ := h4 i cs hi
  exact ⟨b, off, g1, g2, g3.ext h⟩

/-- The cells of an expression. -/
inductive ExRep (w : World) : Ex → List Value → Prop
  | mk (o n : Int) (s : ByteArray) (l : List Ex) (v : Value) (css : List (List Value)) (hl : css.length = l.length)
      (hc : ∀ i (h : i < l.length) (h' : i < css.length), ExRep w l[i] css[i]) (hv : SliceAt w 4 v css)
      (ho : -9223372036854775808 ≤ o ∧ o ≤ 9223372036854775807) (hn : -9223372036854775808 ≤ n ∧ n ≤ 9223372036854775807) (hs : s.size ≤ maxLen) :
      ExRep w (.mk o n s l) [.int .i64 o, .int .i64 n, .string s, v]

theorem ExRep.ext {w w' : World} (h : Ext w w') {e : Ex} {cs : List Value} (he : ExRep w e cs) : ExRep w' e cs := by
  induction he with
  | mk o n s l v css hl hc hv ho hn hs ih => exact .mk o n s l v css hl ih (hv.ext h) ho hn hs

/-- The value of an expression. -/
def ExVal (w : World) (e : Ex) (v : Value) : Prop := ∃ cs, ExRep w e cs ∧ v = .agg cs.toArray
theorem ExVal.ext {w w' : World} (h : Ext w w') {e : Ex} {v : Value} : ExVal w e v → ExVal w' e v
  | ⟨cs, h1, h2⟩ => ⟨cs, h1.ext h, h2⟩

/-- A list of expressions. -/
def ExsVal (w : World) (l : List Ex) (v : Value) : Prop := ∃ css : List (List Value), css.length = l.length ∧ SliceAt w 4 v css ∧ ∀ i (h : i < l.length) (h' : i < css.length), ExRep w l[i] css[i]

/-- What stands at a row of the cells of a list of expressions. -/
theorem ex_row {w : World} {b o : Nat} {e : Ex} {cs : List Value} (hr : ExRep w e cs) (hc : CellsAt w b o cs) :
    ∃ v, ExVal w e (.agg #[.int .i64 e.op, .int .i64 e.num, .string e.name, v]) ∧ ExsVal w e.args v ∧
      w.cell? ⟨b, o, none⟩ = some (.int .i64 e.op) ∧ w.cell? ⟨b, o + 1, none⟩ = some (.int .i64 e.num) ∧
      w.cell? ⟨b, o + 2, none⟩ = some (.string e.name) ∧ w.cell? ⟨b, o + 3, none⟩ = some v := by
  cases hr with
  | mk o' n s l v css hl hc' hv ho hn hs =>
    refine ⟨v, ⟨_, .mk o' n s l v css hl hc' hv ho hn hs, rfl⟩, ⟨css, hl, hv, hc'⟩, ?_, ?_, ?_, ?_⟩
    · exact hc 0 _ rfl
    · exact hc 1 _ rfl
    · exact hc 2 _ rfl
    · exact hc 3 _ rfl

/-- Element j of a list of expressions. -/
theorem exs_at {w : World} {l : List Ex} {p : Option Addr} {n cap : Nat} (h : ExsVal w l (.slice p n cap)) {j : Nat} (hj : j < l.length) :
    ∃ b o cs, p = some ⟨b, o, none⟩ ∧ ExRep w l[j] cs ∧ CellsAt w b (o + j * 4) cs := by
  obtain ⟨css, hl, ⟨p', cap', hv, h1, h2, h3⟩, hr⟩ := h
  cases hv
  have hj' : j < css.length := by omega
  obtain ⟨b, o, g1, g2, g3⟩ := h3 j css[j] (by simp [hj'])
  exact ⟨b, o, css[j], g1, hr j hj hj', g3⟩

/-- The shape of a list's value. -/
theorem exs_shape {w : World} {l : List Ex} {v : Value} (h : ExsVal w l v) : ∃ p cap, v = .slice p l.length cap ∧ l.length ≤ cap ∧ cap ≤ 9223372036854775807 := by
  obtain ⟨css, hl, ⟨p, cap, hv, h1, h2, h3⟩, hr⟩ := h
  exact ⟨p, cap, by rw [hv, hl], by omega, h2⟩

theorem ExsVal.ext {w w' : World} (h : Ext w w') {l : List Ex} {v : Value} : ExsVal w l v → ExsVal w' l v
  | ⟨css, hl, hv, hr⟩ => ⟨css, hl, hv.ext h, fun i h1 h2 => (hr i h1 h2).ext h⟩

/-- An expression's value, taken apart. -/
theorem ex_open {w : World} {e : Ex} {v : Value} (h : ExVal w e v) :
    ∃ p cap, v = .agg #[.int .i64 e.op, .int .i64 e.num, .string e.name, .slice p e.args.length cap] ∧ ExsVal w e.args (.slice p e.args.length cap) ∧
      e.args.length ≤ cap ∧ cap ≤ 9223372036854775807 ∧
      (-9223372036854775808 ≤ e.op ∧ e.op ≤ 9223372036854775807) ∧ (-9223372036854775808 ≤ e.num ∧ e.num ≤ 9223372036854775807) ∧ e.name.size ≤ 9223372036854775807 := by
  obtain ⟨cs, hr, rfl⟩ := h
  cases hr with
  | mk o' n s l v css hl hc' hv ho hn hs =>
    obtain ⟨p, cap, rfl, h1, h2⟩ := exs_shape ⟨css, hl, hv, hc'⟩
    exact ⟨p, cap, rfl, ⟨css, hl, hv, hc'⟩, h1, h2, ho, hn, hs⟩

theorem str_eq (a b : ByteArray) : (a.toList == b.toList) = decide (a = b) := by
  rw [ByteArray.toList_eq, ByteArray.toList_eq, Bool.eq_iff_iff]
  simp only [beq_iff_eq, decide_eq_true_eq]
  constructor
  · intro h
    cases a; cases b
    simp only [ByteArray.mk.injEq]
    exact Array.toList_inj.1 h
  · intro h; rw [h]

/-- Is a string in a list? -/
def inB (s : ByteArray) (l : List ByteArray) : Bool := l.any fun x => decide (x = s)
theorem inB_iff {s : ByteArray} {l : List ByteArray} : inB s l = true ↔ s ∈ l := by simp [inB]
theorem inB_not {s : ByteArray} {l : List ByteArray} : inB s l = false ↔ s ∉ l := by rw [← inB_iff, Bool.not_eq_true]

/-- A list of strings. -/
def StrsVal (w : World) (l : List ByteArray) (v : Value) : Prop :=
  ∃ p cap, v = .slice p l.length cap ∧ l.length ≤ cap ∧ cap ≤ 9223372036854775807 ∧
    ∀ i s, l[i]? = some s → ∃ b off, p = some ⟨b, off, none⟩ ∧ w.cell? ⟨b, off + i, none⟩ = some (.string s)
theorem StrsVal.ext {w w' : World} (h : Ext w w') {l : List ByteArray} {v : Value} : StrsVal w l v → StrsVal w' l v
  | ⟨p, cap, h1, h2, h3, h4⟩ => ⟨p, cap, h1, h2, h3, fun i s hi => by obtain ⟨b, off, g1, g2⟩ := h4 i s hi; exact ⟨b, off, g1, h.cell g2⟩⟩
theorem strs_at {w : World} {l : List ByteArray} {p : Option Addr} {n cap : Nat} (h : StrsVal w l (.slice p n cap)) {j : Nat} (hj : j < l.length) :
    ∃ b off, p = some ⟨b, off, none⟩ ∧ w.cell? ⟨b, off + j, none⟩ = some (.string l[j]) := by
  obtain ⟨p', cap', hv, h1, h2, h3⟩ := h
  cases hv
  exact h3 j l[j] (by simp [hj])
theorem strs_alloc (w : World) (l : List ByteArray) (T : TypeId) (hl : l.length ≤ 9223372036854775807) :
    StrsVal (w.alloc (.cells (l.map Value.string).toArray T)) l (.slice (some ⟨w.heap.size, 0, none⟩) l.length l.length) := by
  refine ⟨_, _, rfl, Nat.le_refl _, hl, fun i s hi => ⟨_, _, rfl, ?_⟩⟩
  simp [World.cell?_alloc_new, hi]
/-- A result that is a list of strings. -/
def RetStrs (l : List ByteArray) (w : World) (e : Ending) (w' : World) : Prop := ∃ v, e = .returned v ∧ StrsVal w' l v ∧ Ext w w'

/-- A list of ints. -/
def IntsVal (w : World) (l : List Int) (v : Value) : Prop :=
  ∃ p cap, v = .slice p l.length cap ∧ l.length ≤ cap ∧ cap ≤ 9223372036854775807 ∧
    ∀ i s, l[i]? = some s → ∃ b off, p = some ⟨b, off, none⟩ ∧ w.cell? ⟨b, off + i, none⟩ = some (.int .i64 s)
theorem IntsVal.ext {w w' : World} (h : Ext w w') {l : List Int} {v : Value} : IntsVal w l v → IntsVal w' l v
  | ⟨p, cap, h1, h2, h3, h4⟩ => ⟨p, cap, h1, h2, h3, fun i s hi => by obtain ⟨b, off, g1, g2⟩ := h4 i s hi; exact ⟨b, off, g1, h.cell g2⟩⟩
theorem ints_at {w : World} {l : List Int} {p : Option Addr} {n cap : Nat} (h : IntsVal w l (.slice p n cap)) {j : Nat} (hj : j < l.length) :
    ∃ b off, p = some ⟨b, off, none⟩ ∧ w.cell? ⟨b, off + j, none⟩ = some (.int .i64 l[j]) := by
  obtain ⟨p', cap', hv, h1, h2, h3⟩ := h
  cases hv
  exact h3 j l[j] (by simp [hj])
theorem ints_alloc (w : World) (l : List Int) (T : TypeId) (hl : l.length ≤ 9223372036854775807) :
    IntsVal (w.alloc (.cells (l.map (Value.int .i64)).toArray T)) l (.slice (some ⟨w.heap.size, 0, none⟩) l.length l.length) := by
  refine ⟨_, _, rfl, Nat.le_refl _, hl, fun i s hi => ⟨_, _, rfl, ?_⟩⟩
  simp [World.cell?_alloc_new, hi]

end Go.Proofs.YtibfoafepjggjaaDoor
