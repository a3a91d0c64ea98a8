/-
  Walks: names, Names, Arrays.
-/
import Derived.Test.YtibfoafepjggjaaDoorNamesE
namespace Go.Proofs.YtibfoafepjggjaaDoor
open Go.RowKit

def RetOwnS (l : List ByteArray) (w : World) (e : Ending) (w' : World) : Prop :=
  ∃ v, e = .returned v ∧ w'.ownsRow 0 9 1 v l.length (l.map Value.string) ∧ (∀ k, v.ownBlock = some k → w.heap.size ≤ k) ∧ Ext w w'
/-- The names of the nodes with some operators, each once. -/
def namesOf (ops : List Int) (e : Ex) : List ByteArray := (walkE (nextName ops) e []).1

set_option maxRecDepth 100000 in
set_option maxHeartbeats 1000000 in
theorem names_any (e : Ex) (ops : List Int) (w : World) (v vp : Value) (hv : ExVal w e v) (hp : IntsVal w ops vp) (hs : esize e ≤ 1000000) :
    Calls Tryd.prog 39 #[v, vp] w (RetOwnS (namesOf ops e) w) := by
  obtain ⟨p, cp, rfl, hl, h1, h2, -, -, -⟩ := ex_open hv
  have hp' := hp
  obtain ⟨p2, cap2, rfl, -, -, -⟩ := hp'
  have HV := Lib.hid hv; clear hv
  clear hl
  have hW := walk_any (σ := List ByteArray) (Q := fun e' => ∀ s, s ∈ allE e' → s ∈ allE e) (F := 55) (next := nextName ops) (callFunc_enter Tryd.func55 (by kernel_rfl) (by kernel_rfl))
    (names_visits ((w.alloc (.cells #[.int .i64 e.op, .int .i64 e.num, .string e.name, .slice p e.args.length cp] 24)).alloc (.cells #[.slice p2 ops.length cap2] 66)) ops (w.heap.size + 1) (w.heap.size + 1 + 1) (by simp) (.slice p2 ops.length cap2)
      (by have := (One.new (w.alloc (.cells #[.int .i64 e.op, .int .i64 e.num, .string e.name, .slice p e.args.length cp] 24)) 66 (.slice p2 ops.length cap2)).cell; simpa only [World.size_alloc] using this)
      (hp.ext (((Ext.refl w).alloc _).alloc _)) (allE e) (by rw [allE_len]; exact hs)) e
    (fun k => k = w.heap.size + 1 + 1) [] (((w.alloc (.cells #[.int .i64 e.op, .int .i64 e.num, .string e.name, .slice p e.args.length cp] 24)).alloc (.cells #[.slice p2 ops.length cap2] 66)).alloc (.cells #[.slice none 0 0] 30)) _ (fun _ h => h) ((Ext.refl _).alloc _) (HV.out.ext (((Ext.refl w).alloc _).alloc _))
    ⟨.slice none 0 0, fun k => by simp [Value.ownBlock], by
      have := One.new ((w.alloc (.cells #[.int .i64 e.op, .int .i64 e.num, .string e.name, .slice p e.args.length cp] 24)).alloc (.cells #[.slice p2 ops.length cap2] 66)) 30 (.slice none 0 0)
      simpa only [World.size_alloc] using this, World.ownsRow_nil _ _ _ _, by simp [Value.ownBlock], by simp [Value.ownBlock], by simp, by simp⟩
  change Calls _ _ _ _ (WalkPost (NamesI (w.heap.size + 1 + 1) (allE e)) _ (namesOf ops e) _) at hW
  generalize namesOf ops e = R at *
  have HW := Lib.hid hW; clear hW
  clear hp
  go_enter Tryd.func39, Tryd.ntmps39
  go_wp2_with fail
  refine HW.out.mono ?_
  rintro en w1 ⟨rfl, O1, ⟨u, hI⟩, hO1, hk1⟩
  have c0 := hI.one.cell
  have hx : Ext w w1 := hk1.ext (w0 := w) ((((Ext.refl w).alloc _).alloc _).alloc _) (fun x hx => by omega)
  have hr : ∀ k, u.ownBlock = some k → w.heap.size ≤ k := fun k hk => by have := hI.lo k hk; omega
  have hrow := hI.row
  have HR := Lib.hid hr; clear hr
  have HROW := Lib.hid hrow; clear hrow
  have HX := Lib.hid hx; clear hx
  clear hI hO1 hk1
  go_wp2_with fail
  go_ret
  exact ⟨u, rfl, HROW.out, HR.out, HX.out⟩

set_option maxRecDepth 100000 in
theorem Names_any (e : Ex) (w : World) (v : Value) (hv : ExVal w e v) (hs : esize e ≤ 1000000) :
    Calls Tryd.prog 18 #[v] w (RetOwnS (namesOf [2] e) w) := by
  obtain ⟨p, cp, rfl, hl, h1, h2, -, -, -⟩ := ex_open hv
  have HV := Lib.hid hv; clear hv
  have hi := ints_alloc (w.alloc (.cells #[.int .i64 e.op, .int .i64 e.num, .string e.name, .slice p e.args.length cp] 24)) [2] 3 (by decide)
  simp only [World.size_alloc] at hi
  have HI := Lib.hid hi; clear hi
  clear hl
  go_enter Tryd.func18, Tryd.ntmps18
  go_wp2_with fail
  refine (names_any e [2] _ _ _ (HV.out.ext (((Ext.refl w).alloc _).alloc _)) HI.out hs).mono ?_
  rintro en w1 ⟨u, rfl, hrow, hn, hx⟩
  have HROW := Lib.hid hrow; clear hrow
  have HN := Lib.hid hn; clear hn
  have HX := Lib.hid hx; clear hx
  go_wp2_with fail
  go_ret
  exact ⟨u, rfl, HROW.out, fun k hk => by have := HN.out k hk; simp at this; omega, (((Ext.refl w).alloc _).alloc _).trans HX.out⟩

set_option maxRecDepth 100000 in
theorem Arrays_any (e : Ex) (w : World) (v : Value) (hv : ExVal w e v) (hs : esize e ≤ 1000000) :
    Calls Tryd.prog 20 #[v] w (RetOwnS (namesOf [3, 24] e) w) := by
  obtain ⟨p, cp, rfl, hl, h1, h2, -, -, -⟩ := ex_open hv
  have HV := Lib.hid hv; clear hv
  have hi := ints_alloc (w.alloc (.cells #[.int .i64 e.op, .int .i64 e.num, .string e.name, .slice p e.args.length cp] 24)) [3, 24] 3 (by decide)
  simp only [World.size_alloc] at hi
  have HI := Lib.hid hi; clear hi
  clear hl
  go_enter Tryd.func20, Tryd.ntmps20
  go_wp2_with fail
  refine (names_any e [3, 24] _ _ _ (HV.out.ext (((Ext.refl w).alloc _).alloc _)) HI.out hs).mono ?_
  rintro en w1 ⟨u, rfl, hrow, hn, hx⟩
  have HROW := Lib.hid hrow; clear hrow
  have HN := Lib.hid hn; clear hn
  have HX := Lib.hid hx; clear hx
  go_wp2_with fail
  go_ret
  exact ⟨u, rfl, HROW.out, fun k hk => by have := HN.out k hk; simp at this; omega, (((Ext.refl w).alloc _).alloc _).trans HX.out⟩
end Go.Proofs.YtibfoafepjggjaaDoor
