/-
  Walks: Subst.
-/
import Derived.Test.YtibfoafepjggjaaDoorSubst
namespace Go.Proofs.YtibfoafepjggjaaDoor
open Go.RowKit

mutual
/-- The expression with another one at the variable's places. -/
def subE (nm : ByteArray) (b : Ex) : Ex → Ex
  | .mk o m s l => if (o == 2 && decide (s = nm)) then b else .mk o m s (subsE nm b l)
def subsE (nm : ByteArray) (b : Ex) : List Ex → List Ex
  | [] => []
  | a :: r => subE nm b a :: subsE nm b r
end
theorem subsE_map (nm : ByteArray) (b : Ex) (l : List Ex) : subsE nm b l = l.map (subE nm b) := by
  induction l with
  | nil => rw [subsE]; rfl
  | cons a r ih => rw [subsE, ih]; rfl

theorem Tryd.subst1F : ∀ args w, (callFunc 50 args).run Tryd.prog w = .ok (.enter 50 args) w := callFunc_enter Tryd.func50 (by kernel_rfl) (by kernel_rfl)

/-- What Subst is known to do at an expression. -/
def SubAt (nm : ByteArray) (b : Ex) (e : Ex) : Prop :=
  ∀ (v vb : Value) (w : World), ExVal w e v → ExVal w b vb → Calls Tryd.prog 28 #[v, .string nm, vb] w (RetEx (fun _ => False) (subE nm b e) w)

set_option maxRecDepth 100000 in
theorem subst1_any {nm : ByteArray} {b e : Ex} (h : SubAt nm b e) (v : Value) (w : World) (hv : ExVal w e v) (b1 b2 : Nat) (q : Option Addr) (cq : Nat) (hb : ExVal w b (.agg #[.int .i64 b.op, .int .i64 b.num, .string b.name, .slice q b.args.length cq]))
    (h1 : w.cell? ⟨b1, 0, none⟩ = some (.string nm)) (h2 : St4 b2 24 (.int .i64 b.op) (.int .i64 b.num) (.string b.name) (.slice q b.args.length cq) w) :
    Calls Tryd.prog 50 #[v, .pointer (some ⟨b1, 0, none⟩), .pointer (some ⟨b2, 0, none⟩)] w (RetEx (fun _ => False) (subE nm b e) w) := by
  obtain ⟨p, cp, rfl, hl, hh1, hh2, -, -, -⟩ := ex_open hv
  obtain ⟨c0, c1, c2, c3⟩ := St4.cells h2
  have l1 := cell_lt h1
  have l2 := cell_lt c0
  have hc := fun w1 (hx : Ext w w1) => h _ _ w1 (hv.ext hx) (hb.ext hx)
  have HC := Lib.hid hc; clear hc
  clear hv hl h2 hb h
  go_enter Tryd.func50, Tryd.ntmps50
  go_wp2_with fail
  refine (HC.out _ (((Ext.refl w).alloc _).alloc _)).mono ?_
  rintro en w2 ⟨cs2, rfl, hcs2, hy⟩
  obtain ⟨k0, k1, k2, k3, k4, k5, rfl⟩ := ex_cells hcs2
  obtain ⟨hs1, hs2⟩ := hy.two4
  obtain ⟨d0, d1, d2, d3⟩ := St4.cells hs2
  obtain ⟨g0, g1, g2, g3⟩ := St4.frozen hs2
  clear hs1 hs2
  have HCS := Lib.hid hcs2; clear hcs2
  have HX := Lib.hid hy; clear hy
  go_wp2_with fail
  refine bodyPost_ret (v := .agg #[.int .i64 k0, .int .i64 k1, .string k2, .slice k3 k4 k5]) (by simp [results, Tryd.results50, go_sem, d0, d1, d2, d3]) rfl ?_
  exact RetEx.end4 HX.out.past.past HCS.out (by omega) (by simp) (fun _ h => h.elim)

theorem four4 (w : World) (T T1 : TypeId) (a0 a1 a2 a3 n b0 b1 b2 b3 z0 z1 z2 z3 : Value) {w' : World}
    (h : Ext ((((w.alloc (.cells #[a0, a1, a2, a3] T)).alloc (.cells #[n] T1)).alloc (.cells #[b0, b1, b2, b3] T)).alloc (.cells #[z0, z1, z2, z3] T)) w') :
    St4 w.heap.size T a0 a1 a2 a3 w' ∧ One (w.heap.size + 1) T1 n w' ∧ St4 (w.heap.size + 1 + 1) T b0 b1 b2 b3 w' ∧ St4 (w.heap.size + 1 + 1 + 1) T z0 z1 z2 z3 w' := by
  have hs : w'.heap.size ≥ w.heap.size + 4 := by have := h.size; simp at this; omega
  have q0 : (w.alloc (.cells #[a0, a1, a2, a3] T)).heap[w.heap.size]? = some (.cells #[a0, a1, a2, a3] T (0, 0)) := heap_alloc_new _ _
  have q1 : ((w.alloc (.cells #[a0, a1, a2, a3] T)).alloc (.cells #[n] T1)).heap[w.heap.size + 1]? = some (.cells #[n] T1 (0, 0)) := by
    have := heap_alloc_new (w.alloc (.cells #[a0, a1, a2, a3] T)) (.cells #[n] T1); simpa only [World.size_alloc] using this
  have q2 : (((w.alloc (.cells #[a0, a1, a2, a3] T)).alloc (.cells #[n] T1)).alloc (.cells #[b0, b1, b2, b3] T)).heap[w.heap.size + 2]? = some (.cells #[b0, b1, b2, b3] T (0, 0)) := by
    have := heap_alloc_new ((w.alloc (.cells #[a0, a1, a2, a3] T)).alloc (.cells #[n] T1)) (.cells #[b0, b1, b2, b3] T); simpa only [World.size_alloc, Nat.add_assoc] using this
  have q3 : ((((w.alloc (.cells #[a0, a1, a2, a3] T)).alloc (.cells #[n] T1)).alloc (.cells #[b0, b1, b2, b3] T)).alloc (.cells #[z0, z1, z2, z3] T)).heap[w.heap.size + 3]? = some (.cells #[z0, z1, z2, z3] T (0, 0)) := by
    have := heap_alloc_new (((w.alloc (.cells #[a0, a1, a2, a3] T)).alloc (.cells #[n] T1)).alloc (.cells #[b0, b1, b2, b3] T)) (.cells #[z0, z1, z2, z3] T); simpa only [World.size_alloc, Nat.add_assoc] using this
  have x3 := h
  have x2 := x3.past
  have x1 := x2.past
  have x0 := x1.past
  exact ⟨(x0.same (by simp)).trans q0, (x1.same (by simp)).trans q1, (x2.same (by simp)).trans q2, (x3.same (by simp)).trans q3⟩

set_option maxRecDepth 100000 in
theorem subst_any (nm : ByteArray) (b : Ex) (hb : Slim b) (e : Ex) : Slim e → SubAt nm b e := by
  induction e using Ex.ind with
  | h o m s l ih =>
  intro hs v vb w hv hvb
  have IH := Lib.hid ih; clear ih
  have HS := Lib.hid hs; clear hs
  obtain ⟨q, cq, rfl, -, q1, q2, -, -, -⟩ := ex_open hvb
  cases b with
  | mk bo bm bs bl =>
  simp only [Ex.op, Ex.num, Ex.name, Ex.args] at *
  have hc : ∀ w1 b1 b2, Ext w w1 → One b1 9 (.string nm) w1 → St4 b2 24 (.int .i64 bo) (.int .i64 bm) (.string bs) (.slice q bl.length cq) w1 →
      Calls Tryd.prog 49 #[v, .func (.func 50) #[] #[.pointer (some ⟨b1, 0, none⟩), .pointer (some ⟨b2, 0, none⟩)]] w1 (RetEx (fun _ => False) (.mk o m s (l.map (subE nm (.mk bo bm bs bl)))) w1) := by
    intro w1 b1 b2 hx ho hs4
    have := rebuilt_any (cap := #[.pointer (some ⟨b1, 0, none⟩), .pointer (some ⟨b2, 0, none⟩)]) (subE nm (.mk bo bm bs bl)) Tryd.subst1F (fun _ => False) w1 (fun _ h => h.elim) (.mk o m s l)
      (fun a ha v w2 h0 hv => subst1_any (IH.out a ha (HS.out.mem ha)) v w2 (hv.ext h0) b1 b2 q cq ((hvb.ext hx).ext h0) (h0.cell ho.cell) (by unfold St4 at *; exact (h0.same (Array.getElem?_eq_some_iff.1 hs4).1).trans hs4)) HS.out.len v w1 (Ext.refl _) (hv.ext hx)
    simpa only [Ex.op, Ex.num, Ex.name, Ex.args] using this
  have hd : ∀ w1, Ext w w1 → Calls Tryd.prog 48 #[.agg #[.int .i64 bo, .int .i64 bm, .string bs, .slice q bl.length cq]] w1 (RetEx (fun _ => False) (.mk bo bm bs bl) w1) := fun w1 hx => copied_any _ hb _ w1 (hvb.ext hx)
  obtain ⟨p, cp, rfl, hl, h1, h2, -, -, -⟩ := ex_open hv
  have HC := Lib.hid hc; clear hc
  have HD := Lib.hid hd; clear hd
  clear hv hl hvb
  simp only [Ex.op, Ex.num, Ex.name, Ex.args] at *
  have hw : Ext w ((((w.alloc (.cells #[.int .i64 o, .int .i64 m, .string s, .slice p l.length cp] 24)).alloc (.cells #[.string nm] 9)).alloc (.cells #[.int .i64 bo, .int .i64 bm, .string bs, .slice q bl.length cq] 24)).alloc (.cells #[.int .i64 0, .int .i64 0, .string ⟨#[]⟩, .slice none 0 0] 24)) := ((((Ext.refl w).alloc _).alloc _).alloc _).alloc _
  obtain ⟨-, ho, ht, -⟩ := four4 w 24 9 _ _ _ _ _ _ _ _ _ _ _ _ _ (Ext.refl ((((w.alloc (.cells #[.int .i64 o, .int .i64 m, .string s, .slice p l.length cp] 24)).alloc (.cells #[.string nm] 9)).alloc (.cells #[.int .i64 bo, .int .i64 bm, .string bs, .slice q bl.length cq] 24)).alloc (.cells #[.int .i64 0, .int .i64 0, .string ⟨#[]⟩, .slice none 0 0] 24)))
  have HO := HC.out _ _ _ hw ho ht; clear ho ht
  have HB := HD.out _ hw; clear hw HC HD
  go_enter Tryd.func28, Tryd.ntmps28
  by_cases ho : (o == 2) = true
  all_goals (go_wp2_with fail)
  all_goals (
    first
    | (refine HB.mono ?_; clear HB HO IH HS; have he : subE nm (.mk bo bm bs bl) (.mk o m s l) = .mk bo bm bs bl := (by rw [subE]; (try simp only [str_eq] at *); simp_all))
    | (refine HO.mono ?_; clear HB HO IH HS; have he : subE nm (.mk bo bm bs bl) (.mk o m s l) = .mk o m s (l.map (subE nm (.mk bo bm bs bl))) := (by rw [subE, subsE_map]; (try simp only [str_eq] at *); simp_all)))
  all_goals (
    rintro en w2 ⟨cs2, rfl, hcs2, hy⟩
    obtain ⟨k0, k1, k2, k3, k4, k5, rfl⟩ := ex_cells hcs2
    obtain ⟨-, -, -, hs2⟩ := four4 w 24 9 _ _ _ _ _ _ _ _ _ _ _ _ _ hy
    obtain ⟨d0, d1, d2, d3⟩ := St4.cells hs2
    obtain ⟨g0, g1, g2, g3⟩ := St4.frozen hs2
    clear hs2
    rw [← he] at hcs2
    have HCS := Lib.hid hcs2; clear hcs2
    have HX := Lib.hid hy; clear hy
    clear he
    go_wp2_with fail
    refine bodyPost_ret (v := .agg #[.int .i64 k0, .int .i64 k1, .string k2, .slice k3 k4 k5]) (by simp [results, Tryd.results28, go_sem, d0, d1, d2, d3]) rfl ?_
    exact RetEx.end4 HX.out.past.past.past.past HCS.out (by omega) (by simp) (fun _ h => h.elim))
end Go.Proofs.YtibfoafepjggjaaDoor
