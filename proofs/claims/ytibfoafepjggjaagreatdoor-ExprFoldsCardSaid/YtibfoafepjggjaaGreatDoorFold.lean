/-
  Walks: rebuilt, copied.
  Walks: rebuilt, copied.
  Walks: copied, Subst.
  Walks: Subst.
  Walks: number, variable.
  Walks: fold.
  Walks: Fold.
-/
import Derived.Test.YtibfoafepjggjaaGreatDoorData
import Derived.Test.YtibfoafepjggjaaGreatDoorNames2
import Derived.Laws.ResultCell
import Derived.Test.YtibfoafepjggjaaGreatDoorEval
set_option linter.unusedVariables false
set_option linter.unusedSimpArgs false
namespace Go.Proofs.YtibfoafepjggjaaGreatDoor
open Go.RowKit

/-- A list of expressions that a call builds: what it has so far. -/
structure Built (D0 : Nat → Prop) (B : Nat) (rs : List Ex) (u : Value) (css : List (List Value)) (w : World) : Prop where
  row : w.ownsRow 0 24 4 u css.length css.flatten
  len : css.length = rs.length
  els : ∀ k (h : k < css.length) (h' : k < rs.length), ExIn (fun b => D0 b ∨ (B ≤ b ∧ u.ownBlock ≠ some b)) w rs[k] css[k]
  new : ∀ k, u.ownBlock = some k → B ≤ k
theorem Built.nil (D0 : Nat → Prop) (B : Nat) (w : World) : Built D0 B [] (.slice none 0 0) [] w :=
  ⟨World.ownsRow_nil _ _ _ _, rfl, fun k h => by simp at h, by simp [Value.ownBlock]⟩
theorem Built.four {D0 : Nat → Prop} {B : Nat} {rs : List Ex} {u : Value} {css : List (List Value)} {w : World} (h : Built D0 B rs u css w) : ∀ cs, cs ∈ css → cs.length = 4 := by
  intro cs hcs
  obtain ⟨k, hk, rfl⟩ := List.getElem_of_mem hcs
  exact (h.els k hk (by rw [← h.len]; exact hk)).len
theorem Built.ext {D0 : Nat → Prop} {B : Nat} {rs : List Ex} {u : Value} {css : List (List Value)} {w w' : World} (hx : Ext w w') (h : Built D0 B rs u css w) : Built D0 B rs u css w' :=
  ⟨row_ext hx h.row, h.len, fun k h1 h2 => (h.els k h1 h2).ext hx, h.new⟩
theorem Built.step {D0 : Nat → Prop} {B : Nat} (hD0 : ∀ k, D0 k → k < B) {rs : List Ex} {u : Value} {css : List (List Value)} {wr w1 w3 : World} (h : Built D0 B rs u css wr) (hB : B ≤ wr.heap.size) {r : Ex} {cs : List Value}
    (hx : Ext wr w1) (hcs : ExIn (fun k => D0 k ∨ wr.heap.size ≤ k) w1 r cs) {g cap : Nat} (hg : Grew w1 24 4 u (css.length + 1) (css.flatten ++ cs) g cap w3) :
    Built D0 B (rs ++ [r]) (.slice (some ⟨g, 0, none⟩) (css.length + 1) cap) (css ++ [cs]) w3 := by
  have hk : Keep (fun k => u.ownBlock = some k) w1 w3 := (Keep.refl _ w1).grown hg.grown (fun k hk => .inl hk)
  have hgB : B ≤ g := hg.new.elim (h.new g) (fun hh => Nat.le_trans hB (Nat.le_trans hx.size hh))
  have hog : ∀ k, u.ownBlock = some k → k < wr.heap.size := fun k hk => (h.row.lt k hk).2
  refine ⟨?_, by simp [h.len], ?_, fun k hk => by simp [Value.ownBlock] at hk; omega⟩
  · simpa using hg.row
  · intro k h1 h2
    by_cases hkl : k < css.length
    · have hkr : k < rs.length := by rw [← h.len]; exact hkl
      have h9 := ((h.els k hkl hkr).mono (D' := fun b => D0 b ∨ (B ≤ b ∧ u.ownBlock ≠ some b ∧ b < wr.heap.size)) (fun b hb hlt => hb.imp id (fun hh => ⟨hh.1, hh.2, hlt⟩))).ext hx
      have h10 := h9.keep hk (fun b hb ho => by
        rcases hb with hb | hb
        · have := hD0 b hb; have := h.new b ho; omega
        · exact hb.2.1 ho)
      simp only [List.getElem_append_left hkl, List.getElem_append_left hkr]
      refine h10.mono (fun b hb _ => hb.imp id (fun hh => ⟨hh.1, fun e => ?_⟩))
      simp [Value.ownBlock] at e
      subst e
      rcases hg.new with h11 | h11
      · exact hh.2.1 h11
      · have := hx.size; omega
    · have hkc : k = css.length := by simp at h1; omega
      subst hkc
      have hrl : rs.length = css.length := h.len.symm
      simp only [List.getElem_append_right (Nat.le_refl _), List.getElem_append_right (Nat.le_of_eq hrl), hrl, Nat.sub_self, List.getElem_cons_zero]
      have h9 := (hcs.mono (D' := fun b => D0 b ∨ (wr.heap.size ≤ b ∧ b < w1.heap.size)) (fun b hb hlt => hb.imp id (fun hh => ⟨hh, hlt⟩))).keep hk (fun b hb ho => by
        have := hog b ho
        rcases hb with hb | hb
        · have := hD0 b hb; have := h.new b ho; omega
        · omega)
      refine h9.mono (fun b hb _ => hb.imp id (fun hh => ⟨by omega, fun e => ?_⟩))
      simp [Value.ownBlock] at e
      subst e
      rcases hg.new with h11 | h11
      · have := hog g h11; omega
      · omega
/-- The slice value of what was built. -/
theorem Built.slice {D0 : Nat → Prop} {B : Nat} {rs : List Ex} {u : Value} {css : List (List Value)} {w : World} (h : Built D0 B rs u css w) : SliceIn (fun b => D0 b ∨ B ≤ b) w 4 u css :=
  slice_own h.row h.four (fun k hk => .inr (h.new k hk))
theorem Built.expr {D0 : Nat → Prop} {B : Nat} {rs : List Ex} {u : Value} {css : List (List Value)} {w : World} (h : Built D0 B rs u css w) {o n : Int} {s : ByteArray}
    (ho : -9223372036854775808 ≤ o ∧ o ≤ 9223372036854775807) (hn : -9223372036854775808 ≤ n ∧ n ≤ 9223372036854775807) (hs : s.size ≤ maxLen) :
    ExIn (fun b => D0 b ∨ B ≤ b) w (.mk o n s rs) [.int .i64 o, .int .i64 n, .string s, u] :=
  .mk o n s rs u css h.len (fun i h1 h2 => (h.els i h2 h1).mono (fun b hb _ => hb.imp id (·.1))) h.slice ho hn hs

theorem Tryz.infoE : (Tryz.prog.info? 24).map (fun i => (i.zero, i.size, i.bytes)) = some (some (.agg #[.int .i64 0, .int .i64 0, .string ⟨#[]⟩, .slice none 0 0]), 4, 56) := by kernel_rfl
end Go.Proofs.YtibfoafepjggjaaGreatDoor

namespace Go.Proofs.YtibfoafepjggjaaGreatDoor
open Go.RowKit

/-- What a function that changes an operand is known to do. -/
def By (F : FuncId) (cap : Array Value) (D0 : Nat → Prop) (f : Ex → Ex) (w0 : World) (l : List Ex) : Prop :=
  ∀ a, a ∈ l → ∀ (v : Value) (w : World), Ext w0 w → ExVal w0 a v → Calls Tryz.prog F (#[v] ++ cap) w (RetEx D0 (f a) w)

set_option maxRecDepth 100000 in
set_option maxHeartbeats 2000000 in
theorem rebuilt_any {F : FuncId} {cap : Array Value} (f : Ex → Ex) (hF : ∀ args w, (callFunc F args).run Tryz.prog w = .ok (.enter F args) w) (D0 : Nat → Prop) (w0 : World)
    (hD0 : ∀ k, D0 k → k < w0.heap.size) (e : Ex) (hby : By F cap D0 f w0 e.args) (hlen : e.args.length ≤ 1000000000) (v : Value) (w : World) (h0 : Ext w0 w) (hv : ExVal w0 e v) :
    Calls Tryz.prog 43 #[v, .func (.func F) #[] cap] w (RetEx D0 (.mk e.op e.num e.name (e.args.map f)) w) := by
  obtain ⟨q, cp, rfl, hl, h1, h2, hbo, hbn, hbs⟩ := ex_open hv
  cases e with
  | mk o m nm l =>
  simp only [Ex.op, Ex.num, Ex.name, Ex.args] at *
  have HBO := Lib.hid (And.intro hbo (And.intro hbn hbs)); clear hbo hbn hbs
  have HB := Lib.hid hby; clear hby
  have HL := Lib.hid hl; clear hl
  have H0 := Lib.hid h0; clear h0
  have HD := Lib.hid hD0; clear hD0
  clear hv
  obtain ⟨i0, hi, hz0, hz1, hz2⟩ := info_parts Tryz.infoE
  have HF := Lib.hid hF
  go_enter Tryz.func43, Tryz.ntmps43
  go_wp2_with fail
  go_loopw [5, 11, 7] (fun u i _ wr => ∃ (j : Nat) (css : List (List Value)), i = .int .i64 j ∧ j ≤ l.length ∧ Built D0 (w.heap.size + 2) ((l.take j).map f) u css wr ∧ Ext ((w.alloc (.cells #[.int .i64 o, .int .i64 m, .string nm, .slice q l.length cp] 24)).alloc (.cells #[.int .i64 0, .int .i64 0, .string ⟨#[]⟩, .slice none 0 0] 24)) wr) (fun _ i _ _ => l.length - (intOf i).toNat)
  case atStart => exact ⟨0, [], rfl, Nat.zero_le _, Built.nil _ _ _, Ext.refl _⟩
  case round =>
    obtain ⟨j, css, rfl, hj, hbuilt, hext⟩ := hrel
    have hsz : w.heap.size + 2 ≤ wr.heap.size := by have := hext.size; simp at this; omega
    have hcl : css.length = j := by have := hbuilt.len; simp at this; omega
    have HBU := Lib.hid hbuilt; clear hbuilt
    have HX := Lib.hid hext; clear hext
    have HCL := Lib.hid hcl; clear hcl
    have h0r : Ext w0 wr := H0.out.trans HX.out.past.past
    have H0R := Lib.hid h0r; clear h0r
    by_cases hlt : j < l.length
    · obtain ⟨b, off, cs, rfl, hr, hc⟩ := exs_at HL.out hlt
      obtain ⟨sv, gv, gl, q2, q3, q4, q5⟩ := ex_row hr hc
      obtain ⟨p', cp', rfl, -, -⟩ := exs_shape gl
      have r2 := H0R.out.cell q2
      have r3 := H0R.out.cell q3
      have r4 := H0R.out.cell q4
      have r5 := H0R.out.cell q5
      clear q2 q3 q4 q5 hr hc gl
      have GV := Lib.hid gv; clear gv
      have hcon := fun w' hx => HB.out (l[j]'hlt) (List.getElem_mem hlt) (.agg #[.int .i64 (l[j]'hlt).op, .int .i64 (l[j]'hlt).num, .string (l[j]'hlt).name, .slice p' (l[j]'hlt).args.length cp']) w' hx GV.out
      have HCON := Lib.hid hcon; clear hcon
      go_wp2_with fail
      refine (HCON.out _ (H0R.out.alloc _)).mono ?_
      rintro en w2 ⟨cs2, rfl, hcs2, hy⟩
      obtain ⟨k0, k1, k2, k3, k4, k5, rfl⟩ := ex_cells hcs2
      have hxy : Ext wr w2 := ((Ext.refl wr).alloc _).trans hy
      have hbu2 := HBU.out.ext (hxy.alloc (.cells #[.int .i64 k0, .int .i64 k1, .string k2, .slice k3 k4 k5] 24))
      have HBU2 := Lib.hid hbu2; clear hbu2
      have HCS := Lib.hid (ExIn.ext ((Ext.refl w2).alloc (.cells #[.int .i64 k0, .int .i64 k1, .string k2, .slice k3 k4 k5] 24)) (hcs2.mono (D' := fun k => D0 k ∨ wr.heap.size ≤ k) (fun b hb _ => hb.imp id (fun h => by simp at h; omega)))); clear hcs2
      have HXY := Lib.hid hxy; clear hxy
      clear hy
      go_wp2_with (at_builtin; refine wpList_append2 _ rfl (.tmp 15) (.tmp 19) 22 rfl 24 i0 (.agg #[.int .i64 0, .int .i64 0, .string ⟨#[]⟩, .slice none 0 0]) 4 56 Tryz.underlying22 hi hz0 hz1 hz2 rfl (by decide) u5 css.length css.flatten rfl HBU2.out.row ⟨w2.heap.size, 0, none⟩ 1 1 [.int .i64 k0, .int .i64 k1, .string k2, .slice k3 k4 k5] rfl rfl ?c1 ?c2 ?c3 ?c4 (by decide) ?_)
      case c1 => exact cells_at _ _ _ _ _ _
      case c2 => intro u hu; simp at hu; rcases hu with rfl | rfl | rfl | rfl <;> rfl
      case c3 => unfold maxLen; have := HCL.out; omega
      case c4 => have := HCL.out; omega
      intro g cap1 w3 hgr
      have hst := HBU.out.step (fun k hk => by have := HD.out k hk; have := H0.out.size; omega) (by omega) (HXY.out.alloc _) HCS.out hgr
      have hx3 := ((((Keep.of_ext (O := fun k => u5.ownBlock = some k) (HX.out.trans HXY.out)).alloc _).grown hgr.grown (fun k hk => .inl hk))).ext (Ext.refl _) (fun x hx => by have := HBU.out.new x hx; simp; omega)
      have HST := Lib.hid hst; clear hst
      have HX3 := Lib.hid hx3; clear hx3
      clear hgr
      go_wp2_with fail
      go_roundw
      case rel =>
        refine ⟨j + 1, css ++ [[.int .i64 k0, .int .i64 k1, .string k2, .slice k3 k4 k5]], by go_num, by omega, ?_, HX3.out⟩
        have h9 := HST.out
        rw [List.take_succ_eq_append_getElem hlt, List.map_append]
        exact h9
      case measure => simp [intOf]; omega
    · have : j = l.length := by omega
      subst this
      have hsl := HBU.out.slice
      obtain ⟨pu, cu, hu, -, -, -⟩ := hsl
      subst hu
      obtain ⟨hs1, hs2⟩ := HX.out.two4
      obtain ⟨c0, c1, c2, c3⟩ := St4.cells hs1
      obtain ⟨f0, f1, f2, f3⟩ := St4.frozen hs1
      obtain ⟨d0, d1, d2, d3⟩ := St4.cells hs2
      obtain ⟨g0, g1, g2, g3⟩ := St4.frozen hs2
      clear hs1 hs2
      go_wp2_with fail
      have hk : Keep (fun k => w.heap.size ≤ k ∧ k < w.heap.size + 2) wr (((((wr.setCell { block := w.heap.size, off := 3 } (Value.slice pu css.length cu)).setCell { block := w.heap.size + 1, off := 0 } (Value.int IntKind.i64 o)).setCell { block := w.heap.size + 1, off := 1 } (Value.int IntKind.i64 m)).setCell { block := w.heap.size + 1, off := 2 } (Value.string nm)).setCell { block := w.heap.size + 1, off := 3 } (Value.slice pu css.length cu)) := by
        refine Keep.setCell (Keep.setCell (Keep.setCell (Keep.setCell (Keep.setCell (Keep.refl _ _) (.inl ?_) _) (.inl ?_) _) (.inl ?_) _) (.inl ?_) _) (.inl ?_) _ <;> (constructor <;> simp only [] <;> omega)
      have hext := hk.ext HX.out.past.past (fun x hx => hx.1)
      have hex := (HBU.out.expr HBO.out.1 HBO.out.2.1 HBO.out.2.2).keep hk (fun b hb ho => by rcases hb with hb | hb; · have := HD.out b hb; have := H0.out.size; omega
                                                                                              · omega)
      rw [List.take_length] at hex
      refine bodyPost_ret (v := .agg #[.int .i64 o, .int .i64 m, .string nm, .slice pu css.length cu]) (by simp [results, Tryz.results43, go_sem, d0, d1, d2, d3]) rfl ?_
      exact ⟨_, rfl, hex.mono (fun b hb _ => hb.imp id (fun h => by omega)), hext⟩
end Go.Proofs.YtibfoafepjggjaaGreatDoor

namespace Go.Proofs.YtibfoafepjggjaaGreatDoor
open Go.RowKit

mutual
/-- No list of the expression is longer than memory can take. -/
def Slim : Ex → Prop
  | .mk _ _ _ l => l.length ≤ 1000000000 ∧ Slims l
def Slims : List Ex → Prop
  | [] => True
  | a :: r => Slim a ∧ Slims r
end
theorem Slims.mem {l : List Ex} (h : Slims l) {a : Ex} (ha : a ∈ l) : Slim a := by
  induction l with
  | nil => cases ha
  | cons b r ih =>
    rw [Slims] at h
    rcases List.mem_cons.1 ha with rfl | ha
    · exact h.1
    · exact ih h.2 ha
theorem Slim.len {e : Ex} (h : Slim e) : e.args.length ≤ 1000000000 := by cases e; rw [Slim] at h; exact h.1
theorem Slim.mem {e : Ex} (h : Slim e) {a : Ex} (ha : a ∈ e.args) : Slim a := by cases e; rw [Slim] at h; exact h.2.mem ha

theorem RetEx.end4 {D0 D1 : Nat → Prop} {e : Ex} {w w2 : World} {B N : Nat} {x y z t : Value} (hx : Ext w w2) (h : ExIn (fun k => D1 k ∨ N ≤ k) w2 e [x, y, z, t]) (hw : w.heap.size ≤ B) (hB : B < N) (hd : ∀ k, D1 k → D0 k ∧ k < w.heap.size) :
    RetEx D0 e w (.returned (.agg #[x, y, z, t])) ((((w2.setCell ⟨B, 0, none⟩ x).setCell ⟨B, 1, none⟩ y).setCell ⟨B, 2, none⟩ z).setCell ⟨B, 3, none⟩ t) := by
  have hk : Keep (fun k => k = B) w2 ((((w2.setCell ⟨B, 0, none⟩ x).setCell ⟨B, 1, none⟩ y).setCell ⟨B, 2, none⟩ z).setCell ⟨B, 3, none⟩ t) :=
    Keep.setCell (p := ⟨B, 3, none⟩) (Keep.setCell (p := ⟨B, 2, none⟩) (Keep.setCell (p := ⟨B, 1, none⟩) (Keep.setCell (p := ⟨B, 0, none⟩) (Keep.refl (fun k => k = B) w2) (.inl rfl) _) (.inl rfl) _) (.inl rfl) _) (.inl rfl) _
  refine ⟨_, rfl, (h.keep hk (fun b hb ho => ?_)).mono (fun b hb _ => hb.imp (fun h => (hd b h).1) (fun h => by omega)), hk.ext hx (fun x hx => by omega)⟩
  rcases hb with hb | hb
  · have := (hd b hb).2; omega
  · omega

theorem Tryz.copiedF : ∀ args w, (callFunc 25 args).run Tryz.prog w = .ok (.enter 25 args) w := callFunc_enter Tryz.func25 (by kernel_rfl) (by kernel_rfl)

theorem Ex.eta (e : Ex) : Ex.mk e.op e.num e.name e.args = e := by cases e; rfl
set_option maxRecDepth 100000 in
theorem copied_any (e : Ex) : Slim e → ∀ (v : Value) (w : World), ExVal w e v → Calls Tryz.prog 25 #[v] w (RetEx (fun _ => False) e w) := by
  induction e using Ex.ind with
  | h o m s l ih =>
  intro hs v w hv
  have IH := Lib.hid ih; clear ih
  have HS := Lib.hid hs; clear hs
  have hc : ∀ w1, Ext w w1 → Calls Tryz.prog 43 #[v, .func (.func 25) #[] #[]] w1 (RetEx (fun _ => False) (.mk o m s l) w1) := by
    intro w1 hx
    have := rebuilt_any (cap := #[]) id Tryz.copiedF (fun _ => False) w1 (fun _ h => h.elim) (.mk o m s l) (fun a ha v w h0 hv => IH.out a ha (HS.out.mem ha) v w (hv.ext h0)) HS.out.len v w1 (Ext.refl _) (hv.ext hx)
    simpa only [Ex.op, Ex.num, Ex.name, Ex.args, List.map_id_fun, id_eq] using this
  obtain ⟨p, cp, rfl, hl, h1, h2, -, -, -⟩ := ex_open hv
  have HC := Lib.hid hc; clear hc
  clear hv hl
  simp only [Ex.op, Ex.num, Ex.name, Ex.args] at *
  go_enter Tryz.func25, Tryz.ntmps25
  go_wp2_with fail
  refine (HC.out _ (((Ext.refl w).alloc _).alloc _)).mono ?_
  rintro en w2 ⟨cs2, rfl, hcs2, hy⟩
  obtain ⟨k0, k1, k2, k3, k4, k5, rfl⟩ := ex_cells hcs2
  obtain ⟨hs1, hs2⟩ := hy.two4
  obtain ⟨d0, d1, d2, d3⟩ := St4.cells hs2
  obtain ⟨g0, g1, g2, g3⟩ := St4.frozen hs2
  clear hs1 hs2
  have HCS := Lib.hid hcs2; clear hcs2
  have HX := Lib.hid hy; clear hy
  go_wp2_with fail
  refine bodyPost_ret (v := .agg #[.int .i64 k0, .int .i64 k1, .string k2, .slice k3 k4 k5]) (by simp [results, Tryz.results25, go_sem, d0, d1, d2, d3]) rfl ?_
  exact RetEx.end4 HX.out.past.past HCS.out (by omega) (by simp) (fun _ h => h.elim)
end Go.Proofs.YtibfoafepjggjaaGreatDoor

namespace Go.Proofs.YtibfoafepjggjaaGreatDoor
open Go.RowKit

mutual
/-- The expression with another one at the variable's places. -/
def subE (nm : ByteArray) (b : Ex) : Ex → Ex
  | .mk o m s l => if (o == 2 && decide (s = nm)) then b else .mk o m s (subsE nm b l)
def subsE (nm : ByteArray) (b : Ex) : List Ex → List Ex
  | [] => []
  | a :: r => subE nm b a :: subsE nm b r
end
theorem subsE_map (nm : ByteArray) (b : Ex) (l : List Ex) : subsE nm b l = l.map (subE nm b) := by
  induction l with
  | nil => rw [subsE]; rfl
  | cons a r ih => rw [subsE, ih]; rfl

theorem four4 (w : World) (T T1 : TypeId) (a0 a1 a2 a3 n b0 b1 b2 b3 z0 z1 z2 z3 : Value) {w' : World}
    (h : Ext ((((w.alloc (.cells #[a0, a1, a2, a3] T)).alloc (.cells #[n] T1)).alloc (.cells #[b0, b1, b2, b3] T)).alloc (.cells #[z0, z1, z2, z3] T)) w') :
    St4 w.heap.size T a0 a1 a2 a3 w' ∧ One (w.heap.size + 1) T1 n w' ∧ St4 (w.heap.size + 1 + 1) T b0 b1 b2 b3 w' ∧ St4 (w.heap.size + 1 + 1 + 1) T z0 z1 z2 z3 w' := by
  have hs : w'.heap.size ≥ w.heap.size + 4 := by have := h.size; simp at this; omega
  have q0 : (w.alloc (.cells #[a0, a1, a2, a3] T)).heap[w.heap.size]? = some (.cells #[a0, a1, a2, a3] T (0, 0)) := heap_alloc_new _ _
  have q1 : ((w.alloc (.cells #[a0, a1, a2, a3] T)).alloc (.cells #[n] T1)).heap[w.heap.size + 1]? = some (.cells #[n] T1 (0, 0)) := by
    have := heap_alloc_new (w.alloc (.cells #[a0, a1, a2, a3] T)) (.cells #[n] T1); simpa only [World.size_alloc] using this
  have q2 : (((w.alloc (.cells #[a0, a1, a2, a3] T)).alloc (.cells #[n] T1)).alloc (.cells #[b0, b1, b2, b3] T)).heap[w.heap.size + 2]? = some (.cells #[b0, b1, b2, b3] T (0, 0)) := by
    have := heap_alloc_new ((w.alloc (.cells #[a0, a1, a2, a3] T)).alloc (.cells #[n] T1)) (.cells #[b0, b1, b2, b3] T); simpa only [World.size_alloc, Nat.add_assoc] using this
  have q3 : ((((w.alloc (.cells #[a0, a1, a2, a3] T)).alloc (.cells #[n] T1)).alloc (.cells #[b0, b1, b2, b3] T)).alloc (.cells #[z0, z1, z2, z3] T)).heap[w.heap.size + 3]? = some (.cells #[z0, z1, z2, z3] T (0, 0)) := by
    have := heap_alloc_new (((w.alloc (.cells #[a0, a1, a2, a3] T)).alloc (.cells #[n] T1)).alloc (.cells #[b0, b1, b2, b3] T)) (.cells #[z0, z1, z2, z3] T); simpa only [World.size_alloc, Nat.add_assoc] using this
  have x3 := h
  have x2 := x3.past
  have x1 := x2.past
  have x0 := x1.past
  exact ⟨(x0.same (by simp)).trans q0, (x1.same (by simp)).trans q1, (x2.same (by simp)).trans q2, (x3.same (by simp)).trans q3⟩

end Go.Proofs.YtibfoafepjggjaaGreatDoor

namespace Go.Proofs.YtibfoafepjggjaaGreatDoor
open Go.RowKit

theorem one4 (w : World) (T : TypeId) (a b c d : Value) : St4 w.heap.size T a b c d (w.alloc (.cells #[a, b, c, d] T)) := heap_alloc_new _ _

/-- An expression without operands, in cells. -/
theorem ex_leaf (D : Nat → Prop) (w : World) (o n : Int) (s : ByteArray) (ho : -9223372036854775808 ≤ o ∧ o ≤ 9223372036854775807) (hn : -9223372036854775808 ≤ n ∧ n ≤ 9223372036854775807) (hs : s.size ≤ maxLen) :
    ExIn D w (.mk o n s []) [.int .i64 o, .int .i64 n, .string s, .slice none 0 0] :=
  .mk o n s [] (.slice none 0 0) [] rfl (fun i h => by simp at h) ⟨none, 0, rfl, Nat.le_refl _, by unfold maxLen; omega, fun i cs h => by simp at h⟩ ho hn hs

set_option maxRecDepth 100000 in
theorem number_any (n : Int) (hn : -9223372036854775808 ≤ n ∧ n ≤ 9223372036854775807) (w : World) : Calls Tryz.prog 15 #[.int .i64 n] w (RetEx (fun _ => False) (.mk 1 n ⟨#[]⟩ []) w) := by
  obtain ⟨d0, d1, d2, d3⟩ := St4.cells (one4 w 24 (.int .i64 0) (.int .i64 0) (.string ⟨#[]⟩) (.slice none 0 0))
  obtain ⟨g0, g1, g2, g3⟩ := St4.frozen (one4 w 24 (.int .i64 0) (.int .i64 0) (.string ⟨#[]⟩) (.slice none 0 0))
  go_enter Tryz.func15, Tryz.ntmps15
  go_wp2_with fail
  refine bodyPost_ret (v := .agg #[.int .i64 1, .int .i64 n, .string ⟨#[]⟩, .slice none 0 0]) (by simp [results, Tryz.results15, go_sem, d0, d1, d2, d3]) rfl ?_
  exact ⟨_, rfl, ex_leaf _ _ 1 n ⟨#[]⟩ (by omega) hn (by decide), (Ext.refl w).alloc _⟩

set_option maxRecDepth 100000 in
theorem variable_any (s : ByteArray) (hs : s.size ≤ maxLen) (w : World) : Calls Tryz.prog 16 #[.string s] w (RetEx (fun _ => False) (.mk 2 0 s []) w) := by
  obtain ⟨d0, d1, d2, d3⟩ := St4.cells (one4 w 24 (.int .i64 0) (.int .i64 0) (.string ⟨#[]⟩) (.slice none 0 0))
  obtain ⟨g0, g1, g2, g3⟩ := St4.frozen (one4 w 24 (.int .i64 0) (.int .i64 0) (.string ⟨#[]⟩) (.slice none 0 0))
  go_enter Tryz.func16, Tryz.ntmps16
  go_wp2_with fail
  refine bodyPost_ret (v := .agg #[.int .i64 2, .int .i64 0, .string s, .slice none 0 0]) (by simp [results, Tryz.results16, go_sem, d0, d1, d2, d3]) rfl ?_
  exact ⟨_, rfl, ex_leaf _ _ 2 0 s (by omega) (by omega) hs, (Ext.refl w).alloc _⟩
theorem number_val (n : Int) (w : World) : Calls Tryz.prog 15 #[.int .i64 n] w (fun en w' => en = .returned (.agg #[.int .i64 1, .int .i64 n, .string ⟨#[]⟩, .slice none 0 0]) ∧ Ext w w') := by
  obtain ⟨d0, d1, d2, d3⟩ := St4.cells (one4 w 24 (.int .i64 0) (.int .i64 0) (.string ⟨#[]⟩) (.slice none 0 0))
  obtain ⟨g0, g1, g2, g3⟩ := St4.frozen (one4 w 24 (.int .i64 0) (.int .i64 0) (.string ⟨#[]⟩) (.slice none 0 0))
  go_enter Tryz.func15, Tryz.ntmps15
  go_wp2_with fail
  refine bodyPost_ret (v := .agg #[.int .i64 1, .int .i64 n, .string ⟨#[]⟩, .slice none 0 0]) (by simp [results, Tryz.results15, go_sem, d0, d1, d2, d3]) rfl ?_
  exact ⟨rfl, (Ext.refl w).alloc _⟩
theorem variable_val (s : ByteArray) (w : World) : Calls Tryz.prog 16 #[.string s] w (fun en w' => en = .returned (.agg #[.int .i64 2, .int .i64 0, .string s, .slice none 0 0]) ∧ Ext w w') := by
  obtain ⟨d0, d1, d2, d3⟩ := St4.cells (one4 w 24 (.int .i64 0) (.int .i64 0) (.string ⟨#[]⟩) (.slice none 0 0))
  obtain ⟨g0, g1, g2, g3⟩ := St4.frozen (one4 w 24 (.int .i64 0) (.int .i64 0) (.string ⟨#[]⟩) (.slice none 0 0))
  go_enter Tryz.func16, Tryz.ntmps16
  go_wp2_with fail
  refine bodyPost_ret (v := .agg #[.int .i64 2, .int .i64 0, .string s, .slice none 0 0]) (by simp [results, Tryz.results16, go_sem, d0, d1, d2, d3]) rfl ?_
  exact ⟨rfl, (Ext.refl w).alloc _⟩
end Go.Proofs.YtibfoafepjggjaaGreatDoor

namespace Go.Proofs.YtibfoafepjggjaaGreatDoor
open Go.RowKit

def keptOp (o : Int) : Bool := o == 1 || o == 2 || o == 3 || o == 24
def foldN (o n : Int) (s : ByteArray) (l : List Ex) : Ex :=
  if keptOp o then .mk o n s l else if l.all (fun a => a.op == 1) then .mk 1 (operS o (l.map Ex.num)) ⟨#[]⟩ [] else .mk o n s l
mutual
/-- The expression with its constant parts folded. -/
def foldE : Ex → Ex
  | .mk o n s l => foldN o n s (foldsE l)
def foldsE : List Ex → List Ex
  | [] => []
  | a :: r => foldE a :: foldsE r
end
theorem foldsE_map (l : List Ex) : foldsE l = l.map foldE := by
  induction l with
  | nil => rw [foldsE]; rfl
  | cons a r ih => rw [foldsE, ih]; rfl
theorem Tryz.foldF : ∀ args w, (callFunc 26 args).run Tryz.prog w = .ok (.enter 26 args) w := callFunc_enter Tryz.func26 (by kernel_rfl) (by kernel_rfl)

theorem St4.set4 {b : Nat} {T : TypeId} {x y z t : Value} {w : World} (h : St4 b T x y z t w) (a c d e : Value) :
    St4 b T a c d e ((((w.setCell ⟨b, 0, none⟩ a).setCell ⟨b, 1, none⟩ c).setCell ⟨b, 2, none⟩ d).setCell ⟨b, 3, none⟩ e) := by
  unfold St4 at h ⊢; simp [World.setCell, Array.getElem?_modify, h]
theorem set4_keep {b : Nat} (w : World) (a c d e : Value) : Keep (fun k => k = b) w ((((w.setCell ⟨b, 0, none⟩ a).setCell ⟨b, 1, none⟩ c).setCell ⟨b, 2, none⟩ d).setCell ⟨b, 3, none⟩ e) :=
  Keep.setCell (p := ⟨b, 3, none⟩) (Keep.setCell (p := ⟨b, 2, none⟩) (Keep.setCell (p := ⟨b, 1, none⟩) (Keep.setCell (p := ⟨b, 0, none⟩) (Keep.refl (fun k => k = b) w) (.inl rfl) _) (.inl rfl) _) (.inl rfl) _) (.inl rfl) _

/-- An expression's cells, opened. -/
theorem exin_open {D : Nat → Prop} {w : World} {o n : Int} {s : ByteArray} {l : List Ex} {cs : List Value} (h : ExIn D w (.mk o n s l) cs) : ∃ p c, cs = [.int .i64 o, .int .i64 n, .string s, .slice p l.length c] := by
  cases h with
  | mk o n s l v css hl hc hv ho hn hs =>
    obtain ⟨p, cap, rfl, -⟩ := hv
    exact ⟨p, cap, by rw [hl]⟩

theorem RetEx.alloc {D0 : Nat → Prop} {e : Ex} {w w2 : World} {en : Ending} {obj : Obj} (h : RetEx D0 e w en w2) : RetEx D0 e w en (w2.alloc obj) := by
  obtain ⟨cs, h1, h2, h3⟩ := h
  exact ⟨cs, h1, h2.ext ((Ext.refl _).alloc _), h3.alloc _⟩
theorem fold_num (e : Ex) : errE e = 0 → (foldE e).op = 1 → Wd (foldE e).num := by
  induction e using Ex.ind with
  | h o m s l ih =>
  intro he h1
  obtain ⟨hnode, herl⟩ := errE_node he
  obtain ⟨-, -, hcn, -⟩ := node_ok hnode
  have hm := errL_mem herl
  rw [foldE, foldsE_map] at h1 ⊢
  unfold foldN at h1 ⊢
  split at h1
  · rename_i hk
    rw [if_pos hk]
    have := hcn h1
    simp only [Ex.num, Wd]; omega
  · rename_i hk
    rw [if_neg hk]
    split at h1
    · rename_i ha
      rw [if_pos ha]
      simp only [Ex.num]
      refine operS_bd _ _ (fun x hx => ?_)
      obtain ⟨b, hb, rfl⟩ := List.mem_map.1 hx
      obtain ⟨a, hal, rfl⟩ := List.mem_map.1 hb
      exact ih a hal (hm a hal) (by have := List.all_eq_true.1 ha _ hb; simpa using this)
    · simp only [Ex.op] at h1
      subst h1
      simp [keptOp] at hk

set_option maxRecDepth 100000 in
set_option maxHeartbeats 2000000 in
theorem fold_any (e : Ex) : errE e = 0 → ∀ (v : Value) (w : World), ExVal w e v → Calls Tryz.prog 26 #[v] w (RetEx (fun _ => False) (foldE e) w) := by
  induction e using Ex.ind with
  | h o m s l ih =>
  intro he v w hv
  obtain ⟨hnode, herl⟩ := errE_node he
  obtain ⟨o1, o25, hcn, hop, -, -, -, -⟩ := node_ok hnode
  have hlen : l.length ≤ 1000 := by
    unfold operB at hop
    split at hop
    · simp only [Bool.and_eq_true, decide_eq_true_eq] at hop; omega
    · have : arity o ≤ 3 := by unfold arity; repeat' (first | omega | split)
      simp only [decide_eq_true_eq] at hop; omega
  have hmem := errL_mem herl
  have hbo := (ex_open hv)
  have HMEM := Lib.hid hmem; clear hmem
  have IH := Lib.hid ih; clear ih
  have hc : ∀ w1, Ext w w1 → Calls Tryz.prog 43 #[v, .func (.func 26) #[] #[]] w1 (RetEx (fun _ => False) (.mk o m s (l.map foldE)) w1) := by
    intro w1 hx
    have := rebuilt_any (cap := #[]) foldE Tryz.foldF (fun _ => False) w1 (fun _ h => h.elim) (.mk o m s l) (fun a ha v w h0 hv => IH.out a ha (HMEM.out a ha) v w (hv.ext h0)) (by simp only [Ex.args]; omega) v w1 (Ext.refl _) (hv.ext hx)
    simpa only [Ex.op, Ex.num, Ex.name, Ex.args] using this
  obtain ⟨p, cp, rfl, -, h1, h2, -, -, -⟩ := hbo
  have hR : foldE (.mk o m s l) = foldN o m s (l.map foldE) := by rw [foldE, foldsE_map]
  obtain ⟨l', hl'⟩ : ∃ l', l' = l.map foldE := ⟨_, rfl⟩
  have hll : l'.length = l.length := by rw [hl']; simp
  rw [hR]
  rw [← hl'] at hc ⊢
  clear hR
  obtain ⟨R, hR⟩ : ∃ R, R = foldN o m s l' := ⟨_, rfl⟩
  rw [← hR]
  have HRR := Lib.hid hR; clear hR
  have HC := Lib.hid hc; clear hc
  have HOP := Lib.hid hop; clear hop
  clear hv he hnode herl hcn
  simp only [Ex.op, Ex.num, Ex.name, Ex.args] at *
  have HL' := Lib.hid hl'; clear hl'
  obtain ⟨i0, hi, hz0, hz1, hz2⟩ := info_parts Tryz.infoI
  go_enter Tryz.func26, Tryz.ntmps26
  go_wp2_with fail
  refine (HC.out _ (((Ext.refl w).alloc _).alloc _)).mono ?_
  rintro en w2 ⟨cs2, rfl, hcs2, hy⟩
  obtain ⟨k3, k5, rfl⟩ := exin_open hcs2
  obtain ⟨hs1, hs2⟩ := hy.two4
  have HS1 := Lib.hid hs1
  have HS2 := Lib.hid hs2
  obtain ⟨c0, c1, c2, c3⟩ := St4.cells hs1
  obtain ⟨f0, f1, f2, f3⟩ := St4.frozen hs1
  obtain ⟨d0, d1, d2, d3⟩ := St4.cells hs2
  obtain ⟨g0, g1, g2, g3⟩ := St4.frozen hs2
  clear hs1 hs2
  have HCS := Lib.hid hcs2; clear hcs2
  have HX := Lib.hid hy; clear hy
  have HLL := Lib.hid hll; clear hll
  have hk0 := set4_keep (b := w.heap.size) w2 (.int .i64 o) (.int .i64 m) (.string s) (.slice k3 l'.length k5)
  have hw3 := hk0.ext HX.out.past.past (fun x hx => by omega)
  have hex := HCS.out.keep hk0 (fun b hb ho => by rcases hb with hb | hb; · exact hb
                                                  · simp at hb; omega)
  have hsz : w.heap.size + 2 ≤ w2.heap.size := by have := HX.out.size; simp at this; omega
  have HW3 := Lib.hid hw3; clear hw3 hk0
  have HEX := Lib.hid hex; clear hex
  by_cases hk : keptOp o = true
  · have hk' : (o == 1) = true ∨ (o == 2) = true ∨ (o == 3) = true ∨ (o == 24) = true := by simpa [keptOp, or_assoc] using hk
    have hR : R = .mk o m s l' := by rw [HRR.out]; simp [foldN, hk]
    clear hk
    have hall : RetEx (fun _ => False) (.mk o m s l') w (.returned (.agg #[.int .i64 o, .int .i64 m, .string s, .slice k3 l'.length k5])) _ := RetEx.end4 (B := w.heap.size + 1) (N := w.heap.size + 2) HW3.out (HEX.out.mono (fun b hb _ => hb.imp id (fun h => by simp at h; omega))) (by omega) (by omega) (fun _ h => h.elim)
    rw [← hR] at hall
    clear hR
    have HR := Lib.hid hall; clear hall
    by_cases q1 : (o == 1) = true
    · clear hk'
      go_wp2_with fail
      refine bodyPost_ret (v := .agg #[.int .i64 o, .int .i64 m, .string s, .slice k3 l'.length k5]) (by simp [results, Tryz.results26, go_sem, d0, d1, d2, d3]) rfl ?_
      exact HR.out
    · have q1' : (o == 1) = false := by simpa using q1
      by_cases q2 : (o == 2) = true
      · clear hk'
        go_wp2_with fail
        refine bodyPost_ret (v := .agg #[.int .i64 o, .int .i64 m, .string s, .slice k3 l'.length k5]) (by simp [results, Tryz.results26, go_sem, d0, d1, d2, d3]) rfl ?_
        exact HR.out
      · have q2' : (o == 2) = false := by simpa using q2
        by_cases q3 : (o == 3) = true
        · clear hk'
          go_wp2_with fail
          refine bodyPost_ret (v := .agg #[.int .i64 o, .int .i64 m, .string s, .slice k3 l'.length k5]) (by simp [results, Tryz.results26, go_sem, d0, d1, d2, d3]) rfl ?_
          exact HR.out
        · have q3' : (o == 3) = false := by simpa using q3
          have q4 : (o == 24) = true := by simpa [q1, q2, q3] using hk'
          clear hk'
          go_wp2_with fail
          refine bodyPost_ret (v := .agg #[.int .i64 o, .int .i64 m, .string s, .slice k3 l'.length k5]) (by simp [results, Tryz.results26, go_sem, d0, d1, d2, d3]) rfl ?_
          exact HR.out
  · have hk' : keptOp o = false := by simpa using hk
    have hk2 : (o == 1) = false ∧ (o == 2) = false ∧ (o == 3) = false ∧ (o == 24) = false := by simpa [keptOp, and_assoc] using hk'
    obtain ⟨q1, q2, q3, q4⟩ := hk2
    have hR : R = if l'.all (fun a => a.op == 1) then .mk 1 (operS o (l'.map Ex.num)) ⟨#[]⟩ [] else .mk o m s l' := by rw [HRR.out]; simp only [foldN, hk', Bool.false_eq_true, if_false]
    have HR := Lib.hid hR
    clear hR hk hk'
    go_wp2_with fail
    obtain ⟨w3, hw3e⟩ : ∃ w3, w3 = ((((w2.setCell { block := w.heap.size, off := 0 } (Value.int IntKind.i64 o)).setCell { block := w.heap.size, off := 1 } (Value.int IntKind.i64 m)).setCell { block := w.heap.size, off := 2 } (Value.string s)).setCell { block := w.heap.size, off := 3 } (Value.slice k3 l'.length k5)) := ⟨_, rfl⟩
    have S1 := St4.set4 HS1.out (.int .i64 o) (.int .i64 m) (.string s) (.slice k3 l'.length k5)
    have S2 := St4.keep (set4_keep (b := w.heap.size) w2 (.int .i64 o) (.int .i64 m) (.string s) (.slice k3 l'.length k5)) (by omega) HS2.out
    have HW := HW3.out
    have HE3 := HEX.out
    rw [← hw3e] at S1 S2 HW HE3 ⊢
    clear hw3e HW3 HEX HS1 HS2 HCS c0 c1 c2 c3 f0 f1 f2 f3 d0 d1 d2 d3 g0 g1 g2 g3 HX
    have HW3 := Lib.hid HW; clear HW
    have HEX := Lib.hid HE3; clear HE3
    have HS1 := Lib.hid S1; clear S1
    have HS2 := Lib.hid S2; clear S2
    have hsz3 : w.heap.size + 2 ≤ w3.heap.size := by have := HS2.out.lt; omega
    go_loopw [3, 19, 5] (fun u i _ wr => ∃ j : Nat, i = .int .i64 j ∧ j ≤ l'.length ∧ wr.ownsRow 0 3 1 u j (((l'.take j).map Ex.num).map (Value.int .i64)) ∧ (∀ k, u.ownBlock = some k → w3.heap.size ≤ k) ∧ Ext w3 wr ∧ (l'.take j).all (fun a => a.op == 1) = true) (fun _ i _ _ => l'.length - (intOf i).toNat)
    case atStart => exact ⟨0, rfl, Nat.zero_le _, by simpa using World.ownsRow_nil _ _ _ _, by simp [Value.ownBlock], Ext.refl _, by simp⟩
    case round =>
      obtain ⟨j, rfl, hj, hrow, hfresh, hext, hall⟩ := hrel
      have HROW := Lib.hid hrow; clear hrow
      have HF := Lib.hid hfresh; clear hfresh
      have HX := Lib.hid hext; clear hext
      have HALL := Lib.hid hall; clear hall
      have hszr : w.heap.size + 2 ≤ wr.heap.size := by have := HX.out.size; omega
      have t1 := St4.keep (Keep.of_ext (O := fun _ => False) HX.out) (fun h => h) HS1.out
      have t2 := St4.keep (Keep.of_ext (O := fun _ => False) HX.out) (fun h => h) HS2.out
      obtain ⟨c0, c1, c2, c3⟩ := St4.cells t1
      obtain ⟨d0, d1, d2, d3⟩ := St4.cells t2
      obtain ⟨g0, g1, g2, g3⟩ := St4.frozen t2
      have HT2 := Lib.hid t2
      clear t1 t2
      have l0 : w.heap.size < wr.heap.size := by omega
      have l1 : w.heap.size + 1 < wr.heap.size := by omega
      by_cases hlt : j < l'.length
      · obtain ⟨p2, cp2, hp2, hl2, -⟩ := ex_open (e := .mk o m s l') ⟨_, HEX.out.rep, rfl⟩
        simp only [Ex.op, Ex.num, Ex.name, Ex.args] at hp2 hl2
        cases hp2
        obtain ⟨b, off, cs, rfl, hr, hc⟩ := exs_at hl2 hlt
        obtain ⟨sv, gv, gl, q2, q3, q4, q5⟩ := ex_row hr hc
        obtain ⟨p', cp', rfl, -, -⟩ := exs_shape gl
        have r2 := HX.out.cell q2
        have r3 := HX.out.cell q3
        have r4 := HX.out.cell q4
        have r5 := HX.out.cell q5
        clear q2 q3 q4 q5 hr hc gl hl2 gv
        by_cases ha : ((l'[j]'hlt).op == 1) = true
        · have hnx : (l'.take (j + 1)).all (fun a => a.op == 1) = true := by
            rw [List.take_succ_eq_append_getElem hlt, List.all_append, HALL.out]; simpa using ha
          have HNX := Lib.hid hnx; clear hnx
          have htk : ((l'.take (j + 1)).map Ex.num).map (Value.int .i64) = ((l'.take j).map Ex.num).map (Value.int .i64) ++ [.int .i64 (l'[j]'hlt).num] := by
            rw [List.take_succ_eq_append_getElem hlt, List.map_append, List.map_append]; rfl
          have HTK := Lib.hid htk; clear htk
          have hjl : j < 1000 := by have := HLL.out; omega
          go_wp2_with (at_builtin; refine wpList_append2 _ rfl (.tmp 27) (.tmp 30) 53 rfl 3 i0 (.int .i64 0) 1 8 Tryz.underlying53 hi hz0 hz1 hz2 rfl (by decide) _ j (((l'.take j).map Ex.num).map (Value.int .i64)) rfl (HROW.out.alloc _ |>.alloc _) ⟨_, 0, none⟩ 1 1 [.int .i64 (l'[j]'hlt).num] rfl rfl ?c1 ?c2 ?c3 ?c4 (by decide) ?_)
          case c1 => exact cell_new1 _ _ _ _
          case c2 => intro u hu; simp at hu; subst hu; rfl
          case c3 => unfold maxLen; omega
          case c4 => omega
          intro g cap1 w4 hgr
          have hx3 := (((Keep.of_ext (O := fun k => u3.ownBlock = some k) ((HX.out.alloc _).alloc _)).grown hgr.grown (fun k hk => .inl hk))).ext (Ext.refl _) (fun x hx => by have := HF.out x hx; omega)
          have hfr : ∀ k, (Value.slice (some ⟨g, 0, none⟩) (j + 1) cap1).ownBlock = some k → w3.heap.size ≤ k := fun k hk => by
            simp [Value.ownBlock] at hk
            subst hk
            rcases hgr.new with h | h
            · exact HF.out g h
            · have := HX.out.size; simp at this h; omega
          have hrow3 := hgr.row
          have HROW3 := Lib.hid hrow3; clear hrow3
          have HFR := Lib.hid hfr; clear hfr
          have HX3 := Lib.hid hx3; clear hx3
          clear hgr
          go_wp2_with fail
          go_roundw
          case rel => exact ⟨j + 1, by go_num, by omega, by rw [HTK.out]; simpa only [List.map_map, List.map_take] using HROW3.out, HFR.out, HX3.out, HNX.out⟩
          case measure => simp [intOf]; omega
        · have ha' : ((l'[j]'hlt).op == 1) = false := by simpa using ha
          have hRk : R = .mk o m s l' := by
            rw [HR.out, if_neg]
            intro h
            have := List.all_eq_true.1 h (l'[j]'hlt) (List.getElem_mem hlt)
            exact ha this
          have hall2 := fun obj => RetEx.alloc (obj := obj) (RetEx.end4 (D0 := fun _ => False) (w2 := wr) (B := w.heap.size + 1) (N := w.heap.size + 2) (HW3.out.trans HX.out) ((HEX.out.ext HX.out).mono (D' := fun k => False ∨ w.heap.size + 2 ≤ k) (fun b hb _ => hb.imp id (fun h => by simp at h; omega))) (Nat.le_succ _) (Nat.lt_succ_self _) (fun _ h => h.elim))
          rw [← hRk] at hall2
          have t5 := St4.keep (Keep.of_ext (O := fun _ => False) ((Ext.refl _).alloc (.cells #[.int .i64 (l'[j]'hlt).op, .int .i64 (l'[j]'hlt).num, .string (l'[j]'hlt).name, .slice p' (l'[j]'hlt).args.length cp'] 24))) (fun h => h) (St4.set4 HT2.out (.int .i64 o) (.int .i64 m) (.string s) (.slice (some ⟨b, off, none⟩) l'.length k5))
          have H5 := Lib.hid (St4.cells t5); clear t5
          have HR2 := Lib.hid hall2; clear hall2 hRk ha
          go_wp2_with fail
          obtain ⟨e0, e1, e2, e3⟩ := H5.out
          refine bodyPost_ret (v := .agg #[.int .i64 o, .int .i64 m, .string s, .slice (some ⟨b, off, none⟩) l'.length k5]) (by simp [results, Tryz.results26, go_sem, e0, e1, e2, e3]) rfl ?_
          exact HR2.out _
      · have : j = l'.length := by omega
        subst this
        have hall : l'.all (fun a => a.op == 1) = true := by have := HALL.out; rw [List.take_length] at this; exact this
        have hRk : R = .mk 1 (operS o (l'.map Ex.num)) ⟨#[]⟩ [] := by rw [HR.out, if_pos hall]
        have hrow9 : wr.ownsRow 0 3 1 u3 (l'.map Ex.num).length ((l'.map Ex.num).map (Value.int .i64)) := by
          have h := HROW.out
          rw [List.take_length] at h
          simpa using h
        have hints := ints_own hrow9
        have HI := Lib.hid hints; clear hints hrow9
        have hbd : ∀ x, x ∈ l'.map Ex.num → Wd x := fun x hx => by
          obtain ⟨y, hy, rfl⟩ := List.mem_map.1 hx
          have h1 := List.all_eq_true.1 hall y hy
          rw [HL'.out] at hy
          obtain ⟨a, hal, rfl⟩ := List.mem_map.1 hy
          exact fold_num a (HMEM.out a hal) (by simpa using h1)
        have hop2 : operB o (l'.map Ex.num).length = true := by rw [List.length_map, HLL.out]; exact HOP.out
        have hcon := operate_any o (l'.map Ex.num) u3 wr HI.out hop2 o1 o25 (by simpa using q1) (by simpa using q2) (by simpa using q3) (by simpa using q4) hbd
        have hxb := operS_bd o (l'.map Ex.num) hbd
        have hxb2 : -9223372036854775808 ≤ operS o (l'.map Ex.num) ∧ operS o (l'.map Ex.num) ≤ 9223372036854775807 := by unfold Wd at hxb; omega
        clear hbd hop2 hxb hall
        generalize operS o (l'.map Ex.num) = x at *
        have HRK := Lib.hid hRk; clear hRk
        have HCON := Lib.hid hcon; clear hcon
        have hend : ∀ W, Ext wr W → RetEx (fun _ => False) R w (.returned (.agg #[.int .i64 1, .int .i64 x, .string ⟨#[]⟩, .slice none 0 0])) _ := fun W hx => by
          rw [HRK.out]
          exact RetEx.end4 (w2 := W) (B := w.heap.size + 1) (N := w.heap.size + 2) (D1 := fun _ => False) (HW3.out.trans (HX.out.trans hx)) (ex_leaf _ _ 1 x ⟨#[]⟩ (by omega) hxb2 (by decide)) (by omega) (by omega) (fun _ h => h.elim)
        have HEND := Lib.hid hend; clear hend hxb2
        go_wp2_with (go_at_call 38; refine (HCON.out).mono ?_; rintro e w' ⟨rfl, hy⟩; have t3 := St4.keep (Keep.of_ext (O := fun _ => False) hy) (fun h => h) HT2.out; obtain ⟨dd0, dd1, dd2, dd3⟩ := St4.cells t3; obtain ⟨gg0, gg1, gg2, gg3⟩ := St4.frozen t3; clear t3; have HY := Lib.hid hy; clear hy)
        refine bodyPost_ret (v := .agg #[.int .i64 1, .int .i64 x, .string ⟨#[]⟩, .slice none 0 0]) (by simp [results, Tryz.results26, go_sem, dd0, dd1, dd2, dd3]) rfl ?_
        exact HEND.out _ HY.out
end Go.Proofs.YtibfoafepjggjaaGreatDoor

namespace Go.Proofs.YtibfoafepjggjaaGreatDoor
open Go.RowKit

def FoldE (e : Ex) : Ex := if validE e = 0 then foldE e else e
set_option maxRecDepth 100000 in
theorem Fold_any (e : Ex) (hs : Slim e) (v : Value) (w : World) (hv : ExVal w e v) (hk : Keys w) (hd : edepth e ≤ 1000000) (hz : esize e ≤ 1000000) :
    Calls Tryz.prog 10 #[v] w (RetEx (fun _ => False) (FoldE e) w) := by
  have h1 := fun w1 (hx : Ext w w1) => valid_any e w1 v (hv.ext hx) (hk.ext hx) hd hz
  have h2 := fun w1 (hx : Ext w w1) => copied_any e hs v w1 (hv.ext hx)
  have h3 := fun w1 (hx : Ext w w1) (he : validE e = 0) => fold_any e (validE_err he) v w1 (hv.ext hx)
  obtain ⟨R, hR⟩ : ∃ R, R = FoldE e := ⟨_, rfl⟩
  rw [← hR]
  unfold FoldE at hR
  have HR := Lib.hid hR; clear hR
  obtain ⟨p, cp, rfl, -⟩ := ex_open hv
  have H1 := Lib.hid h1; clear h1
  have H2 := Lib.hid h2; clear h2
  have H3 := Lib.hid h3; clear h3
  clear hv hk
  generalize validE e = y at *
  go_enter Tryz.func10, Tryz.ntmps10
  by_cases hy : (y == 0) = true
  · have hn : (y != 0) = false := by simpa using hy
    have hy0 : y = 0 := by simpa using hy
    have HY0 := Lib.hid hy0; clear hy0
    have HX0 := Lib.hid (((Ext.refl w).alloc (.cells #[.int .i64 e.op, .int .i64 e.num, .string e.name, .slice p e.args.length cp] 24)).alloc (.cells #[.int .i64 0, .int .i64 0, .string ⟨#[]⟩, .slice none 0 0] 24))
    go_wp2_with (go_at_call 20; refine (H1.out _ HX0.out).mono ?_; rintro e w' ⟨rfl, hx⟩; obtain ⟨c0, c1, c2, c3⟩ := St4.cells hx.two4.1; have HX1 := Lib.hid hx; clear hx)
    have hRe : R = foldE e := by rw [HR.out, if_pos HY0.out]
    refine (H3.out _ HX1.out.past.past HY0.out).mono ?_
    rintro en w2 ⟨cs2, rfl, hcs2, hy⟩
    obtain ⟨k0, k1, k2, k3, k4, k5, rfl⟩ := ex_cells hcs2
    have hyx := HX1.out.trans hy
    obtain ⟨hs1, hs2⟩ := hyx.two4
    obtain ⟨d0, d1, d2, d3⟩ := St4.cells hs2
    obtain ⟨g0, g1, g2, g3⟩ := St4.frozen hs2
    clear hs1 hs2
    have hsz : w.heap.size + 1 < w'.heap.size := by have := HX1.out.size; simp at this; omega
    have hend := RetEx.end4 (B := w.heap.size + 1) (D0 := fun _ => False) hyx.past.past (hcs2.mono (D' := fun k => False ∨ w.heap.size + 2 ≤ k) (fun b hb _ => hb.imp id (fun h => by omega))) (Nat.le_succ _) (Nat.lt_succ_self _) (fun _ h => h.elim)
    rw [← hRe] at hend
    have HEND := Lib.hid hend; clear hend hcs2 hyx hy hRe
    go_wp2_with fail
    refine bodyPost_ret (v := .agg #[.int .i64 k0, .int .i64 k1, .string k2, .slice k3 k4 k5]) (by simp [results, Tryz.results10, go_sem, d0, d1, d2, d3]) rfl ?_
    exact HEND.out
  · have hn : (y != 0) = true := by simpa using hy
    have hy0 : ¬ y = 0 := by simpa using hy
    have HY0 := Lib.hid hy0; clear hy0
    have HX0 := Lib.hid (((Ext.refl w).alloc (.cells #[.int .i64 e.op, .int .i64 e.num, .string e.name, .slice p e.args.length cp] 24)).alloc (.cells #[.int .i64 0, .int .i64 0, .string ⟨#[]⟩, .slice none 0 0] 24))
    go_wp2_with (go_at_call 20; refine (H1.out _ HX0.out).mono ?_; rintro e w' ⟨rfl, hx⟩; obtain ⟨c0, c1, c2, c3⟩ := St4.cells hx.two4.1; have HX1 := Lib.hid hx; clear hx)
    have hRe : R = e := by rw [HR.out, if_neg HY0.out]
    refine (H2.out _ HX1.out.past.past).mono ?_
    rintro en w2 ⟨cs2, rfl, hcs2, hy⟩
    obtain ⟨k0, k1, k2, k3, k4, k5, rfl⟩ := ex_cells hcs2
    have hyx := HX1.out.trans hy
    obtain ⟨hs1, hs2⟩ := hyx.two4
    obtain ⟨d0, d1, d2, d3⟩ := St4.cells hs2
    obtain ⟨g0, g1, g2, g3⟩ := St4.frozen hs2
    clear hs1 hs2
    have hsz : w.heap.size + 1 < w'.heap.size := by have := HX1.out.size; simp at this; omega
    have hend := RetEx.end4 (B := w.heap.size + 1) (D0 := fun _ => False) hyx.past.past (hcs2.mono (D' := fun k => False ∨ w.heap.size + 2 ≤ k) (fun b hb _ => hb.imp id (fun h => by omega))) (Nat.le_succ _) (Nat.lt_succ_self _) (fun _ h => h.elim)
    rw [← hRe] at hend
    have HEND := Lib.hid hend; clear hend hcs2 hyx hy hRe
    go_wp2_with fail
    refine bodyPost_ret (v := .agg #[.int .i64 k0, .int .i64 k1, .string k2, .slice k3 k4 k5]) (by simp [results, Tryz.results10, go_sem, d0, d1, d2, d3]) rfl ?_
    exact HEND.out
end Go.Proofs.YtibfoafepjggjaaGreatDoor
