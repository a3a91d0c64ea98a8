/-
  Walks: copied, Subst.
-/
import Derived.Test.YtibfoafepjggjaaDoorRebuiltW
namespace Go.Proofs.YtibfoafepjggjaaDoor
open Go.RowKit

mutual
/-- No list of the expression is longer than memory can take. -/
def Slim : Ex → Prop
  | .mk _ _ _ l => l.length ≤ 1000000000 ∧ Slims l
def Slims : List Ex → Prop
  | [] => True
  | a :: r => Slim a ∧ Slims r
end
theorem Slims.mem {l : List Ex} (h : Slims l) {a : Ex} (ha : a ∈ l) : Slim a := by
  induction l with
  | nil => cases ha
  | cons b r ih =>
    rw [Slims] at h
    rcases List.mem_cons.1 ha with rfl | ha
    · exact h.1
    · exact ih h.2 ha
theorem Slim.len {e : Ex} (h : Slim e) : e.args.length ≤ 1000000000 := by cases e; rw [Slim] at h; exact h.1
theorem Slim.mem {e : Ex} (h : Slim e) {a : Ex} (ha : a ∈ e.args) : Slim a := by cases e; rw [Slim] at h; exact h.2.mem ha

theorem RetEx.end4 {D0 D1 : Nat → Prop} {e : Ex} {w w2 : World} {B N : Nat} {x y z t : Value} (hx : Ext w w2) (h : ExIn (fun k => D1 k ∨ N ≤ k) w2 e [x, y, z, t]) (hw : w.heap.size ≤ B) (hB : B < N) (hd : ∀ k, D1 k → D0 k ∧ k < w.heap.size) :
    RetEx D0 e w (.returned (.agg #[x, y, z, t])) ((((w2.setCell ⟨B, 0, none⟩ x).setCell ⟨B, 1, none⟩ y).setCell ⟨B, 2, none⟩ z).setCell ⟨B, 3, none⟩ t) := by
  have hk : Keep (fun k => k = B) w2 ((((w2.setCell ⟨B, 0, none⟩ x).setCell ⟨B, 1, none⟩ y).setCell ⟨B, 2, none⟩ z).setCell ⟨B, 3, none⟩ t) :=
    Keep.setCell (p := ⟨B, 3, none⟩) (Keep.setCell (p := ⟨B, 2, none⟩) (Keep.setCell (p := ⟨B, 1, none⟩) (Keep.setCell (p := ⟨B, 0, none⟩) (Keep.refl (fun k => k = B) w2) (.inl rfl) _) (.inl rfl) _) (.inl rfl) _) (.inl rfl) _
  refine ⟨_, rfl, (h.keep hk (fun b hb ho => ?_)).mono (fun b hb _ => hb.imp (fun h => (hd b h).1) (fun h => by omega)), hk.ext hx (fun x hx => by omega)⟩
  rcases hb with hb | hb
  · have := (hd b hb).2; omega
  · omega

theorem Tryd.copiedF : ∀ args w, (callFunc 48 args).run Tryd.prog w = .ok (.enter 48 args) w := callFunc_enter Tryd.func48 (by kernel_rfl) (by kernel_rfl)

theorem Ex.eta (e : Ex) : Ex.mk e.op e.num e.name e.args = e := by cases e; rfl
set_option maxRecDepth 100000 in
theorem copied_any (e : Ex) : Slim e → ∀ (v : Value) (w : World), ExVal w e v → Calls Tryd.prog 48 #[v] w (RetEx (fun _ => False) e w) := by
  induction e using Ex.ind with
  | h o m s l ih =>
  intro hs v w hv
  have IH := Lib.hid ih; clear ih
  have HS := Lib.hid hs; clear hs
  have hc : ∀ w1, Ext w w1 → Calls Tryd.prog 49 #[v, .func (.func 48) #[] #[]] w1 (RetEx (fun _ => False) (.mk o m s l) w1) := by
    intro w1 hx
    have := rebuilt_any (cap := #[]) id Tryd.copiedF (fun _ => False) w1 (fun _ h => h.elim) (.mk o m s l) (fun a ha v w h0 hv => IH.out a ha (HS.out.mem ha) v w (hv.ext h0)) HS.out.len v w1 (Ext.refl _) (hv.ext hx)
    simpa only [Ex.op, Ex.num, Ex.name, Ex.args, List.map_id_fun, id_eq] using this
  obtain ⟨p, cp, rfl, hl, h1, h2, -, -, -⟩ := ex_open hv
  have HC := Lib.hid hc; clear hc
  clear hv hl
  simp only [Ex.op, Ex.num, Ex.name, Ex.args] at *
  go_enter Tryd.func48, Tryd.ntmps48
  go_wp2_with fail
  refine (HC.out _ (((Ext.refl w).alloc _).alloc _)).mono ?_
  rintro en w2 ⟨cs2, rfl, hcs2, hy⟩
  obtain ⟨k0, k1, k2, k3, k4, k5, rfl⟩ := ex_cells hcs2
  obtain ⟨hs1, hs2⟩ := hy.two4
  obtain ⟨d0, d1, d2, d3⟩ := St4.cells hs2
  obtain ⟨g0, g1, g2, g3⟩ := St4.frozen hs2
  clear hs1 hs2
  have HCS := Lib.hid hcs2; clear hcs2
  have HX := Lib.hid hy; clear hy
  go_wp2_with fail
  refine bodyPost_ret (v := .agg #[.int .i64 k0, .int .i64 k1, .string k2, .slice k3 k4 k5]) (by simp [results, Tryd.results48, go_sem, d0, d1, d2, d3]) rfl ?_
  exact RetEx.end4 HX.out.past.past HCS.out (by omega) (by simp) (fun _ h => h.elim)
end Go.Proofs.YtibfoafepjggjaaDoor
