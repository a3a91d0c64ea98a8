/-
  Walks: rebuilt, copied.
-/
import Derived.Test.YtibfoafepjggjaaDoorRebuilt
import Derived.Laws.ResultCell
namespace Go.Proofs.YtibfoafepjggjaaDoor
open Go.RowKit

/-- What a function that changes an operand is known to do. -/
def By (F : FuncId) (cap : Array Value) (D0 : Nat → Prop) (f : Ex → Ex) (w0 : World) (l : List Ex) : Prop :=
  ∀ a, a ∈ l → ∀ (v : Value) (w : World), Ext w0 w → ExVal w0 a v → Calls Tryd.prog F (#[v] ++ cap) w (RetEx D0 (f a) w)

set_option maxRecDepth 100000 in
set_option maxHeartbeats 2000000 in
theorem rebuilt_any {F : FuncId} {cap : Array Value} (f : Ex → Ex) (hF : ∀ args w, (callFunc F args).run Tryd.prog w = .ok (.enter F args) w) (D0 : Nat → Prop) (w0 : World)
    (hD0 : ∀ k, D0 k → k < w0.heap.size) (e : Ex) (hby : By F cap D0 f w0 e.args) (hlen : e.args.length ≤ 1000000000) (v : Value) (w : World) (h0 : Ext w0 w) (hv : ExVal w0 e v) :
    Calls Tryd.prog 49 #[v, .func (.func F) #[] cap] w (RetEx D0 (.mk e.op e.num e.name (e.args.map f)) w) := by
  obtain ⟨q, cp, rfl, hl, h1, h2, hbo, hbn, hbs⟩ := ex_open hv
  cases e with
  | mk o m nm l =>
  simp only [Ex.op, Ex.num, Ex.name, Ex.args] at *
  have HBO := Lib.hid (And.intro hbo (And.intro hbn hbs)); clear hbo hbn hbs
  have HB := Lib.hid hby; clear hby
  have HL := Lib.hid hl; clear hl
  have H0 := Lib.hid h0; clear h0
  have HD := Lib.hid hD0; clear hD0
  clear hv
  obtain ⟨i0, hi, hz0, hz1, hz2⟩ := info_parts Tryd.infoE
  have HF := Lib.hid hF
  go_enter Tryd.func49, Tryd.ntmps49
  go_wp2_with fail
  go_loopw [5, 11, 7] (fun u i _ wr => ∃ (j : Nat) (css : List (List Value)), i = .int .i64 j ∧ j ≤ l.length ∧ Built D0 (w.heap.size + 2) ((l.take j).map f) u css wr ∧ Ext ((w.alloc (.cells #[.int .i64 o, .int .i64 m, .string nm, .slice q l.length cp] 24)).alloc (.cells #[.int .i64 0, .int .i64 0, .string ⟨#[]⟩, .slice none 0 0] 24)) wr) (fun _ i _ _ => l.length - (intOf i).toNat)
  case atStart => exact ⟨0, [], rfl, Nat.zero_le _, Built.nil _ _ _, Ext.refl _⟩
  case round =>
    obtain ⟨j, css, rfl, hj, hbuilt, hext⟩ := hrel
    have hsz : w.heap.size + 2 ≤ wr.heap.size := by have := hext.size; simp at this; omega
    have hcl : css.length = j := by have := hbuilt.len; simp at this; omega
    have HBU := Lib.hid hbuilt; clear hbuilt
    have HX := Lib.hid hext; clear hext
    have HCL := Lib.hid hcl; clear hcl
    have h0r : Ext w0 wr := H0.out.trans HX.out.past.past
    have H0R := Lib.hid h0r; clear h0r
    by_cases hlt : j < l.length
    · obtain ⟨b, off, cs, rfl, hr, hc⟩ := exs_at HL.out hlt
      obtain ⟨sv, gv, gl, q2, q3, q4, q5⟩ := ex_row hr hc
      obtain ⟨p', cp', rfl, -, -⟩ := exs_shape gl
      have r2 := H0R.out.cell q2
      have r3 := H0R.out.cell q3
      have r4 := H0R.out.cell q4
      have r5 := H0R.out.cell q5
      clear q2 q3 q4 q5 hr hc gl
      have GV := Lib.hid gv; clear gv
      have hcon := fun w' hx => HB.out (l[j]'hlt) (List.getElem_mem hlt) (.agg #[.int .i64 (l[j]'hlt).op, .int .i64 (l[j]'hlt).num, .string (l[j]'hlt).name, .slice p' (l[j]'hlt).args.length cp']) w' hx GV.out
      have HCON := Lib.hid hcon; clear hcon
      go_wp2_with fail
      refine (HCON.out _ (H0R.out.alloc _)).mono ?_
      rintro en w2 ⟨cs2, rfl, hcs2, hy⟩
      obtain ⟨k0, k1, k2, k3, k4, k5, rfl⟩ := ex_cells hcs2
      have hxy : Ext wr w2 := ((Ext.refl wr).alloc _).trans hy
      have hbu2 := HBU.out.ext (hxy.alloc (.cells #[.int .i64 k0, .int .i64 k1, .string k2, .slice k3 k4 k5] 24))
      have HBU2 := Lib.hid hbu2; clear hbu2
      have HCS := Lib.hid (ExIn.ext ((Ext.refl w2).alloc (.cells #[.int .i64 k0, .int .i64 k1, .string k2, .slice k3 k4 k5] 24)) (hcs2.mono (D' := fun k => D0 k ∨ wr.heap.size ≤ k) (fun b hb _ => hb.imp id (fun h => by simp at h; omega)))); clear hcs2
      have HXY := Lib.hid hxy; clear hxy
      clear hy
      go_wp2_with (at_builtin; refine wpList_append2 _ rfl (.tmp 15) (.tmp 19) 22 rfl 24 i0 (.agg #[.int .i64 0, .int .i64 0, .string ⟨#[]⟩, .slice none 0 0]) 4 56 Tryd.underlying22 hi hz0 hz1 hz2 rfl (by decide) u5 css.length css.flatten rfl HBU2.out.row ⟨w2.heap.size, 0, none⟩ 1 1 [.int .i64 k0, .int .i64 k1, .string k2, .slice k3 k4 k5] rfl rfl ?c1 ?c2 ?c3 ?c4 (by decide) ?_)
      case c1 => exact cells_at _ _ _ _ _ _
      case c2 => intro u hu; simp at hu; rcases hu with rfl | rfl | rfl | rfl <;> rfl
      case c3 => unfold maxLen; have := HCL.out; omega
      case c4 => have := HCL.out; omega
      intro g cap1 w3 hgr
      have hst := HBU.out.step (fun k hk => by have := HD.out k hk; have := H0.out.size; omega) (by omega) (HXY.out.alloc _) HCS.out hgr
      have hx3 := ((((Keep.of_ext (O := fun k => u5.ownBlock = some k) (HX.out.trans HXY.out)).alloc _).grown hgr.grown (fun k hk => .inl hk))).ext (Ext.refl _) (fun x hx => by have := HBU.out.new x hx; simp; omega)
      have HST := Lib.hid hst; clear hst
      have HX3 := Lib.hid hx3; clear hx3
      clear hgr
      go_wp2_with fail
      go_roundw
      case rel =>
        refine ⟨j + 1, css ++ [[.int .i64 k0, .int .i64 k1, .string k2, .slice k3 k4 k5]], by go_num, by omega, ?_, HX3.out⟩
        have h9 := HST.out
        rw [List.take_succ_eq_append_getElem hlt, List.map_append]
        exact h9
      case measure => simp [intOf]; omega
    · have : j = l.length := by omega
      subst this
      have hsl := HBU.out.slice
      obtain ⟨pu, cu, hu, -, -, -⟩ := hsl
      subst hu
      obtain ⟨hs1, hs2⟩ := HX.out.two4
      obtain ⟨c0, c1, c2, c3⟩ := St4.cells hs1
      obtain ⟨f0, f1, f2, f3⟩ := St4.frozen hs1
      obtain ⟨d0, d1, d2, d3⟩ := St4.cells hs2
      obtain ⟨g0, g1, g2, g3⟩ := St4.frozen hs2
      clear hs1 hs2
      go_wp2_with fail
      have hk : Keep (fun k => w.heap.size ≤ k ∧ k < w.heap.size + 2) wr (((((wr.setCell { block := w.heap.size, off := 3 } (Value.slice pu css.length cu)).setCell { block := w.heap.size + 1, off := 0 } (Value.int IntKind.i64 o)).setCell { block := w.heap.size + 1, off := 1 } (Value.int IntKind.i64 m)).setCell { block := w.heap.size + 1, off := 2 } (Value.string nm)).setCell { block := w.heap.size + 1, off := 3 } (Value.slice pu css.length cu)) := by
        refine Keep.setCell (Keep.setCell (Keep.setCell (Keep.setCell (Keep.setCell (Keep.refl _ _) (.inl ?_) _) (.inl ?_) _) (.inl ?_) _) (.inl ?_) _) (.inl ?_) _ <;> (constructor <;> simp only [] <;> omega)
      have hext := hk.ext HX.out.past.past (fun x hx => hx.1)
      have hex := (HBU.out.expr HBO.out.1 HBO.out.2.1 HBO.out.2.2).keep hk (fun b hb ho => by rcases hb with hb | hb; · have := HD.out b hb; have := H0.out.size; omega
                                                                                              · omega)
      rw [List.take_length] at hex
      refine bodyPost_ret (v := .agg #[.int .i64 o, .int .i64 m, .string nm, .slice pu css.length cu]) (by simp [results, Tryd.results49, go_sem, d0, d1, d2, d3]) rfl ?_
      exact ⟨_, rfl, hex.mono (fun b hb _ => hb.imp id (fun h => by omega)), hext⟩
end Go.Proofs.YtibfoafepjggjaaDoor
