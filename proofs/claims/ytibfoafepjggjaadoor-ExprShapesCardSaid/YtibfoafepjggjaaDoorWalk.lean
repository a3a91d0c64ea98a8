/-
  Walks: a walk over the nodes of an expression, whatever the visiting function.
-/
import Derived.Test.YtibfoafepjggjaaDoorKeep
import Derived.Test.YtibfoafepjggjaaDoorNodeErr
import Derived.Outline
namespace Go.Proofs.YtibfoafepjggjaaDoor
open Go.RowKit

def DownPost {σ : Type} (I : (Nat → Prop) → σ → World → Prop) (O : Nat → Prop) (r : σ × Bool) (w : World) (e : Ending) (w' : World) : Prop :=
  e = .returned (.bool r.2) ∧ ∃ O', I O' r.1 w' ∧ (∀ k, O' k → O k ∨ w.heap.size ≤ k) ∧ Keep O w w'

set_option maxRecDepth 100000 in
set_option maxHeartbeats 1000000 in
theorem down_any {σ : Type} {next : σ → Ex → σ × Bool} {I : (Nat → Prop) → σ → World → Prop} {Q : Ex → Prop} {w0 : World} {F : FuncId} {cap : Array Value}
    (hF : ∀ args w, (callFunc F args).run Tryd.prog w = .ok (.enter F args) w) (H : Visits Tryd.prog w0 F cap next I Q) (b3 b4 : Nat) :
    ∀ (e : Ex) (O : Nat → Prop) (s : σ) (w : World) (v : Value), Q e → Ext w0 w → ExVal w0 e v → I O s w → ¬ O b3 → ¬ O b4 →
      One b3 34 (.func (.func F) #[] cap) w → One b4 34 (.func (.func 53) #[] #[.pointer (some ⟨b3, 0, none⟩), .pointer (some ⟨b4, 0, none⟩)]) w →
      Calls Tryd.prog 53 #[v, .pointer (some ⟨b3, 0, none⟩), .pointer (some ⟨b4, 0, none⟩)] w (DownPost I O (walkE next e s) w) := by
  intro e
  induction e using Ex.ind with
  | h o m nm l ih =>
    intro O s w v hq h0 hv hI n3 n4 h3 h4
    have HQ := Lib.hid hq; clear hq
    have IH := Lib.hid ih; clear ih
    obtain ⟨p, cp, rfl, hl, h1, h2, -, -, -⟩ := ex_open hv
    simp only [Ex.op, Ex.num, Ex.name, Ex.args] at *
    have HV := Lib.hid hv; clear hv
    have HL := Lib.hid hl; clear hl
    have HI := Lib.hid hI; clear hI
    have H0 := Lib.hid h0; clear h0
    have N3 := Lib.hid n3; clear n3
    have N4 := Lib.hid n4; clear n4
    have c3 := h3.cell
    have c4 := h4.cell
    have l3 := h3.lt
    have l4 := h4.lt
    have H3 := Lib.hid h3; clear h3
    have H4 := Lib.hid h4; clear h4
    have HH := Lib.hid H; clear H
    have HL3 := Lib.hid l3
    have HL4 := Lib.hid l4
    have hw : walkE next (.mk o m nm l) s = if (next s (.mk o m nm l)).2 then walkL next l (next s (.mk o m nm l)).1 else ((next s (.mk o m nm l)).1, false) := by rw [walkE]
    generalize hs1 : (next s (.mk o m nm l)).1 = s1 at hw
    generalize hg1 : (next s (.mk o m nm l)).2 = g1 at hw
    generalize walkE next (.mk o m nm l) s = R at *
    have HW := Lib.hid hw; clear hw
    have HS1 := Lib.hid hs1; clear hs1
    have HG1 := Lib.hid hg1; clear hg1
    go_enter Tryd.func53, Tryd.ntmps53
    go_wp2_with fail
    refine (HH.out.call HQ.out (H0.out.alloc _) (HH.out.stays HI.out (fun k hk => Below.heap_alloc _ _ _ (HH.out.lt HI.out k hk).2)) HV.out).mono ?_
    rintro en w1 ⟨rfl, O1, hI1, hO1, hk1⟩
    rw [HS1.out] at hI1
    rw [HG1.out]
    have n31 : ¬ O1 b3 := fun hx => (hO1 b3 hx).elim N3.out (fun h => by simp at h; have := HL3.out; omega)
    have n41 : ¬ O1 b4 := fun hx => (hO1 b4 hx).elim N4.out (fun h => by simp at h; have := HL4.out; omega)
    have n51 : ¬ O1 w.heap.size := fun hx => (hO1 _ hx).elim (fun h => by have := (HH.out.lt HI.out _ h).2; omega) (fun h => by simp at h; omega)
    have hkw : Keep O w w1 := (Keep.of_ext ((Ext.refl w).alloc _)).trans hk1 (fun x hx => .inl hx)
    have hO1w : ∀ k, O1 k → O k ∨ w.heap.size ≤ k := fun k hk => (hO1 k hk).imp id (fun h => by simp at h; omega)
    have h01 : Ext w0 w1 := hkw.ext H0.out (fun k hk => (HH.out.lt HI.out k hk).1)
    have c5 : w1.cell? ⟨w.heap.size, 3, none⟩ = some (.slice p l.length cp) := hk1.cell (fun hx => by have := (HH.out.lt HI.out _ hx).2; simp at this) (by simp [World.cell?_alloc_new])
    have g3 := One.keep hkw N3.out H3.out
    have g4 := One.keep hkw N4.out H4.out
    have HI1 := Lib.hid hI1; clear hI1
    have HO1 := Lib.hid hO1; clear hO1
    have HK1 := Lib.hid hk1; clear hk1
    have N31 := Lib.hid n31; clear n31
    have N41 := Lib.hid n41; clear n41
    have N51 := Lib.hid n51; clear n51
    have HKW := Lib.hid hkw; clear hkw
    have HO1W := Lib.hid hO1w; clear hO1w
    have H01 := Lib.hid h01; clear h01
    have G3 := Lib.hid g3; clear g3
    have G4 := Lib.hid g4; clear g4
    clear c3 c4 l3 l4
    cases g1 with
    | false =>
      go_wp2_with fail
      go_ret
      rw [HW.out]
      exact ⟨rfl, O1, HI1.out, HO1W.out, HKW.out⟩
    | true =>
      go_wp2_with fail
      go_loopw [14, 6] (fun i _ wr => ∃ (j : Nat) (O2 : Nat → Prop) (s2 : σ), i = .int .i64 j ∧ j ≤ l.length ∧ I O2 s2 wr ∧ (∀ k, O2 k → O1 k ∨ w1.heap.size ≤ k) ∧ Keep O1 w1 wr ∧ walkL next (l.drop j) s2 = walkL next l s1) (fun i _ _ => l.length - (intOf i).toNat)
      case atStart => exact ⟨0, O1, s1, rfl, Nat.zero_le _, HI1.out, fun k hk => .inl hk, Keep.refl _ _, rfl⟩
      case round =>
        obtain ⟨j, O2, s2, rfl, hj, hI2, hO2, hk2, hrec⟩ := hrel
        have HR := Lib.hid hrec; clear hrec
        have HI2 := Lib.hid hI2; clear hI2
        have hO2w : ∀ k, O2 k → O k ∨ w.heap.size ≤ k := fun k hk => (hO2 k hk).elim (fun h => HO1W.out k h) (fun h => .inr (Nat.le_trans HKW.out.size h))
        have hkw2 : Keep O w wr := HKW.out.trans hk2 HO1W.out
        have HO2W := Lib.hid hO2w; clear hO2w
        have HKW2 := Lib.hid hkw2; clear hkw2
        by_cases hlt : j < l.length
        · obtain ⟨b, off, cs, rfl, hr, hc⟩ := exs_at HL.out hlt
          have h02 : Ext w0 wr := hk2.ext H01.out (fun k hk => (HH.out.lt HI1.out k hk).1)
          obtain ⟨sv, gv, gl, q2, q3, q4, q5⟩ := ex_row hr hc
          obtain ⟨p', cp', rfl, -, -⟩ := exs_shape gl
          clear gl
          have r2 := h02.cell q2
          have r3 := h02.cell q3
          have r4 := h02.cell q4
          have r5 := h02.cell q5
          clear q2 q3 q4 q5 hr hc
          have n32 : ¬ O2 b3 := fun hx => (hO2 b3 hx).elim N31.out (fun h => by have := HL3.out; have := HKW.out.size; omega)
          have n42 : ¬ O2 b4 := fun hx => (hO2 b4 hx).elim N41.out (fun h => by have := HL4.out; have := HKW.out.size; omega)
          have f3 := (One.keep hk2 N31.out G3.out)
          have f4 := (One.keep hk2 N41.out G4.out)
          have d4 := f4.cell
          have e4 := f4.lt
          have F3 := Lib.hid f3; clear f3
          have F4 := Lib.hid f4; clear f4
          have N32 := Lib.hid n32; clear n32
          have N42 := Lib.hid n42; clear n42
          have H02 := Lib.hid h02; clear h02
          have HO2 := Lib.hid hO2; clear hO2
          have HK2 := Lib.hid hk2; clear hk2
          have GV := Lib.hid gv; clear gv
          have hwl : walkL next (l.drop j) s2 = if (walkE next l[j] s2).2 then walkL next (l.drop (j + 1)) (walkE next l[j] s2).1 else ((walkE next l[j] s2).1, false) := by
            rw [List.drop_eq_getElem_cons hlt, walkL]
          have HWL := Lib.hid hwl; clear hwl
          go_wp2_with fail
          refine (IH.out l[j] (by simp) O2 s2 _ _ (HH.out.sub HQ.out _ (by simp)) (H02.out.alloc _) GV.out (HH.out.stays HI2.out (fun k hk => Below.heap_alloc _ _ _ (HH.out.lt HI2.out k hk).2)) N32.out N42.out (F3.out.alloc _) (F4.out.alloc _)).mono ?_
          rintro en w2 ⟨rfl, O3, hI3, hO3, hk3⟩
          have hk3' : Keep O2 wr w2 := (Keep.of_ext ((Ext.refl wr).alloc _)).trans hk3 (fun x hx => .inl hx)
          have hO3' : ∀ k, O3 k → O2 k ∨ wr.heap.size ≤ k := fun k hk => (hO3 k hk).imp id (fun h => by simp at h; omega)
          have hK13 : Keep O1 w1 w2 := HK2.out.trans hk3' HO2.out
          have hO13 : ∀ k, O3 k → O1 k ∨ w1.heap.size ≤ k := fun k hk => (hO3' k hk).elim (fun h => HO2.out k h) (fun h => .inr (Nat.le_trans HK2.out.size h))
          have HI3 := Lib.hid hI3; clear hI3
          have HO13 := Lib.hid hO13; clear hO13
          have HK13 := Lib.hid hK13; clear hK13
          clear hO3 hk3 hk3' hO3'
          generalize hr3 : (walkE next l[j] s2).1 = s3 at *
          have HR3 := Lib.hid hr3; clear hr3
          cases hg : (walkE next l[j] s2).2 with
          | false =>
            go_wp2_with fail
            go_ret
            have h9 := HWL.out
            rw [hg] at h9
            rw [HW.out, if_pos trivial, ← HR.out, h9, if_neg (by simp)]
            exact ⟨rfl, O3, HI3.out, fun k hk => (HO13.out k hk).elim (fun h => HO1W.out k h) (fun h => .inr (Nat.le_trans HKW.out.size h)), HKW.out.trans HK13.out HO1W.out⟩
          | true =>
            have h9 := HWL.out
            rw [hg, if_pos rfl] at h9
            have H9 := Lib.hid h9; clear h9
            go_wp2_with fail
            go_roundw
            case rel => exact ⟨j + 1, O3, s3, by go_num, by omega, HI3.out, HO13.out, HK13.out, by rw [← HR.out, H9.out]⟩
            case measure => simp [intOf]; omega
        · have : j = l.length := by omega
          subst this
          go_wp2_with fail
          go_ret
          have hr := HR.out
          simp only [List.drop_length, walkL] at hr
          rw [HW.out, if_pos trivial, ← hr]
          exact ⟨rfl, O2, HI2.out, HO2W.out, HKW2.out⟩
end Go.Proofs.YtibfoafepjggjaaDoor
