/-
  Walks: Depth.
-/
import Derived.Test.YtibfoafepjggjaaDoorData
import Derived.WalkSpells
import Derived.WalkLawsBesides
import Derived.Test.YtibfoafepjggjaaDoorRows
namespace Go.Proofs.YtibfoafepjggjaaDoor
open Go.RowKit

mutual
def edepth : Ex → Nat
  | .mk _ _ _ l => edepths l + 1
def edepths : List Ex → Nat
  | [] => 0
  | a :: r => max (edepth a) (edepths r)
end
theorem edepths_mem {l : List Ex} {a : Ex} (h : a ∈ l) : edepth a ≤ edepths l := by
  induction l with
  | nil => cases h
  | cons b r ih =>
    simp only [edepths]
    rcases List.mem_cons.1 h with h | h
    · subst h; omega
    · have := ih h; omega

set_option maxRecDepth 100000 in
theorem depth_any (e : Ex) : ∀ (v : Value) (w : World), edepth e ≤ 1000000 → ExVal w e v →
    Calls Tryd.prog 15 #[v] w fun en w' => en = .returned (.int .i64 (edepth e)) ∧ Ext w w' := by
  induction e using Ex.ind with
  | h o m s l ih =>
    intro v w hd hv
    obtain ⟨p, cap, rfl, hl, h1, h2, -, -, -⟩ := ex_open hv
    simp only [Ex.op, Ex.num, Ex.name, Ex.args] at *
    have hd' : edepths l < 1000000 := by simp only [edepth] at hd; omega
    have hq : edepth (.mk o m s l) = edepths l + 1 := by simp only [edepth]
    generalize edepth (.mk o m s l) = R at *
    have HQ := Lib.hid hq; clear hq
    clear hd
    have HL := Lib.hid hl; clear hl
    have HV := Lib.hid hv; clear hv
    have IH := Lib.hid ih; clear ih
    go_enter Tryd.func15, Tryd.ntmps15
    go_wp2_with fail
    go_loopw [3, 9, 5] (fun d i _ wr => ∃ (dd j : Nat), d = .int .i64 dd ∧ i = .int .i64 j ∧ j ≤ l.length ∧ max dd (edepths (l.drop j)) = edepths l ∧ Ext w wr) (fun _ i _ _ => l.length - (intOf i).toNat)
    case atStart => exact ⟨0, 0, rfl, rfl, Nat.zero_le _, by simp, (Ext.refl w).alloc _⟩
    case round =>
      obtain ⟨dd, j, rfl, rfl, hj, hrec, hext⟩ := hrel
      have hdd : (dd : Int) < 1000000 := by omega
      have HR := Lib.hid hrec; clear hrec
      have HX := Lib.hid hext; clear hext
      by_cases hlt : j < l.length
      · obtain ⟨b, off, cs, rfl, hr, hc⟩ := exs_at HL.out hlt
        obtain ⟨sv, gv, gl, q2, q3, q4, q5⟩ := ex_row hr hc
        obtain ⟨p', cp', rfl, -, -⟩ := exs_shape gl
        have r2 := HX.out.cell q2
        have r3 := HX.out.cell q3
        have r4 := HX.out.cell q4
        have r5 := HX.out.cell q5
        clear q2 q3 q4 q5 hr hc gl
        have GV := Lib.hid gv; clear gv
        have hle := edepths_mem (List.getElem_mem hlt)
        go_wp2_with fail
        refine (IH.out l[j] (by simp) _ _ (by omega) (GV.out.ext (HX.out.alloc _))).mono ?_
        rintro e w' ⟨rfl, hx⟩
        have HY := Lib.hid hx; clear hx
        go_wp2_with fail
        go_roundw
        case rel =>
          refine ⟨max dd (edepth l[j]), j + 1, ?_, by go_num, by omega, ?_, (HX.out.alloc _).trans HY.out⟩
          · congr 1; omega
          · rw [← HR.out, List.drop_eq_getElem_cons hlt]; simp only [edepths]; omega
        case measure => simp [intOf]; omega
      · have : j = l.length := by omega
        subst this
        go_wp2_with fail
        go_ret
        have h9 := HR.out
        simp only [List.drop_length, edepths, Nat.max_zero] at h9
        exact ⟨ret_int (by rw [HQ.out, ← h9]; rfl), HX.out⟩
end Go.Proofs.YtibfoafepjggjaaDoor
