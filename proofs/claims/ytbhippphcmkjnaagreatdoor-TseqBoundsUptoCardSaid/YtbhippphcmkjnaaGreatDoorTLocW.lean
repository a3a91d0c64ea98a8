/-
  tseq.Locals: its walk.
-/
import Derived.Test.YtbhippphcmkjnaaGreatDoorTSrt
set_option linter.unusedVariables false
set_option linter.unusedSimpArgs false
namespace Go.Proofs.YtbhippphcmkjnaaGreatDoor
open Go.RowKit

theorem own_strs_of {M : Facts} {bm : List Nat} {w : World} {l : List ByteArray} {u : Value} {t : Option Nat} (hM : M.hold w) (hr : Rep M bm (ownS l) u) (ho : Owned M w 9 1 (l.map fun s => [dstr s]) u t) :
    w.ownsRow 0 9 1 u l.length (l.map Value.string) := by
  rcases ho with ⟨h1, h2⟩ | ⟨g, xs, h1, h2, h3, ⟨h4, h5⟩, h6⟩
  · have : l = [] := by simpa using h2
    subst this; exact ⟨by simp, .inl ⟨h1, rfl⟩⟩
  · refine ⟨by simp, ?_⟩
    rcases h5 with ⟨h7, h8⟩ | ⟨g', cap, cur, h7, h8, h9, h10, h11, h12, h13⟩
    · exact .inl ⟨h7, by simpa using h8⟩
    · rw [List.length_map] at h7 h10
      refine .inr ⟨g', cap, cur, h7, h8, h9, h10, h11, h12, ?_⟩
      subst h7
      cases hr with
      | own hr =>
      obtain ⟨p, cp, e, k1, k2, k3⟩ := strsval_of (bm := []) hM (.d hr)
      cases e
      apply List.ext_getElem?
      intro j
      simp only [Nat.mul_one, List.getElem?_take, List.getElem?_map]
      by_cases hj : j < l.length
      · rw [if_pos hj, List.getElem?_eq_getElem hj]
        obtain ⟨b, off, e1, e2⟩ := k3 j _ (List.getElem?_eq_getElem hj)
        cases e1
        have e3 : cur[j]? = some (.string l[j]) := by simpa [World.cell?, h9] using e2
        simpa using e3
      · rw [if_neg hj, List.getElem?_eq_none (by omega)]; rfl
theorem names_mem (s : Ts) (hs : tbig s ≤ 1000000) (w : World) (v : Value) (hk : Keys w) (hv : Rep (mem w) [] (vts s) v) : Calls Tryz.prog 31 #[v] w fun e w' =>
    ∃ u, e = .returned u ∧ Ext w w' ∧ w'.ownsRow 0 9 1 u (tnm s).length ((tnm s).map Value.string) ∧ (∀ k, u.ownBlock = some k → w.heap.size ≤ k) ∧ ∀ x, x ∈ tnm s → x.size ≤ maxLen := by
  refine ((tnm_fun s hs []).2 _ _ _ _ _ [v] (glob_mem hk) (inv_start w) (fun _ => rfl) rfl (fun i h h' => ?_)).mono fun e w' ⟨M', bm', tk', σ', o, ⟨h1, h2⟩, h3, h4, h5⟩ => ?_
  · match i, h with | 0, _ => exact hv
  subst h1
  obtain ⟨u, h6, h7⟩ := h5.1 _ rfl
  refine ⟨u, h6, ⟨h4.os, h4.tape, h4.output, h4.size, fun b hb => h4.keep b hb⟩, own_strs_of h3.facts h7.rep (h7.own _ _ _ rfl), fun k hk => ?_, fun x hx => ?_⟩
  · rcases h7.own _ _ _ rfl with ⟨e1, _⟩ | ⟨g, xs, e1, e2, _⟩
    · rw [e1] at hk; cases hk
    · rw [e2] at hk; cases hk
      exact Nat.le_of_not_lt (h3.tok _ _ _ e1).2.2
  · have hr := h7.rep
    cases hr with
    | own hr =>
    have hw := hr.wf
    cases hw with
    | sl _ _ hh =>
    obtain ⟨i, hi, rfl⟩ := List.getElem_of_mem hx
    have := hh i 0 (by simpa using hi) (by simp)
    simp only [List.getElem_map, List.getElem_cons_zero] at this
    cases this with
    | lit _ hf => exact hf
theorem valid_mem (s : Ts) (hs : tbig s ≤ 1000000) (w : World) (v : Value) (hk : Keys w) (hv : Rep (mem w) [] (vts s) v) : Calls Tryz.prog 8 #[v] w fun e w' => e = .returned (.int .i64 (validT s)) ∧ Ext w w' :=
  calls_of_fun (vs := [v]) hk (tvalid_fun s hs []) rfl fun i h h' => match i, h with | 0, _ => hv
theorem Ext.box9 {w w' : World} {T : TypeId} {a b c d e f g i j : Value} (h : Ext (w.alloc (.cells #[a, b, c, d, e, f, g, i, j] T)) w') :
    w'.cell? ⟨w.heap.size, 0, none⟩ = some a ∧ w'.cell? ⟨w.heap.size, 1, none⟩ = some b ∧ w'.cell? ⟨w.heap.size, 2, none⟩ = some c ∧ w'.cell? ⟨w.heap.size, 3, none⟩ = some d ∧ w'.cell? ⟨w.heap.size, 4, none⟩ = some e ∧ w'.cell? ⟨w.heap.size, 5, none⟩ = some f ∧ w'.cell? ⟨w.heap.size, 6, none⟩ = some g ∧ w'.cell? ⟨w.heap.size, 7, none⟩ = some i ∧ w'.cell? ⟨w.heap.size, 8, none⟩ = some j := by
  refine ⟨?_, ?_, ?_, ?_, ?_, ?_, ?_, ?_, ?_⟩ <;> exact h.cell (by simp [World.cell?_alloc_new])
theorem mem_le {w w' : World} (h : Ext w w') : (mem w).le (mem w') := fun b o x hx => h.cell hx
theorem rep_later {s : Ts} {v : Value} {w w' : World} (h : Rep (mem w) [] (vts s) v) (hx : Ext w w') : Rep (mem w') [] (vts s) v := h.mono (mem_le hx) (fun _ _ h => h)
def RetDR (d : D) (w : World) : Ending → World → Prop := fun e w' => ∃ u, e = .returned u ∧ Ext w w' ∧ DRep (newer w w') d u
theorem newer_later {w w1 w2 : World} (h : Ext w w1) {d : D} {u : Value} (hd : DRep (newer w1 w2) d u) : DRep (newer w w2) d u := hd.mono fun b o x hx => by
  have h1 := h.size
  unfold newer at *
  split at hx
  · rw [if_pos (by omega)]; exact hx
  · cases hx
set_option maxRecDepth 100000 in
set_option maxHeartbeats 2000000 in
theorem locals_mem (s : Ts) (hs : tbig s ≤ 1000000) (w : World) (v : Value) (hk : Keys w) (hv : Rep (mem w) [] (vts s) v) : Calls Tryz.prog 14 #[v] w (RetDR (dstrs (locT s)) w) := by
  have hv' := hv
  rw [vts_eq] at hv'
  have hsh : ∃ a b c d e f g i j, v = .agg #[a, b, c, d, e, f, g, i, j] := by
    cases hv' with
    | @agg _ vs hl hh h1 =>
    match vs, hl with
    | [a, b, c, d, e, f, g, i, j], _ => exact ⟨a, b, c, d, e, f, g, i, j, rfl⟩
  obtain ⟨a, b, c, d, e, f, g, i, j, rfl⟩ := hsh
  clear hv'
  have hn := tnm_len s
  have hz := tsz_le s
  have hl : (tnm s).length ≤ 1000000 := by omega
  clear hn hz
  have HK := Lib.hid hk; clear hk
  have HV := Lib.hid hv; clear hv
  have hcv := fun w' (hx : Ext w w') => valid_mem s hs w' _ (HK.out.ext hx) (rep_later HV.out hx)
  have hcn := fun w' (hx : Ext w w') => names_mem s hs w' _ (HK.out.ext hx) (rep_later HV.out hx)
  have hq : locT s = if validT s = 0 then srtS (tnm s) else [] := rfl
  generalize locT s = L at *
  generalize validT s = N at *
  by_cases h0 : N = 0
  · subst h0
    rw [if_pos rfl] at hq
    have hso := fun (u : Value) (w1 : World) h1 h2 h3 => sort_own (tnm s) u w w1 h1 h2 h3 hl
    have hss : ∀ x, x ∈ sortS (tnm s) → x ∈ tnm s := fun x hx => by
      have := (srt_mem (tnm s) x).1
      obtain ⟨b, hb, e⟩ := List.mem_map.1 hx
      unfold sortB at hb
      obtain ⟨t, ht, e2⟩ := List.mem_map.1 (List.mem_mergeSort.1 hb)
      subst e2
      rw [ofB_byts] at e
      subst e
      exact ht
    have hco := fun (u : Value) (w1 : World) h1 h2 h3 (h4 : ∀ x, x ∈ tnm s → x.size ≤ maxLen) => comp_own (sortS (tnm s)) u w w1 h1 h2 h3 (by rw [sortS_len]; exact hl) (fun x hx => h4 x (hss x hx))
    have hq2 : compS (sortS (tnm s)) = L := hq.symm
    simp only [hq2] at hco
    clear hss
    have hsl := sortS_len (tnm s)
    generalize tnm s = l at *
    generalize sortS l = l2 at *
    have HCV := Lib.hid hcv; clear hcv
    have HCN := Lib.hid hcn; clear hcn
    have HCO := Lib.hid hco; clear hco
    have HL := Lib.hid hl; clear hl
    have HSL := Lib.hid hsl; clear hsl
    clear hq hq2 hs
    have HSO := Lib.hid hso; clear hso
    go_enter Tryz.func14, Tryz.ntmps14
    go_wp2_with (first | (go_at_call 8; refine (HCV.out _ ((Ext.refl w).alloc _)).mono ?_; rintro e w' ⟨rfl, hx⟩; obtain ⟨c0, c1, c2, c3, c4, c5, c6, c7, c8⟩ := hx.box9; have HX := Lib.hid hx.past; clear hx) | (go_at_call 31; refine (HCN.out _ HX.out).mono ?_; rintro e w' ⟨u, rfl, hy, hrow, hfr, hsz⟩; have hge := HX.out.size; have HY := Lib.hid (HX.out.trans hy); clear hy; have HROW := Lib.hid hrow; clear hrow; have HFR := Lib.hid (fun k hk => Nat.le_trans hge (hfr k hk)); clear hfr hge; have HSZ := Lib.hid hsz; clear hsz) | (go_at_call 32; refine (HSO.out _ _ HROW.out HFR.out HY.out).mono ?_; rintro e w' ⟨rfl, hrow2, hz⟩; have HROW2 := Lib.hid hrow2; clear hrow2; have HZ := Lib.hid hz; clear hz) | (go_at_call 33; refine (HCO.out _ _ HROW2.out HFR.out HZ.out HSZ.out).mono ?_; rintro e w' ⟨u2, rfl, hz2, hdr⟩; have HZ2 := Lib.hid hz2; clear hz2; have HDR := Lib.hid hdr; clear hdr))
    all_goals go_ret
    all_goals exact ⟨_, rfl, HZ2.out, HDR.out⟩
  · rw [if_neg h0] at hq
    subst hq
    have HCV := Lib.hid hcv; clear hcv
    have hne : (N != 0) = true := by simpa using h0
    clear hcn hs
    go_enter Tryz.func14, Tryz.ntmps14
    go_wp2_with (go_at_call 8; refine (HCV.out _ ((Ext.refl w).alloc _)).mono ?_; rintro e w' ⟨rfl, hx⟩; have HX := Lib.hid hx.past; clear hx)
    all_goals go_ret
    all_goals exact ⟨_, rfl, HX.out, DRep.nil _⟩
theorem tlocals_fun (s : Ts) (hs : tbig s ≤ 1000000) (σ : List (List V)) : Fun G 14 [vts s] σ (RetV (.d (dstrs (locT s))) σ) :=
  fun_of_new Tryz.func14 (by kernel_rfl) (by kernel_rfl) (fun _ _ _ h => by cases h) fun M bm w vs hG hM hl hr => match vs, hl with
    | [v], _ => by
      have h0 := hr 0 (by simp) (by simp)
      simp only [List.getElem_cons_zero] at h0
      have h1 : Rep (mem w) [] (vts s) v := by
        unfold vts at h0 ⊢
        generalize hcs : (dts s).map V.d = cs at h0
        cases h0 with
        | @agg _ vs hl hh h1 =>
        refine .agg hl (fun i g g' => ?_) h1
        have := hh i g g'
        subst hcs
        simp only [List.getElem_map] at this ⊢
        cases this with
        | d hd => exact .d (hd.mono fun b o x hx => hM b o x hx)
      exact (locals_mem s hs w v (keys_of hG hM) h1).mono fun e w' ⟨u, g1, g2, g3⟩ => ⟨u, g1, g2, .d g3⟩
end Go.Proofs.YtbhippphcmkjnaaGreatDoor
