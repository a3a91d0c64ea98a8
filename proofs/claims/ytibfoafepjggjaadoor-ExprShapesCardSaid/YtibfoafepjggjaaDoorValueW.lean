/-
  Walks: value.
-/
import Derived.Test.YtibfoafepjggjaaDoorValue
namespace Go.Proofs.YtibfoafepjggjaaDoor
open Go.RowKit

theorem Ext.box1 {w w' : World} {T : TypeId} {a : Value} {o : Obj} (h : Ext ((w.alloc (.cells #[a] T)).alloc o) w') : w'.cell? ⟨w.heap.size, 0, none⟩ = some a :=
  h.cell (by simp [World.cell?_alloc_new])
theorem Ext.box4b {w w' : World} {T : TypeId} {a b c d : Value} {o : Obj} (h : Ext ((w.alloc o).alloc (.cells #[a, b, c, d] T)) w') :
    w'.cell? ⟨w.heap.size + 1, 0, none⟩ = some a ∧ w'.cell? ⟨w.heap.size + 1, 1, none⟩ = some b ∧ w'.cell? ⟨w.heap.size + 1, 2, none⟩ = some c ∧ w'.cell? ⟨w.heap.size + 1, 3, none⟩ = some d :=
  ⟨h.cell (by simp [World.cell?_alloc_new]), h.cell (by simp [World.cell?_alloc_new]), h.cell (by simp [World.cell?_alloc_new]), h.cell (by simp [World.cell?_alloc_new])⟩

set_option maxRecDepth 100000 in
set_option maxHeartbeats 2000000 in
theorem value_any (env : List Sig) (p : Option Addr) (cap : Nat) (e : Ex) : ∀ (v : Value) (w : World), errE e = 0 → SigsVal w env (.slice p env.length cap) → ExVal w e v →
    Calls Tryd.prog 44 #[.agg #[.slice p env.length cap], v] w fun en w' => en = .returned (.int .i64 (valE env e)) ∧ Ext w w' := by
  induction e using Ex.ind with
  | h o m nm l ih =>
    intro v w he hs hv
    obtain ⟨hnode, herl⟩ := errE_node he
    obtain ⟨o1, o25, -, hop, hvar, hname, -, -⟩ := node_ok hnode
    obtain ⟨q, cp, rfl, hl, h1, h2, -, -, -⟩ := ex_open hv
    simp only [Ex.op, Ex.num, Ex.name, Ex.args] at *
    have hlen : l.length ≤ 1000 := by
      unfold operB at hop
      split at hop
      · simp only [Bool.and_eq_true, decide_eq_true_eq] at hop; omega
      · have : arity o ≤ 3 := by unfold arity; repeat' (first | omega | split)
        simp only [decide_eq_true_eq] at hop; omega
    have hq : valE env (.mk o m nm l) = leafS env o m nm (valL env l) := by rw [valE]
    generalize valE env (.mk o m nm l) = R at *
    have HQ := Lib.hid hq; clear hq
    have HOP := Lib.hid hop; clear hop
    have HNAME := Lib.hid hname; clear hname
    have hbd := valL_bd env l herl
    have HBD := Lib.hid hbd; clear hbd
    have hmem := errL_mem herl
    have HMEM := Lib.hid hmem; clear hmem
    clear he hnode herl hvar
    have IH := Lib.hid ih; clear ih
    have HS := Lib.hid hs; clear hs
    have HL := Lib.hid hl; clear hl
    have HV := Lib.hid hv; clear hv
    obtain ⟨i0, hi, hz0, hz1, hz2⟩ := info_parts Tryd.infoI
    obtain ⟨vs, hvs⟩ : ∃ vs, vs = valL env l := ⟨_, rfl⟩
    have hvl : vs.length = l.length := by rw [hvs]; exact valL_len env l
    have HVL := Lib.hid hvl; clear hvl
    have HVS := Lib.hid hvs; clear hvs
    go_enter Tryd.func44, Tryd.ntmps44
    go_wp2_with fail
    go_loopw [5, 15, 7] (fun u i _ wr => ∃ j : Nat, i = .int .i64 j ∧ j ≤ l.length ∧ wr.ownsRow 0 3 1 u j ((vs.take j).map (Value.int .i64)) ∧ (∀ k, u.ownBlock = some k → w.heap.size + 2 ≤ k) ∧ Ext ((w.alloc (.cells #[.slice p env.length cap] 61)).alloc (.cells #[.int .i64 o, .int .i64 m, .string nm, .slice q l.length cp] 24)) wr) (fun _ i _ _ => l.length - (intOf i).toNat)
    case atStart => exact ⟨0, rfl, Nat.zero_le _, by simpa using World.ownsRow_nil _ _ _ _, by simp [Value.ownBlock], Ext.refl _⟩
    case round =>
      obtain ⟨j, rfl, hj, hrow, hfresh, hext⟩ := hrel
      have c0 := hext.box1
      obtain ⟨d0, d1, d2, d3⟩ := hext.box4b
      have HROW := Lib.hid hrow; clear hrow
      have HF := Lib.hid hfresh; clear hfresh
      have HX := Lib.hid hext; clear hext
      have hE : Ext w wr := HX.out.past.past
      have l0 : w.heap.size < wr.heap.size := by have := HX.out.size; simp at this; omega
      have l1 : w.heap.size + 1 < wr.heap.size := by have := HX.out.size; simp at this; omega
      have HE := Lib.hid hE; clear hE
      by_cases hlt : j < l.length
      · obtain ⟨b, off, cs, rfl, hr, hc⟩ := exs_at HL.out hlt
        obtain ⟨sv, gv, gl, q2, q3, q4, q5⟩ := ex_row hr hc
        obtain ⟨p', cp', rfl, -, -⟩ := exs_shape gl
        have r2 := HE.out.cell q2
        have r3 := HE.out.cell q3
        have r4 := HE.out.cell q4
        have r5 := HE.out.cell q5
        clear q2 q3 q4 q5 hr hc gl d0 d1 d2 d3
        have GV := Lib.hid gv; clear gv
        have hcon := fun w' => IH.out (l[j]'hlt) (List.getElem_mem hlt) (.agg #[.int .i64 (l[j]'hlt).op, .int .i64 (l[j]'hlt).num, .string (l[j]'hlt).name, .slice p' (l[j]'hlt).args.length cp']) w' (HMEM.out _ (List.getElem_mem hlt))
        have HCON := Lib.hid hcon; clear hcon
        have htk : (vs.take (j + 1)).map (Value.int .i64) = (vs.take j).map (Value.int .i64) ++ [.int .i64 (valE env l[j])] := by
          rw [HVS.out, valL_take env l hlt, List.map_append]; rfl
        have HTK := Lib.hid htk; clear htk
        generalize valE env l[j] = x at *
        go_wp2_with (first | (go_at_call 44; refine (HCON.out _ (HS.out.ext (HE.out.alloc _)) (GV.out.ext (HE.out.alloc _))).mono ?_; rintro e w' ⟨rfl, hy⟩; have hrow2 := row_ext ((Ext.refl _).alloc _ |>.trans hy) HROW.out; have HROW2 := Lib.hid hrow2; clear hrow2; have HY := Lib.hid hy; clear hy) | (at_builtin; refine wpList_append2 _ rfl (.tmp 19) (.tmp 23) 66 rfl 3 i0 (.int .i64 0) 1 8 Tryd.underlying66 hi hz0 hz1 hz2 rfl (by decide) _ j ((vs.take j).map (Value.int .i64)) rfl (HROW2.out.alloc _) ⟨_, 0, none⟩ 1 1 [.int .i64 x] rfl rfl ?c1 ?c2 ?c3 ?c4 (by decide) ?_))
        case c1 => exact cell_one_new _ _ _
        case c2 => intro u hu; simp at hu; subst hu; rfl
        case c3 => unfold maxLen; omega
        case c4 => omega
        intro g cap1 w3 hgr
        have hx3 := (((Keep.of_ext (O := fun k => u5.ownBlock = some k) ((HX.out.trans ((Ext.refl wr).alloc _)).trans HY.out)).alloc _).grown hgr.grown (fun k hk => .inl hk)).ext (Ext.refl _) (fun x hx => by have := HF.out x hx; simp; omega)
        have hfr : ∀ k, (Value.slice (some ⟨g, 0, none⟩) (j + 1) cap1).ownBlock = some k → w.heap.size + 2 ≤ k := fun k hk => by
          simp [Value.ownBlock] at hk
          subst hk
          rcases hgr.new with h | h
          · exact HF.out g h
          · have := HY.out.size; simp at this h; omega
        have hrow3 := hgr.row
        have HROW3 := Lib.hid hrow3; clear hrow3
        have HFR := Lib.hid hfr; clear hfr
        have HX3 := Lib.hid hx3; clear hx3
        clear hgr
        go_wp2_with fail
        go_roundw
        case rel => exact ⟨j + 1, by go_num, by omega, by rw [HTK.out, List.map_take]; exact HROW3.out, HFR.out, HX3.out⟩
        case measure => simp [intOf]; omega
      · have : j = l.length := by omega
        subst this
        have hrow9 : wr.ownsRow 0 3 1 u5 vs.length (vs.map (Value.int .i64)) := by
          have h := HROW.out
          rw [← HVL.out, List.take_length] at h
          exact h
        have hints := ints_own hrow9
        have HI := Lib.hid hints; clear hints hrow9
        have hi' := HI.out
        obtain ⟨pi, ci, rfl, g1, g2, -⟩ := hi'
        by_cases h1 : o = 1
        · subst h1
          go_wp2_with fail
          go_ret
          exact ⟨ret_int (by rw [HQ.out]; rfl), HE.out⟩
        have e1 : (o == 1) = false := beq_eq_false_iff_ne.2 h1
        by_cases h2' : o = 2
        · subst h2'
          have hq2 : leafS env 2 m nm (valL env l) = (findS env nm).getD 0 := rfl
          have HQ2 := Lib.hid hq2; clear hq2
          have hf := fun w' hs => find_any env nm p cap w' hs
          unfold optV at hf
          have HF2 := Lib.hid hf; clear hf
          generalize (findS env nm).getD 0 = x at *
          generalize (findS env nm).isSome = bb at *
          go_wp2_with (go_at_call 61; refine (HF2.out _ (HS.out.ext HE.out)).mono ?_; rintro e w' ⟨rfl, hy⟩)
          go_ret
          exact ⟨ret_int (by rw [HQ.out, HQ2.out]), HE.out.trans hy⟩
        have e2 : (o == 2) = false := beq_eq_false_iff_ne.2 h2'
        by_cases h3 : o = 3
        · subst h3
          have hl1 : vs.length = 1 := by
            have h := HOP.out
            simp [operB, arity] at h
            rw [HVL.out]; omega
          obtain ⟨x0, hx0⟩ : ∃ x, vs = [x] := by
            match vs, hl1 with
            | [x], _ => exact ⟨x, rfl⟩
          obtain ⟨bi, oi, hpi, q0⟩ := ints_at HI.out (j := 0) (by omega)
          cases hpi
          have hv0 : vs[0]'(by omega) = x0 := by simp [hx0]
          rw [hv0, Nat.add_zero] at q0
          have hq2 : leafS env 3 m nm (valL env l) = (atS env nm x0).getD 0 := by rw [← HVS.out, hx0]; rfl
          have HQ2 := Lib.hid hq2; clear hq2
          have hnm : nm.size ≤ 1000 := by have := nameB_size (HNAME.out (.inl rfl)); omega
          have hf := fun w' hs => at_all env nm x0 p cap w' hs hnm
          unfold optV at hf
          have HF2 := Lib.hid hf; clear hf
          generalize (atS env nm x0).getD 0 = x at *
          generalize (atS env nm x0).isSome = bb at *
          have k1 : (0 : Int) < (vs.length : Int) := by omega
          have k2 : 0 < vs.length := by omega
          clear hnm hx0 hv0 d1 d3
          have HL1 := Lib.hid hl1; clear hl1
          go_wp2_with fail
          go_region_held3 (fun wz => wz.cell? ⟨w.heap.size, 0, none⟩ = some (.slice p env.length cap) ∧ wz.cell? ⟨w.heap.size + 1, 2, none⟩ = some (.string nm) ∧ wz.cell? ⟨bi, oi, none⟩ = some (.int .i64 x0)) (first | exact ⟨hy.cell c0, hy.cell d2, hy.cell q0⟩ | exact ⟨c0, d2, q0⟩) (first | (go_at_call 62; refine (HF2.out _ (HS.out.ext HE.out.drew)).mono ?_; rintro e w' ⟨rfl, hy⟩))
          go_wp2_with fail
          go_ret
          exact ⟨ret_int (by rw [HQ.out, HQ2.out]), HE.out.trans ((Ext.refl wr).drew.trans hy)⟩
        have e3 : (o == 3) = false := beq_eq_false_iff_ne.2 h3
        by_cases h24 : o = 24
        · subst h24
          have hq2 : leafS env 24 m nm (valL env l) = sumTo env nm 8 := rfl
          have HQ2 := Lib.hid hq2; clear hq2
          have hnm : nm.size ≤ 1000 := by have := nameB_size (HNAME.out (.inr rfl)); omega
          have hf := fun w' hs => sum_any env nm p cap w' hs hnm
          have HF2 := Lib.hid hf; clear hf
          generalize sumTo env nm 8 = x at *
          clear hnm
          go_wp2_with (go_at_call 63; refine (HF2.out _ (HS.out.ext HE.out)).mono ?_; rintro e w' ⟨rfl, hy⟩)
          go_ret
          exact ⟨ret_int (by rw [HQ.out, HQ2.out]), HE.out.trans hy⟩
        have e24 : (o == 24) = false := beq_eq_false_iff_ne.2 h24
        have hq2 : leafS env o m nm (valL env l) = operS o vs := by rw [HVS.out]; simp [leafS, h1, h2', h3, h24]
        have hf := fun w' hv => operate_any o vs (.slice pi vs.length ci) w' hv (by rw [HVL.out]; exact HOP.out) o1 o25 h1 h2' h3 h24 (by rw [HVS.out]; exact HBD.out)
        have HQ2 := Lib.hid hq2; clear hq2
        have HF2 := Lib.hid hf; clear hf
        generalize operS o vs = x at *
        clear h1 h2' h3 h24
        go_wp2_with (go_at_call 64; refine (HF2.out _ HI.out).mono ?_; rintro e w' ⟨rfl, hy⟩)
        go_ret
        exact ⟨ret_int (by rw [HQ.out, HQ2.out]), HE.out.trans hy⟩

/-- What Eval answers. -/
def evalE (e : Ex) (env : List Sig) : Int × Int := if validE e = 0 then (if knownB env e = true then (valE env e, 0) else (0, 7)) else (0, 1)
def RetEval (r : Int × Int) (w : World) (e : Ending) (w' : World) : Prop := e = .returned (.tuple #[.int .i64 r.1, .int .i64 r.2]) ∧ Ext w w'
theorem validE_err {e : Ex} (h : validE e = 0) : errE e = 0 := by
  unfold validE at h; split at h
  · cases h
  · exact h
end Go.Proofs.YtibfoafepjggjaaDoor
