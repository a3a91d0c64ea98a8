/-
  Walks: known.
-/
import Derived.Test.YtibfoafepjggjaaDoorEnv
import Derived.Test.YtibfoafepjggjaaDoorNames2
namespace Go.Proofs.YtibfoafepjggjaaDoor
open Go.RowKit

/-- Are there values for all variables and arrays? -/
def knownB (l : List Sig) (e : Ex) : Bool := (namesOf [2] e).all (fun s => (findS l s).isSome) && (namesOf [3, 24] e).all (fun s => (findS l (elemName s 0)).isSome)

set_option maxRecDepth 100000 in
set_option maxHeartbeats 2000000 in
theorem known_any (l : List Sig) (e : Ex) (v : Value) (p : Option Addr) (cap : Nat) (w : World) (hs : SigsVal w l (.slice p l.length cap)) (hv : ExVal w e v) (hz : esize e ≤ 1000000) (hn : ∀ s, s ∈ namesOf [3, 24] e → s.size ≤ 1000) :
    Calls Tryd.prog 43 #[.agg #[.slice p l.length cap], v] w fun en w' => en = .returned (.bool (knownB l e)) ∧ Ext w w' := by
  have hq : knownB l e = ((namesOf [2] e).all (fun s => (findS l s).isSome) && (namesOf [3, 24] e).all (fun s => (findS l (elemName s 0)).isSome)) := rfl
  generalize knownB l e = R at *
  obtain ⟨p1, cp, rfl, hl, h1, h2, -, -, -⟩ := ex_open hv
  have hN := fun w hv => Names_any e w (.agg #[.int .i64 e.op, .int .i64 e.num, .string e.name, .slice p1 e.args.length cp]) hv hz
  have hA := fun w hv => Arrays_any e w (.agg #[.int .i64 e.op, .int .i64 e.num, .string e.name, .slice p1 e.args.length cp]) hv hz
  generalize namesOf [2] e = ns at *
  generalize namesOf [3, 24] e = ars at *
  have HN := Lib.hid hN; clear hN
  have HA := Lib.hid hA; clear hA
  have HQ := Lib.hid hq; clear hq
  have HSZ := Lib.hid hn; clear hn
  have HS := Lib.hid hs; clear hs
  have HV := Lib.hid hv; clear hv
  clear hl
  go_enter Tryd.func43, Tryd.ntmps43
  go_wp2_with fail
  refine (HN.out _ (HV.out.ext (((Ext.refl w).alloc _).alloc _))).mono ?_
  rintro en w1 ⟨u, rfl, hrow, -, hx⟩
  have hst := strs_own hrow
  obtain ⟨p2, cap2, rfl, g1, g2, -⟩ := hst
  have c0 : w1.cell? ⟨w.heap.size, 0, none⟩ = some (.slice p l.length cap) := hx.cell (by simp [World.cell?_alloc_new])
  have d0 : w1.cell? ⟨w.heap.size + 1, 0, none⟩ = some (.int .i64 e.op) := hx.cell (by simp [World.cell?_alloc_new])
  have d1 : w1.cell? ⟨w.heap.size + 1, 1, none⟩ = some (.int .i64 e.num) := hx.cell (by simp [World.cell?_alloc_new])
  have d2 : w1.cell? ⟨w.heap.size + 1, 2, none⟩ = some (.string e.name) := hx.cell (by simp [World.cell?_alloc_new])
  have d3 : w1.cell? ⟨w.heap.size + 1, 3, none⟩ = some (.slice p1 e.args.length cp) := hx.cell (by simp [World.cell?_alloc_new])
  have HX := Lib.hid ((((Ext.refl w).alloc _).alloc _).trans hx); clear hx
  have HST := Lib.hid (strs_own hrow); clear hrow
  have C0 := Lib.hid c0
  have D0 := Lib.hid d0
  have D1 := Lib.hid d1
  have D2 := Lib.hid d2
  have D3 := Lib.hid d3
  clear c0 d0 d1 d2 d3
  go_wp2_with fail
  go_loopw [16, 6, 7, 8] (fun i _ _ _ wr => ∃ j : Nat, i = .int .i64 j ∧ j ≤ ns.length ∧ (ns.drop j).all (fun s => (findS l s).isSome) = ns.all (fun s => (findS l s).isSome) ∧ Ext w1 wr) (fun i _ _ _ _ => ns.length - (intOf i).toNat)
  case atStart => exact ⟨0, rfl, Nat.zero_le _, rfl, Ext.refl _⟩
  case round =>
    obtain ⟨j, rfl, hj, hrec, hext⟩ := hrel
    have HR := Lib.hid hrec; clear hrec
    have c0 := hext.cell C0.out
    have HE := Lib.hid hext; clear hext
    by_cases hlt : j < ns.length
    · obtain ⟨b, off, rfl, q0⟩ := strs_at HST.out hlt
      have r0 := HE.out.cell q0
      clear q0
      have hst : (ns.drop j).all (fun s => (findS l s).isSome) = ((findS l ns[j]).isSome && (ns.drop (j + 1)).all (fun s => (findS l s).isSome)) := by
        rw [List.drop_eq_getElem_cons hlt, List.all_cons]
      have HSTEP := Lib.hid hst; clear hst
      go_wp2_with fail
      refine (find_any l ns[j] p cap _ (HS.out.ext (HX.out.trans HE.out))).mono ?_
      rintro e2 w2 ⟨rfl, hy⟩
      have HY := Lib.hid hy; clear hy
      unfold optV
      cases hf : (findS l ns[j]).isSome with
      | true =>
        have hs' := HSTEP.out; rw [hf, Bool.true_and] at hs'
        have HS' := Lib.hid hs'; clear hs'
        clear hf
        go_wp2_with fail
        go_roundw
        case rel => exact ⟨j + 1, by go_num, by omega, by rw [← HR.out, HS'.out], HE.out.trans HY.out⟩
        case measure => simp [intOf]; omega
      | false =>
        have hs' := HSTEP.out; rw [hf, Bool.false_and] at hs'
        have HS' := Lib.hid hs'; clear hs'
        clear hf
        go_wp2_with fail
        go_ret
        exact ⟨ret_bool (by rw [HQ.out, ← HR.out, HS'.out]; rfl), (HX.out.trans HE.out).trans HY.out⟩
    · have : j = ns.length := by omega
      subst this
      have hall : ns.all (fun s => (findS l s).isSome) = true := by rw [← HR.out]; simp
      have HALL := Lib.hid hall; clear hall
      have d0 := HE.out.cell D0.out
      have d1 := HE.out.cell D1.out
      have d2 := HE.out.cell D2.out
      have d3 := HE.out.cell D3.out
      go_wp2_with fail
      refine (HA.out _ (HV.out.ext (HX.out.trans HE.out))).mono ?_
      rintro en w3 ⟨u3, rfl, hrow3, -, hx3⟩
      have hst3 := strs_own hrow3
      obtain ⟨p3, cap3, rfl, g3, g4, -⟩ := hst3
      have C3 := Lib.hid (hx3.cell c0)
      have HX3 := Lib.hid (HE.out.trans hx3); clear hx3
      have HST3 := Lib.hid (strs_own hrow3); clear hrow3
      clear c0 d0 d1 d2 d3
      go_wp2_with fail
      go_loopw [32, 10, 11, 12] (fun i _ _ _ wq => ∃ j : Nat, i = .int .i64 j ∧ j ≤ ars.length ∧ (ars.drop j).all (fun s => (findS l (elemName s 0)).isSome) = ars.all (fun s => (findS l (elemName s 0)).isSome) ∧ Ext w3 wq) (fun i _ _ _ _ => ars.length - (intOf i).toNat)
      case atStart => exact ⟨0, rfl, Nat.zero_le _, rfl, Ext.refl _⟩
      case round =>
        obtain ⟨j, rfl, hj, hrec, hext⟩ := hrel
        have HR3 := Lib.hid hrec; clear hrec
        have c0 := hext.cell C3.out
        have HE3 := Lib.hid hext; clear hext
        by_cases hlt : j < ars.length
        · obtain ⟨b, off, rfl, q0⟩ := strs_at HST3.out hlt
          have r0 := HE3.out.cell q0
          clear q0
          have hst : (ars.drop j).all (fun s => (findS l (elemName s 0)).isSome) = ((findS l (elemName ars[j] 0)).isSome && (ars.drop (j + 1)).all (fun s => (findS l (elemName s 0)).isSome)) := by
            rw [List.drop_eq_getElem_cons hlt, List.all_cons]
          have HSTEP := Lib.hid hst; clear hst
          have hat := fun w' hv => at_any l ars[j] 0 p cap w' hv ⟨by omega, by omega⟩ (HSZ.out _ (List.getElem_mem hlt))
          have HAT := Lib.hid hat; clear hat
          go_wp2_with fail
          refine (HAT.out _ (HS.out.ext ((HX.out.trans HX3.out).trans HE3.out))).mono ?_
          rintro e2 w2 ⟨rfl, hy⟩
          have HY := Lib.hid hy; clear hy
          unfold optV
          simp only [Int.toNat_zero]
          cases hf : (findS l (elemName ars[j] 0)).isSome with
          | true =>
            have hs' := HSTEP.out; rw [hf, Bool.true_and] at hs'
            have HS' := Lib.hid hs'; clear hs'
            clear hf
            go_wp2_with fail
            go_roundw
            case rel => exact ⟨j + 1, by go_num, by omega, by rw [← HR3.out, HS'.out], HE3.out.trans HY.out⟩
            case measure => simp [intOf]; omega
          | false =>
            have hs' := HSTEP.out; rw [hf, Bool.false_and] at hs'
            have HS' := Lib.hid hs'; clear hs'
            clear hf
            go_wp2_with fail
            go_ret
            exact ⟨ret_bool (by rw [HQ.out, ← HR3.out, HS'.out]; simp), ((HX.out.trans HX3.out).trans HE3.out).trans HY.out⟩
        · have : j = ars.length := by omega
          subst this
          have hall3 : ars.all (fun s => (findS l (elemName s 0)).isSome) = true := by rw [← HR3.out]; simp
          have HALL3 := Lib.hid hall3; clear hall3
          go_wp2_with fail
          go_ret
          exact ⟨ret_bool (by rw [HQ.out, HALL.out, HALL3.out]; rfl), (HX.out.trans HX3.out).trans HE3.out⟩
end Go.Proofs.YtibfoafepjggjaaDoor
