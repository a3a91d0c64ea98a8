/-
  Walks: known.
  Walks: the value of an expression.
  Walks: value.
  Walks: Eval.
-/
import Derived.Test.YtibfoafepjggjaaGreatDoorEnv
import Derived.Test.YtibfoafepjggjaaGreatDoorNames2
import Derived.Test.YtibfoafepjggjaaGreatDoorData
set_option linter.unusedVariables false
set_option linter.unusedSimpArgs false
namespace Go.Proofs.YtibfoafepjggjaaGreatDoor
open Go.RowKit

/-- Are there values for all variables and arrays? -/
def knownB (l : List Sig) (e : Ex) : Bool := (namesOf [2] e).all (fun s => (findS l s).isSome) && (namesOf [3, 24] e).all (fun s => (findS l (elemName s 0)).isSome)

set_option maxRecDepth 100000 in
set_option maxHeartbeats 2000000 in
theorem known_any (l : List Sig) (e : Ex) (v : Value) (p : Option Addr) (cap : Nat) (w : World) (hs : SigsVal w l (.slice p l.length cap)) (hv : ExVal w e v) (hz : esize e ≤ 1000000) (hn : ∀ s, s ∈ namesOf [3, 24] e → s.size ≤ 1000) :
    Calls Tryz.prog 21 #[.agg #[.slice p l.length cap], v] w fun en w' => en = .returned (.bool (knownB l e)) ∧ Ext w w' := by
  have hq : knownB l e = ((namesOf [2] e).all (fun s => (findS l s).isSome) && (namesOf [3, 24] e).all (fun s => (findS l (elemName s 0)).isSome)) := rfl
  generalize knownB l e = R at *
  obtain ⟨p1, cp, rfl, hl, h1, h2, -, -, -⟩ := ex_open hv
  have hN := fun w hv => Names_any e w (.agg #[.int .i64 e.op, .int .i64 e.num, .string e.name, .slice p1 e.args.length cp]) hv hz
  have hA := fun w hv => Arrays_any e w (.agg #[.int .i64 e.op, .int .i64 e.num, .string e.name, .slice p1 e.args.length cp]) hv hz
  generalize namesOf [2] e = ns at *
  generalize namesOf [3, 24] e = ars at *
  have HN := Lib.hid hN; clear hN
  have HA := Lib.hid hA; clear hA
  have HQ := Lib.hid hq; clear hq
  have HSZ := Lib.hid hn; clear hn
  have HS := Lib.hid hs; clear hs
  have HV := Lib.hid hv; clear hv
  clear hl
  go_enter Tryz.func21, Tryz.ntmps21
  go_wp2_with fail
  refine (HN.out _ (HV.out.ext (((Ext.refl w).alloc _).alloc _))).mono ?_
  rintro en w1 ⟨u, rfl, hrow, -, hx⟩
  have hst := strs_own hrow
  obtain ⟨p2, cap2, rfl, g1, g2, -⟩ := hst
  have c0 : w1.cell? ⟨w.heap.size, 0, none⟩ = some (.slice p l.length cap) := hx.cell (by simp [World.cell?_alloc_new])
  have d0 : w1.cell? ⟨w.heap.size + 1, 0, none⟩ = some (.int .i64 e.op) := hx.cell (by simp [World.cell?_alloc_new])
  have d1 : w1.cell? ⟨w.heap.size + 1, 1, none⟩ = some (.int .i64 e.num) := hx.cell (by simp [World.cell?_alloc_new])
  have d2 : w1.cell? ⟨w.heap.size + 1, 2, none⟩ = some (.string e.name) := hx.cell (by simp [World.cell?_alloc_new])
  have d3 : w1.cell? ⟨w.heap.size + 1, 3, none⟩ = some (.slice p1 e.args.length cp) := hx.cell (by simp [World.cell?_alloc_new])
  have HX := Lib.hid ((((Ext.refl w).alloc _).alloc _).trans hx); clear hx
  have HST := Lib.hid (strs_own hrow); clear hrow
  have C0 := Lib.hid c0
  have D0 := Lib.hid d0
  have D1 := Lib.hid d1
  have D2 := Lib.hid d2
  have D3 := Lib.hid d3
  clear c0 d0 d1 d2 d3
  go_wp2_with fail
  go_loopw [16, 6, 7, 8] (fun i _ _ _ wr => ∃ j : Nat, i = .int .i64 j ∧ j ≤ ns.length ∧ (ns.drop j).all (fun s => (findS l s).isSome) = ns.all (fun s => (findS l s).isSome) ∧ Ext w1 wr) (fun i _ _ _ _ => ns.length - (intOf i).toNat)
  case atStart => exact ⟨0, rfl, Nat.zero_le _, rfl, Ext.refl _⟩
  case round =>
    obtain ⟨j, rfl, hj, hrec, hext⟩ := hrel
    have HR := Lib.hid hrec; clear hrec
    have c0 := hext.cell C0.out
    have HE := Lib.hid hext; clear hext
    by_cases hlt : j < ns.length
    · obtain ⟨b, off, rfl, q0⟩ := strs_at HST.out hlt
      have r0 := HE.out.cell q0
      clear q0
      have hst : (ns.drop j).all (fun s => (findS l s).isSome) = ((findS l ns[j]).isSome && (ns.drop (j + 1)).all (fun s => (findS l s).isSome)) := by
        rw [List.drop_eq_getElem_cons hlt, List.all_cons]
      have HSTEP := Lib.hid hst; clear hst
      go_wp2_with fail
      refine (find_any l ns[j] p cap _ (HS.out.ext (HX.out.trans HE.out))).mono ?_
      rintro e2 w2 ⟨rfl, hy⟩
      have HY := Lib.hid hy; clear hy
      unfold optV
      cases hf : (findS l ns[j]).isSome with
      | true =>
        have hs' := HSTEP.out; rw [hf, Bool.true_and] at hs'
        have HS' := Lib.hid hs'; clear hs'
        clear hf
        go_wp2_with fail
        go_roundw
        case rel => exact ⟨j + 1, by go_num, by omega, by rw [← HR.out, HS'.out], HE.out.trans HY.out⟩
        case measure => simp [intOf]; omega
      | false =>
        have hs' := HSTEP.out; rw [hf, Bool.false_and] at hs'
        have HS' := Lib.hid hs'; clear hs'
        clear hf
        go_wp2_with fail
        go_ret
        exact ⟨ret_bool (by rw [HQ.out, ← HR.out, HS'.out]; rfl), (HX.out.trans HE.out).trans HY.out⟩
    · have : j = ns.length := by omega
      subst this
      have hall : ns.all (fun s => (findS l s).isSome) = true := by rw [← HR.out]; simp
      have HALL := Lib.hid hall; clear hall
      have d0 := HE.out.cell D0.out
      have d1 := HE.out.cell D1.out
      have d2 := HE.out.cell D2.out
      have d3 := HE.out.cell D3.out
      go_wp2_with fail
      refine (HA.out _ (HV.out.ext (HX.out.trans HE.out))).mono ?_
      rintro en w3 ⟨u3, rfl, hrow3, -, hx3⟩
      have hst3 := strs_own hrow3
      obtain ⟨p3, cap3, rfl, g3, g4, -⟩ := hst3
      have C3 := Lib.hid (hx3.cell c0)
      have HX3 := Lib.hid (HE.out.trans hx3); clear hx3
      have HST3 := Lib.hid (strs_own hrow3); clear hrow3
      clear c0 d0 d1 d2 d3
      go_wp2_with fail
      go_loopw [32, 10, 11, 12] (fun i _ _ _ wq => ∃ j : Nat, i = .int .i64 j ∧ j ≤ ars.length ∧ (ars.drop j).all (fun s => (findS l (elemName s 0)).isSome) = ars.all (fun s => (findS l (elemName s 0)).isSome) ∧ Ext w3 wq) (fun i _ _ _ _ => ars.length - (intOf i).toNat)
      case atStart => exact ⟨0, rfl, Nat.zero_le _, rfl, Ext.refl _⟩
      case round =>
        obtain ⟨j, rfl, hj, hrec, hext⟩ := hrel
        have HR3 := Lib.hid hrec; clear hrec
        have c0 := hext.cell C3.out
        have HE3 := Lib.hid hext; clear hext
        by_cases hlt : j < ars.length
        · obtain ⟨b, off, rfl, q0⟩ := strs_at HST3.out hlt
          have r0 := HE3.out.cell q0
          clear q0
          have hst : (ars.drop j).all (fun s => (findS l (elemName s 0)).isSome) = ((findS l (elemName ars[j] 0)).isSome && (ars.drop (j + 1)).all (fun s => (findS l (elemName s 0)).isSome)) := by
            rw [List.drop_eq_getElem_cons hlt, List.all_cons]
          have HSTEP := Lib.hid hst; clear hst
          have hat := fun w' hv => at_any l ars[j] 0 p cap w' hv ⟨by omega, by omega⟩ (HSZ.out _ (List.getElem_mem hlt))
          have HAT := Lib.hid hat; clear hat
          go_wp2_with fail
          refine (HAT.out _ (HS.out.ext ((HX.out.trans HX3.out).trans HE3.out))).mono ?_
          rintro e2 w2 ⟨rfl, hy⟩
          have HY := Lib.hid hy; clear hy
          unfold optV
          simp only [Int.toNat_zero]
          cases hf : (findS l (elemName ars[j] 0)).isSome with
          | true =>
            have hs' := HSTEP.out; rw [hf, Bool.true_and] at hs'
            have HS' := Lib.hid hs'; clear hs'
            clear hf
            go_wp2_with fail
            go_roundw
            case rel => exact ⟨j + 1, by go_num, by omega, by rw [← HR3.out, HS'.out], HE3.out.trans HY.out⟩
            case measure => simp [intOf]; omega
          | false =>
            have hs' := HSTEP.out; rw [hf, Bool.false_and] at hs'
            have HS' := Lib.hid hs'; clear hs'
            clear hf
            go_wp2_with fail
            go_ret
            exact ⟨ret_bool (by rw [HQ.out, ← HR3.out, HS'.out]; simp), ((HX.out.trans HX3.out).trans HE3.out).trans HY.out⟩
        · have : j = ars.length := by omega
          subst this
          have hall3 : ars.all (fun s => (findS l (elemName s 0)).isSome) = true := by rw [← HR3.out]; simp
          have HALL3 := Lib.hid hall3; clear hall3
          go_wp2_with fail
          go_ret
          exact ⟨ret_bool (by rw [HQ.out, HALL.out, HALL3.out]; rfl), (HX.out.trans HX3.out).trans HE3.out⟩
end Go.Proofs.YtibfoafepjggjaaGreatDoor

namespace Go.Proofs.YtibfoafepjggjaaGreatDoor
open Go.RowKit

/-- The value of a node whose operands have values. -/
def leafS (env : List Sig) (o n : Int) (s : ByteArray) (vs : List Int) : Int :=
  if o = 1 then n else if o = 2 then (findS env s).getD 0 else if o = 3 then (match vs with | x :: _ => (atS env s x).getD 0 | [] => 0)
  else if o = 24 then sumTo env s 8 else operS o vs
mutual
def valE (env : List Sig) : Ex → Int
  | .mk o n s l => leafS env o n s (valL env l)
def valL (env : List Sig) : List Ex → List Int
  | [] => []
  | a :: r => valE env a :: valL env r
end
theorem valL_len (env : List Sig) (l : List Ex) : (valL env l).length = l.length := by
  induction l with
  | nil => rfl
  | cons a r ih => simp [valL, ih]
theorem valL_take (env : List Sig) (l : List Ex) {j : Nat} (h : j < l.length) : (valL env l).take (j + 1) = (valL env l).take j ++ [valE env l[j]] := by
  induction l generalizing j with
  | nil => simp at h
  | cons a r ih =>
    cases j with
    | zero => simp [valL]
    | succ j =>
      simp only [valL, List.take_succ_cons, List.cons_append, List.getElem_cons_succ]
      rw [ih (by simpa using h)]
theorem errL_mem {l : List Ex} (h : errL l = 0) : ∀ a, a ∈ l → errE a = 0 := by
  induction l with
  | nil => intro a ha; cases ha
  | cons b r ih =>
    simp only [errL] at h
    split at h
    · rename_i hb
      intro a ha
      rcases List.mem_cons.1 ha with e | e
      · rw [e]; exact hb
      · exact ih h a e
    · rename_i hb; exact absurd h hb
theorem errE_node {o n : Int} {s : ByteArray} {l : List Ex} (h : errE (.mk o n s l) = 0) : nodeErr o n s l.length = 0 ∧ errL l = 0 := by
  simp only [errE] at h
  split at h
  · exact ⟨by assumption, h⟩
  · rename_i hb; exact absurd h hb
/-- What a node without an error is like. -/
theorem node_ok {o n : Int} {s : ByteArray} {k : Nat} (h : nodeErr o n s k = 0) :
    1 ≤ o ∧ o ≤ 25 ∧ (o = 1 → 0 ≤ n ∧ n ≤ 65535) ∧ operB o k = true ∧ (o = 2 → isVarB s = true) ∧ (o = 3 ∨ o = 24 → nameB s = true) ∧ (¬ o = 1 → n = 0) ∧ (namedB o = false → s.toList = []) := by
  unfold nodeErr at h
  split at h
  · cases h
  · split at h
    · cases h
    · split at h
      · cases h
      · split at h
        · cases h
        · rename_i h1 h2 h3 h4
          refine ⟨by omega, by omega, fun e => by omega, ?_, fun e => ?_, fun e => ?_, fun e => by omega, fun e => ?_⟩
          · cases hb : operB o k with
            | true => rfl
            | false => exact absurd (.inr hb) h3
          · cases hb : isVarB s with
            | true => rfl
            | false => exact absurd (.inl ⟨e, hb⟩) h4
          · cases hb : nameB s with
            | true => rfl
            | false => exact absurd (.inr ⟨e, hb⟩) h4
          · apply Classical.byContradiction; intro hn; exact h3 (.inl ⟨e, hn⟩)
theorem nameB_size {s : ByteArray} (h : nameB s = true) : s.size ≤ 16 := by simp [nameB] at h; exact h.1.2

/-- A word. -/
def Wd (x : Int) : Prop := 0 ≤ x ∧ x < 65536
theorem Wd.ite {c : Prop} [Decidable c] {x y : Int} (h1 : Wd x) (h2 : Wd y) : Wd (if c then x else y) := by split <;> assumption
theorem Wd.mod (x : Int) : Wd (x % 65536) := ⟨by omega, by omega⟩
theorem b2i_bd (b : Bool) : Wd (b2i b) := by cases b <;> simp [b2i, Wd]
theorem singleS_bd (o a : Int) : Wd (singleS o a) := by
  unfold singleS
  have := popc_le 16 (a % 65536).toNat
  repeat' (first | exact b2i_bd _ | exact Wd.mod _ | refine Wd.ite ?_ ?_ | exact ⟨by omega, by omega⟩)
theorem shlS_bd (a n : Int) : Wd (shlS a n) := by unfold shlS; exact Wd.ite ⟨by omega, by omega⟩ (Wd.mod _)
theorem shrS_bd (a n : Int) (h : Wd a) : Wd (shrS a n) := by unfold shrS; exact Wd.ite ⟨by omega, by omega⟩ (shr_bd a n h.1 h.2)
theorem doubleS_bd (o a b : Int) (h : Wd a) (h' : Wd b) : Wd (doubleS o a b) := by
  obtain ⟨h0, h1⟩ := h
  obtain ⟨h2, h3⟩ := h'
  obtain ⟨a, rfl⟩ := Int.eq_ofNat_of_zero_le h0
  obtain ⟨b, rfl⟩ := Int.eq_ofNat_of_zero_le h2
  have e1 : a &&& b < 2 ^ 16 := Nat.and_lt_two_pow _ (by omega)
  have e2 : a ||| b < 2 ^ 16 := Nat.or_lt_two_pow (by omega) (by omega)
  have e3 : a ^^^ b < 2 ^ 16 := Nat.xor_lt_two_pow (by omega) (by omega)
  unfold doubleS
  simp only [Int.toNat_natCast]
  repeat' (first | exact b2i_bd _ | exact Wd.mod _ | exact shlS_bd _ _ | exact shrS_bd _ _ (Wd.mod _) | refine Wd.ite ?_ ?_ | exact ⟨by omega, by omega⟩)
theorem operS_bd (o : Int) (l : List Int) (h : ∀ x, x ∈ l → Wd x) : Wd (operS o l) := by
  have z : Wd 0 := ⟨by omega, by omega⟩
  unfold operS
  refine Wd.ite ?_ (Wd.ite ?_ ?_)
  · split
    · exact Wd.ite (h _ (by simp)) (h _ (by simp))
    · exact z
  · split
    · exact b2i_bd _
    · exact z
  · split
    · exact singleS_bd _ _
    · exact doubleS_bd _ _ _ (h _ (by simp)) (h _ (by simp))
    · exact z
theorem find_bd (l : List Sig) (s : ByteArray) : Wd ((findS l s).getD 0) := findS_bd l s
theorem at_bd (l : List Sig) (s : ByteArray) (i : Int) : Wd ((atS l s i).getD 0) := by
  unfold atS; split
  · exact find_bd _ _
  · exact ⟨by simp, by simp⟩
theorem sumTo_bd (l : List Sig) (s : ByteArray) : ∀ k, Wd (sumTo l s k)
  | 0 => ⟨by simp [sumTo], by simp [sumTo]⟩
  | k + 1 => Wd.mod _
theorem leafS_bd (env : List Sig) (o n : Int) (s : ByteArray) (vs : List Int) (hn : o = 1 → 0 ≤ n ∧ n ≤ 65535) (h : ∀ x, x ∈ vs → Wd x) : Wd (leafS env o n s vs) := by
  unfold leafS
  by_cases h1 : o = 1
  · rw [if_pos h1]; have := hn h1; exact ⟨by omega, by omega⟩
  rw [if_neg h1]
  refine Wd.ite (find_bd _ _) (Wd.ite ?_ (Wd.ite (sumTo_bd _ _ _) (operS_bd _ _ h)))
  split
  · exact at_bd _ _ _
  · exact ⟨by omega, by omega⟩
theorem valE_bd (env : List Sig) (e : Ex) : errE e = 0 → Wd (valE env e) := by
  induction e using Ex.ind with
  | h o n s l ih =>
    intro he
    obtain ⟨h1, h2⟩ := errE_node he
    have hok := node_ok h1
    have H : ∀ (r : List Ex), (∀ a, a ∈ r → a ∈ l) → ∀ x, x ∈ valL env r → Wd x := by
      intro r
      induction r with
      | nil => intro _ x hx; cases hx
      | cons a r ihr =>
        intro hm x hx
        simp only [valL, List.mem_cons] at hx
        rcases hx with e | hx
        · rw [e]; exact ih a (hm a (by simp)) (errL_mem h2 a (hm a (by simp)))
        · exact ihr (fun y hy => hm y (by simp [hy])) x hx
    simp only [valE]
    exact leafS_bd env o n s _ hok.2.2.1 (H l (fun _ h => h))
theorem valL_bd (env : List Sig) (l : List Ex) (h : errL l = 0) : ∀ x, x ∈ valL env l → Wd x := by
  induction l with
  | nil => intro x hx; cases hx
  | cons a r ih =>
    intro x hx
    have hm := errL_mem h
    simp only [valL, List.mem_cons] at hx
    rcases hx with e | hx
    · rw [e]; exact valE_bd env a (hm a (by simp))
    · refine ih ?_ x hx
      simp only [errL] at h
      rw [if_pos (hm a (by simp))] at h; exact h

theorem Tryz.infoI : (Tryz.prog.info? 3).map (fun i => (i.zero, i.size, i.bytes)) = some (some (.int .i64 0), 1, 8) := by kernel_rfl

/-- operate at the values of the operands of a node without an error. -/
theorem operate_any (o : Int) (vs : List Int) (v : Value) (w : World) (hv : IntsVal w vs v) (hop : operB o vs.length = true) (h1 : 1 ≤ o) (h25 : o ≤ 25) (n1 : ¬ o = 1) (n2 : ¬ o = 2) (n3 : ¬ o = 3) (n24 : ¬ o = 24) (hb : ∀ x, x ∈ vs → Wd x) :
    Calls Tryz.prog 38 #[.int .i64 o, v] w fun e w' => e = .returned (.int .i64 (operS o vs)) ∧ Ext w w' := by
  by_cases h23 : o = 23
  · subst h23
    simp only [operB, if_true, Bool.and_eq_true, decide_eq_true_eq] at hop
    match vs, hop with
    | x :: r, hop => exact operate_inside x r v w hv (by simp at hop; omega)
    | [], hop => simp at hop
  · simp only [operB, if_neg h23, decide_eq_true_eq] at hop
    by_cases h22 : o = 22
    · subst h22
      have hop' : vs.length = 3 := by simp [arity] at hop; omega
      match vs, hop' with
      | [a, b, c], _ => exact operate_if a b c v w hv
    · by_cases hu : o = 4 ∨ o = 5 ∨ o = 6 ∨ o = 25
      · have hop' : vs.length = 1 := by
          have : arity o = 1 := by rcases hu with rfl | rfl | rfl | rfl <;> rfl
          rw [this] at hop; omega
        match vs, hop' with
        | [a], _ => exact operate_one o a v w hv h22 h23
      · have hop' : vs.length = 2 := by
          have : arity o = 2 := by
            unfold arity
            rw [if_neg (by omega), if_neg (by omega), if_neg h22, if_neg h23, if_neg (by omega)]
          rw [this] at hop; omega
        match vs, hop', hb with
        | [a, b], _, hb =>
          have ha := hb a (by simp)
          have hb' := hb b (by simp)
          exact operate_two o a b v w hv h22 h23 ha.1 ha.2 hb'.1 hb'.2
end Go.Proofs.YtibfoafepjggjaaGreatDoor

namespace Go.Proofs.YtibfoafepjggjaaGreatDoor
open Go.RowKit

theorem Ext.box1 {w w' : World} {T : TypeId} {a : Value} {o : Obj} (h : Ext ((w.alloc (.cells #[a] T)).alloc o) w') : w'.cell? ⟨w.heap.size, 0, none⟩ = some a :=
  h.cell (by simp [World.cell?_alloc_new])
theorem Ext.box4b {w w' : World} {T : TypeId} {a b c d : Value} {o : Obj} (h : Ext ((w.alloc o).alloc (.cells #[a, b, c, d] T)) w') :
    w'.cell? ⟨w.heap.size + 1, 0, none⟩ = some a ∧ w'.cell? ⟨w.heap.size + 1, 1, none⟩ = some b ∧ w'.cell? ⟨w.heap.size + 1, 2, none⟩ = some c ∧ w'.cell? ⟨w.heap.size + 1, 3, none⟩ = some d :=
  ⟨h.cell (by simp [World.cell?_alloc_new]), h.cell (by simp [World.cell?_alloc_new]), h.cell (by simp [World.cell?_alloc_new]), h.cell (by simp [World.cell?_alloc_new])⟩

set_option maxRecDepth 100000 in
set_option maxHeartbeats 2000000 in
theorem value_any (env : List Sig) (p : Option Addr) (cap : Nat) (e : Ex) : ∀ (v : Value) (w : World), errE e = 0 → SigsVal w env (.slice p env.length cap) → ExVal w e v →
    Calls Tryz.prog 22 #[.agg #[.slice p env.length cap], v] w fun en w' => en = .returned (.int .i64 (valE env e)) ∧ Ext w w' := by
  induction e using Ex.ind with
  | h o m nm l ih =>
    intro v w he hs hv
    obtain ⟨hnode, herl⟩ := errE_node he
    obtain ⟨o1, o25, -, hop, hvar, hname, -, -⟩ := node_ok hnode
    obtain ⟨q, cp, rfl, hl, h1, h2, -, -, -⟩ := ex_open hv
    simp only [Ex.op, Ex.num, Ex.name, Ex.args] at *
    have hlen : l.length ≤ 1000 := by
      unfold operB at hop
      split at hop
      · simp only [Bool.and_eq_true, decide_eq_true_eq] at hop; omega
      · have : arity o ≤ 3 := by unfold arity; repeat' (first | omega | split)
        simp only [decide_eq_true_eq] at hop; omega
    have hq : valE env (.mk o m nm l) = leafS env o m nm (valL env l) := by rw [valE]
    generalize valE env (.mk o m nm l) = R at *
    have HQ := Lib.hid hq; clear hq
    have HOP := Lib.hid hop; clear hop
    have HNAME := Lib.hid hname; clear hname
    have hbd := valL_bd env l herl
    have HBD := Lib.hid hbd; clear hbd
    have hmem := errL_mem herl
    have HMEM := Lib.hid hmem; clear hmem
    clear he hnode herl hvar
    have IH := Lib.hid ih; clear ih
    have HS := Lib.hid hs; clear hs
    have HL := Lib.hid hl; clear hl
    have HV := Lib.hid hv; clear hv
    obtain ⟨i0, hi, hz0, hz1, hz2⟩ := info_parts Tryz.infoI
    obtain ⟨vs, hvs⟩ : ∃ vs, vs = valL env l := ⟨_, rfl⟩
    have hvl : vs.length = l.length := by rw [hvs]; exact valL_len env l
    have HVL := Lib.hid hvl; clear hvl
    have HVS := Lib.hid hvs; clear hvs
    go_enter Tryz.func22, Tryz.ntmps22
    go_wp2_with fail
    go_loopw [5, 15, 7] (fun u i _ wr => ∃ j : Nat, i = .int .i64 j ∧ j ≤ l.length ∧ wr.ownsRow 0 3 1 u j ((vs.take j).map (Value.int .i64)) ∧ (∀ k, u.ownBlock = some k → w.heap.size + 2 ≤ k) ∧ Ext ((w.alloc (.cells #[.slice p env.length cap] 45)).alloc (.cells #[.int .i64 o, .int .i64 m, .string nm, .slice q l.length cp] 24)) wr) (fun _ i _ _ => l.length - (intOf i).toNat)
    case atStart => exact ⟨0, rfl, Nat.zero_le _, by simpa using World.ownsRow_nil _ _ _ _, by simp [Value.ownBlock], Ext.refl _⟩
    case round =>
      obtain ⟨j, rfl, hj, hrow, hfresh, hext⟩ := hrel
      have c0 := hext.box1
      obtain ⟨d0, d1, d2, d3⟩ := hext.box4b
      have HROW := Lib.hid hrow; clear hrow
      have HF := Lib.hid hfresh; clear hfresh
      have HX := Lib.hid hext; clear hext
      have hE : Ext w wr := HX.out.past.past
      have l0 : w.heap.size < wr.heap.size := by have := HX.out.size; simp at this; omega
      have l1 : w.heap.size + 1 < wr.heap.size := by have := HX.out.size; simp at this; omega
      have HE := Lib.hid hE; clear hE
      by_cases hlt : j < l.length
      · obtain ⟨b, off, cs, rfl, hr, hc⟩ := exs_at HL.out hlt
        obtain ⟨sv, gv, gl, q2, q3, q4, q5⟩ := ex_row hr hc
        obtain ⟨p', cp', rfl, -, -⟩ := exs_shape gl
        have r2 := HE.out.cell q2
        have r3 := HE.out.cell q3
        have r4 := HE.out.cell q4
        have r5 := HE.out.cell q5
        clear q2 q3 q4 q5 hr hc gl d0 d1 d2 d3
        have GV := Lib.hid gv; clear gv
        have hcon := fun w' => IH.out (l[j]'hlt) (List.getElem_mem hlt) (.agg #[.int .i64 (l[j]'hlt).op, .int .i64 (l[j]'hlt).num, .string (l[j]'hlt).name, .slice p' (l[j]'hlt).args.length cp']) w' (HMEM.out _ (List.getElem_mem hlt))
        have HCON := Lib.hid hcon; clear hcon
        have htk : (vs.take (j + 1)).map (Value.int .i64) = (vs.take j).map (Value.int .i64) ++ [.int .i64 (valE env l[j])] := by
          rw [HVS.out, valL_take env l hlt, List.map_append]; rfl
        have HTK := Lib.hid htk; clear htk
        generalize valE env l[j] = x at *
        go_wp2_with (first | (go_at_call 22; refine (HCON.out _ (HS.out.ext (HE.out.alloc _)) (GV.out.ext (HE.out.alloc _))).mono ?_; rintro e w' ⟨rfl, hy⟩; have hrow2 := row_ext ((Ext.refl _).alloc _ |>.trans hy) HROW.out; have HROW2 := Lib.hid hrow2; clear hrow2; have HY := Lib.hid hy; clear hy) | (at_builtin; refine wpList_append2 _ rfl (.tmp 19) (.tmp 23) 53 rfl 3 i0 (.int .i64 0) 1 8 Tryz.underlying53 hi hz0 hz1 hz2 rfl (by decide) _ j ((vs.take j).map (Value.int .i64)) rfl (HROW2.out.alloc _) ⟨_, 0, none⟩ 1 1 [.int .i64 x] rfl rfl ?c1 ?c2 ?c3 ?c4 (by decide) ?_))
        case c1 => exact cell_one_new _ _ _
        case c2 => intro u hu; simp at hu; subst hu; rfl
        case c3 => unfold maxLen; omega
        case c4 => omega
        intro g cap1 w3 hgr
        have hx3 := (((Keep.of_ext (O := fun k => u5.ownBlock = some k) ((HX.out.trans ((Ext.refl wr).alloc _)).trans HY.out)).alloc _).grown hgr.grown (fun k hk => .inl hk)).ext (Ext.refl _) (fun x hx => by have := HF.out x hx; simp; omega)
        have hfr : ∀ k, (Value.slice (some ⟨g, 0, none⟩) (j + 1) cap1).ownBlock = some k → w.heap.size + 2 ≤ k := fun k hk => by
          simp [Value.ownBlock] at hk
          subst hk
          rcases hgr.new with h | h
          · exact HF.out g h
          · have := HY.out.size; simp at this h; omega
        have hrow3 := hgr.row
        have HROW3 := Lib.hid hrow3; clear hrow3
        have HFR := Lib.hid hfr; clear hfr
        have HX3 := Lib.hid hx3; clear hx3
        clear hgr
        go_wp2_with fail
        go_roundw
        case rel => exact ⟨j + 1, by go_num, by omega, by rw [HTK.out, List.map_take]; exact HROW3.out, HFR.out, HX3.out⟩
        case measure => simp [intOf]; omega
      · have : j = l.length := by omega
        subst this
        have hrow9 : wr.ownsRow 0 3 1 u5 vs.length (vs.map (Value.int .i64)) := by
          have h := HROW.out
          rw [← HVL.out, List.take_length] at h
          exact h
        have hints := ints_own hrow9
        have HI := Lib.hid hints; clear hints hrow9
        have hi' := HI.out
        obtain ⟨pi, ci, rfl, g1, g2, -⟩ := hi'
        by_cases h1 : o = 1
        · subst h1
          go_wp2_with fail
          go_ret
          exact ⟨ret_int (by rw [HQ.out]; rfl), HE.out⟩
        have e1 : (o == 1) = false := beq_eq_false_iff_ne.2 h1
        by_cases h2' : o = 2
        · subst h2'
          have hq2 : leafS env 2 m nm (valL env l) = (findS env nm).getD 0 := rfl
          have HQ2 := Lib.hid hq2; clear hq2
          have hf := fun w' hs => find_any env nm p cap w' hs
          unfold optV at hf
          have HF2 := Lib.hid hf; clear hf
          generalize (findS env nm).getD 0 = x at *
          generalize (findS env nm).isSome = bb at *
          go_wp2_with (go_at_call 34; refine (HF2.out _ (HS.out.ext HE.out)).mono ?_; rintro e w' ⟨rfl, hy⟩)
          go_ret
          exact ⟨ret_int (by rw [HQ.out, HQ2.out]), HE.out.trans hy⟩
        have e2 : (o == 2) = false := beq_eq_false_iff_ne.2 h2'
        by_cases h3 : o = 3
        · subst h3
          have hl1 : vs.length = 1 := by
            have h := HOP.out
            simp [operB, arity] at h
            rw [HVL.out]; omega
          obtain ⟨x0, hx0⟩ : ∃ x, vs = [x] := by
            match vs, hl1 with
            | [x], _ => exact ⟨x, rfl⟩
          obtain ⟨bi, oi, hpi, q0⟩ := ints_at HI.out (j := 0) (by omega)
          cases hpi
          have hv0 : vs[0]'(by omega) = x0 := by simp [hx0]
          rw [hv0, Nat.add_zero] at q0
          have hq2 : leafS env 3 m nm (valL env l) = (atS env nm x0).getD 0 := by rw [← HVS.out, hx0]; rfl
          have HQ2 := Lib.hid hq2; clear hq2
          have hnm : nm.size ≤ 1000 := by have := nameB_size (HNAME.out (.inl rfl)); omega
          have hf := fun w' hs => at_all env nm x0 p cap w' hs hnm
          unfold optV at hf
          have HF2 := Lib.hid hf; clear hf
          generalize (atS env nm x0).getD 0 = x at *
          generalize (atS env nm x0).isSome = bb at *
          have k1 : (0 : Int) < (vs.length : Int) := by omega
          have k2 : 0 < vs.length := by omega
          clear hnm hx0 hv0 d1 d3
          have HL1 := Lib.hid hl1; clear hl1
          go_wp2_with fail
          go_region_held3 (fun wz => wz.cell? ⟨w.heap.size, 0, none⟩ = some (.slice p env.length cap) ∧ wz.cell? ⟨w.heap.size + 1, 2, none⟩ = some (.string nm) ∧ wz.cell? ⟨bi, oi, none⟩ = some (.int .i64 x0)) (first | exact ⟨hy.cell c0, hy.cell d2, hy.cell q0⟩ | exact ⟨c0, d2, q0⟩) (first | (go_at_call 36; refine (HF2.out _ (HS.out.ext HE.out.drew)).mono ?_; rintro e w' ⟨rfl, hy⟩))
          go_wp2_with fail
          go_ret
          exact ⟨ret_int (by rw [HQ.out, HQ2.out]), HE.out.trans ((Ext.refl wr).drew.trans hy)⟩
        have e3 : (o == 3) = false := beq_eq_false_iff_ne.2 h3
        by_cases h24 : o = 24
        · subst h24
          have hq2 : leafS env 24 m nm (valL env l) = sumTo env nm 8 := rfl
          have HQ2 := Lib.hid hq2; clear hq2
          have hnm : nm.size ≤ 1000 := by have := nameB_size (HNAME.out (.inr rfl)); omega
          have hf := fun w' hs => sum_any env nm p cap w' hs hnm
          have HF2 := Lib.hid hf; clear hf
          generalize sumTo env nm 8 = x at *
          clear hnm
          go_wp2_with (go_at_call 37; refine (HF2.out _ (HS.out.ext HE.out)).mono ?_; rintro e w' ⟨rfl, hy⟩)
          go_ret
          exact ⟨ret_int (by rw [HQ.out, HQ2.out]), HE.out.trans hy⟩
        have e24 : (o == 24) = false := beq_eq_false_iff_ne.2 h24
        have hq2 : leafS env o m nm (valL env l) = operS o vs := by rw [HVS.out]; simp [leafS, h1, h2', h3, h24]
        have hf := fun w' hv => operate_any o vs (.slice pi vs.length ci) w' hv (by rw [HVL.out]; exact HOP.out) o1 o25 h1 h2' h3 h24 (by rw [HVS.out]; exact HBD.out)
        have HQ2 := Lib.hid hq2; clear hq2
        have HF2 := Lib.hid hf; clear hf
        generalize operS o vs = x at *
        clear h1 h2' h3 h24
        go_wp2_with (go_at_call 38; refine (HF2.out _ HI.out).mono ?_; rintro e w' ⟨rfl, hy⟩)
        go_ret
        exact ⟨ret_int (by rw [HQ.out, HQ2.out]), HE.out.trans hy⟩

/-- What Eval answers. -/
def evalE (e : Ex) (env : List Sig) : Int × Int := if validE e = 0 then (if knownB env e = true then (valE env e, 0) else (0, 7)) else (0, 1)
def RetEval (r : Int × Int) (w : World) (e : Ending) (w' : World) : Prop := e = .returned (.tuple #[.int .i64 r.1, .int .i64 r.2]) ∧ Ext w w'
theorem validE_err {e : Ex} (h : validE e = 0) : errE e = 0 := by
  unfold validE at h; split at h
  · cases h
  · exact h
end Go.Proofs.YtibfoafepjggjaaGreatDoor

namespace Go.Proofs.YtibfoafepjggjaaGreatDoor
open Go.RowKit

theorem nameWalk_true (ops : List Int) (e : Ex) : ∀ x, (walkE (nextName ops) e x).2 = true := by
  induction e using Ex.ind with
  | h o n s l ih =>
    intro x
    have H : ∀ (r : List Ex), (∀ a, a ∈ r → a ∈ l) → ∀ x, (walkL (nextName ops) r x).2 = true := by
      intro r
      induction r with
      | nil => intro _ x; rfl
      | cons a r ihr => intro hm x; rw [walkL, if_pos (ih a (hm a (by simp)) x)]; exact ihr (fun y hy => hm y (by simp [hy])) _
    rw [walkE, if_pos (show (nextName ops x (Ex.mk o n s l)).2 = true from rfl)]; exact H l (fun _ h => h) _
theorem addName_mem {ops : List Int} {l : List ByteArray} {o : Int} {s t : ByteArray} (h : t ∈ addName ops l o s) : t ∈ l ∨ (t = s ∧ o ∈ ops) := by
  unfold addName at h
  by_cases hc : o ∈ ops ∧ inB s l = false
  · rw [if_pos hc] at h
    rcases List.mem_append.1 h with h | h
    · exact .inl h
    · exact .inr ⟨by simpa using h, hc.1⟩
  · rw [if_neg hc] at h; exact .inl h
theorem names_ok (e : Ex) : errE e = 0 → ∀ x : List ByteArray, (∀ s, s ∈ x → nameB s = true) → ∀ s, s ∈ (walkE (nextName [3, 24]) e x).1 → nameB s = true := by
  induction e using Ex.ind with
  | h o n s l ih =>
    intro he x hx
    obtain ⟨hnode, herl⟩ := errE_node he
    have hok := node_ok hnode
    have hm := errL_mem herl
    have H : ∀ (r : List Ex), (∀ a, a ∈ r → a ∈ l) → ∀ x : List ByteArray, (∀ s, s ∈ x → nameB s = true) → ∀ s, s ∈ (walkL (nextName [3, 24]) r x).1 → nameB s = true := by
      intro r
      induction r with
      | nil => intro _ x hx; exact hx
      | cons a r ihr =>
        intro hr x hx
        rw [walkL, if_pos (nameWalk_true _ a x)]
        exact ihr (fun y hy => hr y (by simp [hy])) _ (ih a (hr a (by simp)) (hm a (hr a (by simp))) x hx)
    rw [walkE, if_pos (show (nextName [3, 24] x (Ex.mk o n s l)).2 = true from rfl)]
    refine H l (fun _ h => h) _ ?_
    intro t ht
    rcases addName_mem ht with h | ⟨rfl, h⟩
    · exact hx t h
    · exact hok.2.2.2.2.2.1 (by simpa [Ex.op] using h)

set_option maxRecDepth 100000 in
set_option maxHeartbeats 1000000 in
theorem eval_any (e : Ex) (env : List Sig) (v vs : Value) (w : World) (hv : ExVal w e v) (hs : SigsVal w env vs) (hk : Keys w) (hd : edepth e ≤ 1000000) (hz : esize e ≤ 1000000) :
    Calls Tryz.prog 8 #[v, vs] w (RetEval (evalE e env) w) := by
  have hs' := hs
  obtain ⟨p, cap, rfl, -, -, -⟩ := hs'
  obtain ⟨q, cp, rfl, hl, h1, h2, -, -, -⟩ := ex_open hv
  have hV := fun w hv hk => valid_any e w (.agg #[.int .i64 e.op, .int .i64 e.num, .string e.name, .slice q e.args.length cp]) hv hk hd hz
  have HVA := Lib.hid hV; clear hV
  have hq : evalE e env = if validE e = 0 then (if knownB env e = true then (valE env e, 0) else (0, 7)) else (0, 1) := rfl
  generalize evalE e env = R at *
  have HQ := Lib.hid hq; clear hq
  have hok : validE e = 0 → errE e = 0 := validE_err
  have hkn : validE e = 0 → ∀ w, SigsVal w env (.slice p env.length cap) → ExVal w e (.agg #[.int .i64 e.op, .int .i64 e.num, .string e.name, .slice q e.args.length cp]) → _ :=
    fun h0 w hs hv => known_any env e (.agg #[.int .i64 e.op, .int .i64 e.num, .string e.name, .slice q e.args.length cp]) p cap w hs hv hz (fun s hs => by
      have := nameB_size (names_ok e (hok h0) [] (by simp) s hs); omega)
  have hva : validE e = 0 → ∀ w, SigsVal w env (.slice p env.length cap) → ExVal w e (.agg #[.int .i64 e.op, .int .i64 e.num, .string e.name, .slice q e.args.length cp]) → _ :=
    fun h0 w hs hv => value_any env p cap e _ w (hok h0) hs hv
  have HKN := Lib.hid hkn; clear hkn
  have HVL := Lib.hid hva; clear hva
  clear hok hl
  generalize hve : validE e = ve at *
  have HVE := Lib.hid hve; clear hve
  have HV := Lib.hid hv; clear hv
  have HS := Lib.hid hs; clear hs
  have HK := Lib.hid hk; clear hk
  have hE : Ext w ((w.alloc (.cells #[.int .i64 e.op, .int .i64 e.num, .string e.name, .slice q e.args.length cp] 24)).alloc (.cells #[.slice p env.length cap] 45)) := ((Ext.refl w).alloc _).alloc _
  have HE := Lib.hid hE; clear hE
  have BX : Hid (∀ w1, Ext ((w.alloc (.cells #[.int .i64 e.op, .int .i64 e.num, .string e.name, .slice q e.args.length cp] 24)).alloc (.cells #[.slice p env.length cap] 45)) w1 → (w1.cell? ⟨w.heap.size, 0, none⟩ = some (.int .i64 e.op) ∧ w1.cell? ⟨w.heap.size, 1, none⟩ = some (.int .i64 e.num) ∧ w1.cell? ⟨w.heap.size, 2, none⟩ = some (.string e.name) ∧ w1.cell? ⟨w.heap.size, 3, none⟩ = some (.slice q e.args.length cp)) ∧ w1.cell? ⟨w.heap.size + 1, 0, none⟩ = some (.slice p env.length cap)) :=
    Lib.hid fun w1 h => ⟨⟨h.cell (by simp [World.cell?_alloc_new]), h.cell (by simp [World.cell?_alloc_new]), h.cell (by simp [World.cell?_alloc_new]), h.cell (by simp [World.cell?_alloc_new])⟩, h.cell (by simp [World.cell?_alloc_new])⟩
  go_enter Tryz.func8, Tryz.ntmps8
  go_wp2_with fail
  refine (HVA.out _ (HV.out.ext HE.out) (HK.out.ext HE.out)).mono ?_
  rintro en w1 ⟨rfl, hx⟩
  obtain ⟨⟨c0, c1, c2, c3⟩, c4⟩ := BX.out _ hx
  have HX := Lib.hid hx; clear hx
  by_cases hz : ve = 0
  · subst hz
    go_wp2_with fail
    refine (HKN.out (by first | rfl | trivial) _ (HS.out.ext (HE.out.trans HX.out)) (HV.out.ext (HE.out.trans HX.out))).mono ?_
    rintro en w2 ⟨rfl, hy⟩
    obtain ⟨⟨d0, d1, d2, d3⟩, d4⟩ := BX.out _ (HX.out.trans hy)
    have HY := Lib.hid hy; clear hy
    clear c0 c1 c2 c3 c4
    cases hkb : knownB env e with
    | true =>
      have HKB := Lib.hid hkb; clear hkb
      go_wp2_with fail
      refine (HVL.out (by first | rfl | trivial) _ (HS.out.ext ((HE.out.trans HX.out).trans HY.out)) (HV.out.ext ((HE.out.trans HX.out).trans HY.out))).mono ?_
      rintro en w3 ⟨rfl, hz⟩
      have HZ := Lib.hid hz; clear hz
      go_wp2_with fail
      go_ret2
      refine ⟨?_, ((HE.out.trans HX.out).trans HY.out).trans HZ.out⟩
      rw [HQ.out, if_pos trivial, if_pos HKB.out]; rfl
    | false =>
      have HKB := Lib.hid hkb; clear hkb
      go_wp2_with fail
      go_ret2
      refine ⟨?_, (HE.out.trans HX.out).trans HY.out⟩
      rw [HQ.out, if_pos trivial, if_neg (by rw [HKB.out]; simp)]; rfl
  · have hz1 : (ve != 0) = true := bne_iff_ne.2 hz
    have HZ := Lib.hid hz; clear hz
    go_wp2_with fail
    go_ret2
    refine ⟨?_, HE.out.trans HX.out⟩
    rw [HQ.out, if_neg HZ.out]; rfl
end Go.Proofs.YtibfoafepjggjaaGreatDoor
