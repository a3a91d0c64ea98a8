/-
  The parser of expressions: the first two levels.
-/
import Derived.Test.YteopfpebdalcoaaGreatDoorPm3
set_option linter.unusedVariables false
set_option linter.unusedSimpArgs false
set_option linter.unusedSectionVars false
namespace Go.Proofs.YteopfpebdalcoaaGreatDoor
open Go.RowKit
def PQ (ts : List Tok) (i : Nat) (σ : List (List V)) (x : PR) (o : Out) (σ' : List (List V)) : Prop := match x with
  | .ok e r => o = .ret (vex e) ∧ σ' = σ.set i (pb ts (ts.length - r.length))
  | .bad c r => o = .panic (faultV c (ts.length - r.length)) ∧ ∃ b, σ' = σ.set i (pb ts b)
  | .out => False
theorem suf_drop {ts r : List Tok} (h : r <:+ ts) : r = ts.drop (ts.length - r.length) := List.suffix_iff_eq_drop.1 h
theorem par_at {ts : List Tok} {a : Nat} {k : PK} {e : Ex} {r : List Tok} (ha : a ≤ ts.length) (h : par k (ts.drop a) = .ok e r) : r = ts.drop (ts.length - r.length) ∧ a ≤ ts.length - r.length ∧ ts.length - r.length ≤ ts.length ∧ (k.eats = true → a < ts.length - r.length) := by
  have ht := par_took k (ts.drop a)
  rw [h] at ht
  have h1 := ht.1.length_le
  have h2 := ht.2
  rw [List.length_drop] at h1 h2
  exact ⟨suf_drop (ht.1.trans (List.drop_suffix _ _)), by omega, by omega, fun e => by have := h2 e; omega⟩
theorem fail_drop (ts : List Tok) (a : Nat) (ha : a ≤ ts.length) : failP (ts.drop a) = .bad (failE ts a) (ts.drop a) := by
  unfold failE
  by_cases h : a < ts.length
  · rw [if_pos h, List.drop_eq_getElem_cons h]; rfl
  · rw [if_neg h, List.drop_eq_nil_of_le (by omega)]; rfl
theorem len_drop (ts : List Tok) (a : Nat) (ha : a ≤ ts.length) : ts.length - (ts.drop a).length = a := by rw [List.length_drop]; omega
theorem impl_fun (ts : List Tok) (a i : Nat) (hz : ∀ t, t ∈ ts → t.text.size ≤ 1000) (hn : ts.length ≤ 1000000) (ha : a ≤ ts.length)
    (hL : ∀ σ : List (List V), σ[i]? = some (pb ts a) → Fun G 116 [.ptr i 0, .d (dint 3)] σ (PQ ts i σ (par (.L 3) (ts.drop a))))
    (hI : ∀ b, a < b → b ≤ ts.length → ∀ σ : List (List V), σ[i]? = some (pb ts b) → Fun G 86 [.ptr i 0] σ (PQ ts i σ (par .I (ts.drop b))))
    (σ : List (List V)) (hi : σ[i]? = some (pb ts a)) : Fun G 86 [.ptr i 0] σ (PQ ts i σ (par .I (ts.drop a))) := by
  have hlt := (List.getElem?_eq_some_iff.1 hi).1
  have hset : ∀ X : List V, (σ.set i X)[i]? = some X := fun X => by simp [hlt]
  refine fun_code Tryz.func86 k86 rfl fun hb hw => ?_
  delta c86 oM oV kI kS kT kF
  have hL' := fun l => hL (σ ++ l) (box_old hi l)
  rw [par_eq]
  simp only [stepP]
  simp -dsimp -implicitDefEqProofs only [aw, slots0, V.copy, V.lend, eq_self, reduceIte, reduceCtorEq, Nat.reduceBEq, Nat.reduceLT, Nat.reduceEqDiff]
  refine fun_mono (hL' _) fun o σ' hq => ?_
  cases hx : par (.L 3) (ts.drop a) with
  | out => exact absurd hx (par_ne _ _)
  | bad c r =>
    rw [hx] at hq
    obtain ⟨rfl, b, rfl⟩ := hq
    rw [set_old hi]
    simp -dsimp -implicitDefEqProofs only [aw, V.copy, V.lend, V.cells, V.boxable, Nat.reduceLeDiff, eq_self, reduceIte, reduceCtorEq, Nat.reduceBEq, Nat.reduceLT, Nat.reduceEqDiff, Nat.reduceAdd, retK_pan]
    exact fin_pan (τ := σ.set i (pb ts b)) (pb_below hb i ts b) (take_set_app _ _ _) rfl ⟨rfl, b, rfl⟩
  | ok e r =>
    rw [hx] at hq
    obtain ⟨rfl, rfl⟩ := hq
    obtain ⟨h1, h2, h3, h4⟩ := par_at ha hx
    have h4 := h4 rfl
    generalize ts.length - r.length = a1 at *
    subst h1
    rw [set_old hi]
    obtain ⟨σ1, hs1⟩ : ∃ x, x = σ.set i (pb ts a1) := ⟨_, rfl⟩
    have hl1 : σ1.length = σ.length := by rw [hs1, List.length_set]
    have hb1 : boxesBelow σ1.length σ1 = true := by rw [hl1, hs1]; exact pb_below hb i ts _
    have hi1 : σ1[i]? = some (pb ts a1) := by rw [hs1]; exact hset _
    have hA := fun m l => accept_fun m ts a1 i hz hn h3 (σ1 ++ l) (box_old hi1 l)
    rw [← hs1]
    rw [← hl1]
    have hdr : ts.drop a1 = ts.drop a1 := rfl
    simp -dsimp -implicitDefEqProofs only [aw, V.copy, V.lend, V.cells, V.boxable, over, Nat.reduceLeDiff, eq_self, reduceIte, reduceCtorEq, Nat.reduceBEq, Nat.reduceLT, Nat.reduceEqDiff, Nat.reduceAdd, retK_ret, vex_eq, PR.bind]
    refine fun_set (hA _ _) ?_
    have hm : (⟨#[61, 62]⟩ : ByteArray) = mark2 61 62 := rfl
    rw [hm]
    cases hs : seesB (mark2 61 62) ts a1 with
    | false =>
      simp -dsimp -implicitDefEqProofs only [aw, V.copy, V.cells, V.boxable, over, Nat.reduceLeDiff, eq_self, reduceIte, reduceCtorEq, Nat.reduceBEq, Nat.reduceLT, Nat.reduceEqDiff, Nat.reduceAdd, if_false]
      exact fin_set (τ := σ1) hb1 (v := vex e) (by rw [vex_eq]; simp [rs86, resV, res1, aw, V.copy, V.lend, V.lend1, eq_self, reduceIte, Nat.reduceAdd]) (by rw [vex_eq]; rfl) List.take_left (by simp only [PR.bind, acc_sees, hs, Bool.false_eq_true, if_false]; exact ⟨rfl, by rw [len_drop ts a1 h3]; exact hs1⟩)
    | true =>
      have ha2 : a1 + 1 ≤ ts.length := by
        apply Classical.byContradiction
        intro h
        rw [sees_ge (by omega)] at hs; cases hs
      obtain ⟨σ2, hs2⟩ : ∃ x, x = σ1.set i (pb ts (a1 + 1)) := ⟨_, rfl⟩
      have hl2 : σ2.length = σ1.length := by rw [hs2, List.length_set]
      have hb2 : boxesBelow σ2.length σ2 = true := by rw [hl2, hs2]; exact pb_below hb1 i ts _
      have hi2 : σ2[i]? = some (pb ts (a1 + 1)) := by rw [hs2, List.getElem?_set_self (by omega)]
      rw [if_pos rfl, set_old hi1, ← hs2]
      rw [← hl2]
      simp -dsimp -implicitDefEqProofs only [aw, V.copy, V.lend, Nat.reduceLeDiff, eq_self, reduceIte, reduceCtorEq, Nat.reduceBEq, Nat.reduceLT, Nat.reduceEqDiff, Nat.reduceAdd]
      have hall : ∀ X : List V, σ2.set i X = σ.set i X := fun X => by rw [hs2, hs1, List.set_set, List.set_set]
      cases hx2 : par .I (ts.drop (a1 + 1)) with
      | out => exact absurd hx2 (par_ne _ _)
      | bad c r2 =>
        refine act_pan ((hI (a1 + 1) (by omega) ha2 _ (box_old hi2 _)).mono fun o σ' hq => ?_)
        rw [hx2] at hq
        obtain ⟨rfl, b, rfl⟩ := hq
        refine ⟨_, rfl, fun ρ' => ?_⟩
        rw [set_old hi2]
        simp -dsimp -implicitDefEqProofs only [aw]
        refine fin_pan (τ := σ2.set i (pb ts b)) (pb_below hb2 i ts b) (take_set_app _ _ _) rfl ?_
        simp only [PR.bind, acc_sees, hs, if_true, hx2]
        exact ⟨rfl, b, hall _⟩
      | ok e2 r2 =>
        obtain ⟨g1, g2, g3, g4⟩ := par_at ha2 hx2
        generalize ts.length - r2.length = a2 at *
        obtain ⟨σ3, hs3⟩ : ∃ x, x = σ2.set i (pb ts a2) := ⟨_, rfl⟩
        have hl3 : σ3.length = σ2.length := by rw [hs3, List.length_set]
        have hb3 : boxesBelow σ3.length σ3 = true := by rw [hl3, hs3]; exact pb_below hb2 i ts _
        have hP : PQ ts i σ ((PR.ok e (ts.drop a1)).bind fun a r1 => match acc (mark2 61 62) r1 with | none => .ok a r1 | some r2 => (par .I r2).bind fun b r3 => .ok (nodeE 21 [a, b]) r3) (.ret (vex (nodeE 21 [e, e2]))) σ3 := by
          simp only [PR.bind, acc_sees, hs, if_true, hx2]
          rw [g1]
          exact ⟨rfl, by rw [len_drop ts a2 g3, hs3]; exact hall _⟩
        have hN := node_fun 21 [e, e2]
        refine act_ret (σ1 := σ3 ++ [[.d (dint 0), .d (dint 0), .d (dstr ⟨#[]⟩), .nil], [.d (dint e.op), .d (dint e.num), .d (dstr e.name), .d (.sl (e.args.map dex))]]) (v := vex e2) ((hI (a1 + 1) (by omega) ha2 _ (box_old hi2 _)).mono fun o σ' hq => ?_) ?_ ?_
        · rw [hx2] at hq
          obtain ⟨rfl, rfl⟩ := hq
          refine ⟨rfl, ?_⟩
          rw [set_old hi2, hs3, g1, len_drop ts a2 g3]
        · rw [← hl3]
          simp -dsimp -implicitDefEqProofs only [aw, V.copy, Nat.reduceLeDiff, eq_self, reduceIte, reduceCtorEq, Nat.reduceLT, Nat.reduceEqDiff, Nat.reduceAdd]
        · rw [← hl3]
          simp -dsimp -implicitDefEqProofs only [aw, V.copy, V.lend, V.cells, rowsOf, plains, V.plain, eq_self, reduceIte, reduceCtorEq, Nat.reduceBEq, Nat.reduceLT, Nat.reduceEqDiff, Nat.reduceAdd, vex_eq]
          refine calm_ret (by simpa only [List.map_cons, List.map_nil, dex_eq] using hN _) ?_
          simp -dsimp -implicitDefEqProofs only [aw, V.copy, V.cells, V.boxable, over, Nat.reduceLeDiff, eq_self, reduceIte, reduceCtorEq, Nat.reduceBEq, Nat.reduceLT, Nat.reduceEqDiff, Nat.reduceAdd, vex_eq, nodeE, mk_op, mk_num, mk_name, mk_args]
          exact fin_set (τ := σ3) hb3 (v := vex (nodeE 21 [e, e2])) (by rw [vex_eq]; simp [rs86, resV, res1, nodeE, mk_op, mk_num, mk_name, mk_args, dex_eq, aw, V.copy, V.lend, V.lend1, eq_self, reduceIte, Nat.reduceAdd]) (by rw [vex_eq]; rfl) List.take_left hP
set_option maxHeartbeats 1000000 in
theorem whole_fun (ts : List Tok) (a i : Nat) (hz : ∀ t, t ∈ ts → t.text.size ≤ 1000) (hn : ts.length ≤ 1000000) (ha : a ≤ ts.length)
    (hI : ∀ σ : List (List V), σ[i]? = some (pb ts a) → Fun G 86 [.ptr i 0] σ (PQ ts i σ (par .I (ts.drop a))))
    (hW : ∀ b, a < b → b ≤ ts.length → ∀ σ : List (List V), σ[i]? = some (pb ts b) → Fun G 48 [.ptr i 0] σ (PQ ts i σ (par .W (ts.drop b))))
    (σ : List (List V)) (hi : σ[i]? = some (pb ts a)) : Fun G 48 [.ptr i 0] σ (PQ ts i σ (par .W (ts.drop a))) := by
  have hlt := (List.getElem?_eq_some_iff.1 hi).1
  have hset : ∀ X : List V, (σ.set i X)[i]? = some X := fun X => by simp [hlt]
  refine fun_code Tryz.func48 k48 rfl fun hb hw => ?_
  delta c48 oM oV kI kS kT kF
  have hI' := fun l => hI (σ ++ l) (box_old hi l)
  rw [par_eq]
  simp only [stepP]
  simp -dsimp -implicitDefEqProofs only [aw, slots0, V.copy, V.lend, eq_self, reduceIte, reduceCtorEq, Nat.reduceBEq, Nat.reduceLT, Nat.reduceEqDiff]
  refine fun_mono (hI' _) fun o σ' hq => ?_
  cases hx : par .I (ts.drop a) with
  | out => exact absurd hx (par_ne _ _)
  | bad c r =>
    rw [hx] at hq
    obtain ⟨rfl, b, rfl⟩ := hq
    rw [set_old hi]
    simp -dsimp -implicitDefEqProofs only [aw, V.copy, V.lend, V.cells, V.boxable, Nat.reduceLeDiff, eq_self, reduceIte, reduceCtorEq, Nat.reduceBEq, Nat.reduceLT, Nat.reduceEqDiff, Nat.reduceAdd, retK_pan]
    exact fin_pan (τ := σ.set i (pb ts b)) (pb_below hb i ts b) (take_set_app _ _ _) rfl ⟨rfl, b, rfl⟩
  | ok e r =>
    rw [hx] at hq
    obtain ⟨rfl, rfl⟩ := hq
    obtain ⟨h1, h2, h3, h4⟩ := par_at ha hx
    have h4 := h4 rfl
    generalize ts.length - r.length = a1 at *
    subst h1
    rw [set_old hi]
    obtain ⟨σ1, hs1⟩ : ∃ x, x = σ.set i (pb ts a1) := ⟨_, rfl⟩
    have hl1 : σ1.length = σ.length := by rw [hs1, List.length_set]
    have hb1 : boxesBelow σ1.length σ1 = true := by rw [hl1, hs1]; exact pb_below hb i ts _
    have hi1 : σ1[i]? = some (pb ts a1) := by rw [hs1]; exact hset _
    have hA := fun m l => accept_fun m ts a1 i hz hn h3 (σ1 ++ l) (box_old hi1 l)
    rw [← hs1]
    rw [← hl1]
    simp -dsimp -implicitDefEqProofs only [aw, V.copy, V.lend, V.cells, V.boxable, over, Nat.reduceLeDiff, eq_self, reduceIte, reduceCtorEq, Nat.reduceBEq, Nat.reduceLT, Nat.reduceEqDiff, Nat.reduceAdd, retK_ret, vex_eq, PR.bind]
    refine fun_set (hA _ _) ?_
    have hm : (⟨#[63]⟩ : ByteArray) = mark1 63 := rfl
    rw [hm]
    cases hs : seesB (mark1 63) ts a1 with
    | false =>
      simp -dsimp -implicitDefEqProofs only [aw, V.copy, V.lend, V.cells, V.boxable, over, Nat.reduceLeDiff, eq_self, reduceIte, reduceCtorEq, Nat.reduceBEq, Nat.reduceLT, Nat.reduceEqDiff, Nat.reduceAdd, if_false]
      exact fin_set (τ := σ1) hb1 (v := vex e) (by rw [vex_eq]; simp [rs48, resV, res1, aw, V.copy, V.lend, V.lend1, eq_self, reduceIte, Nat.reduceAdd]) (by rw [vex_eq]; rfl) List.take_left (by simp only [PR.bind, acc_sees, hs, Bool.false_eq_true, if_false]; exact ⟨rfl, by rw [len_drop ts a1 h3]; exact hs1⟩)
    | true =>
      have ha2 : a1 + 1 ≤ ts.length := by
        apply Classical.byContradiction
        intro h
        rw [sees_ge (by omega)] at hs; cases hs
      obtain ⟨σ2, hs2⟩ : ∃ x, x = σ1.set i (pb ts (a1 + 1)) := ⟨_, rfl⟩
      have hl2 : σ2.length = σ1.length := by rw [hs2, List.length_set]
      have hb2 : boxesBelow σ2.length σ2 = true := by rw [hl2, hs2]; exact pb_below hb1 i ts _
      have hi2 : σ2[i]? = some (pb ts (a1 + 1)) := by rw [hs2, List.getElem?_set_self (by omega)]
      rw [if_pos rfl, set_old hi1, ← hs2]
      rw [← hl2]
      have hall : ∀ X : List V, σ2.set i X = σ.set i X := fun X => by rw [hs2, hs1, List.set_set, List.set_set]
      simp -dsimp -implicitDefEqProofs only [aw, V.copy, V.lend, eq_self, reduceIte, reduceCtorEq, Nat.reduceBEq, Nat.reduceLT, Nat.reduceEqDiff]
      refine fun_mono (hW (a1 + 1) (by omega) ha2 _ (box_old hi2 _)) fun o σ' hq => ?_
      cases hx2 : par .W (ts.drop (a1 + 1)) with
      | out => exact absurd hx2 (par_ne _ _)
      | bad c2 r2 =>
        rw [hx2] at hq
        obtain ⟨rfl, b, rfl⟩ := hq
        rw [set_old hi2]
        simp -dsimp -implicitDefEqProofs only [aw, V.copy, V.lend, V.cells, V.boxable, Nat.reduceLeDiff, eq_self, reduceIte, reduceCtorEq, Nat.reduceBEq, Nat.reduceLT, Nat.reduceEqDiff, Nat.reduceAdd, retK_pan]
        refine fin_pan (τ := σ2.set i (pb ts b)) (pb_below hb2 i ts b) (take_set_app _ _ _) rfl ?_
        simp only [PR.bind, acc_sees, hs, if_true, hx2]
        exact ⟨rfl, b, hall _⟩
      | ok e2 r2 =>
        rw [hx2] at hq
        obtain ⟨rfl, rfl⟩ := hq
        obtain ⟨g1, g2, g3, g4⟩ := par_at ha2 hx2
        generalize ts.length - r2.length = a2 at *
        obtain ⟨σ3, hs3⟩ : ∃ x, x = σ2.set i (pb ts a2) := ⟨_, rfl⟩
        have hl3 : σ3.length = σ2.length := by rw [hs3, List.length_set]
        have hb3 : boxesBelow σ3.length σ3 = true := by rw [hl3, hs3]; exact pb_below hb2 i ts _
        have hi3 : σ3[i]? = some (pb ts a2) := by rw [hs3, List.getElem?_set_self (by omega)]
        have hE := fun m l => expect_fun m ts a2 i hz hn g3 (σ3 ++ l) (box_old hi3 l)
        rw [set_old hi2, ← hs3]
        rw [← hl3]
        simp -dsimp -implicitDefEqProofs only [aw, V.copy, V.lend, V.cells, V.boxable, over, Nat.reduceLeDiff, eq_self, reduceIte, reduceCtorEq, Nat.reduceBEq, Nat.reduceLT, Nat.reduceEqDiff, Nat.reduceAdd, retK_ret, vex_eq]
        refine fun_mono (hE _ _) fun o σ' hq => ?_
        have hm2 : (⟨#[58]⟩ : ByteArray) = mark1 58 := rfl
        rw [hm2] at hq
        have hall3 : ∀ X : List V, σ3.set i X = σ.set i X := fun X => by rw [hs3, List.set_set]; exact hall X
        cases hc : seesB (mark1 58) ts a2 with
        | false =>
          rw [hc, if_neg (by decide)] at hq
          obtain ⟨rfl, rfl⟩ := hq
          simp -dsimp -implicitDefEqProofs only [aw, eq_self, reduceIte, reduceCtorEq, Nat.reduceBEq, Nat.reduceLT, Nat.reduceEqDiff, retK_pan]
          refine fin_pan (τ := σ3) hb3 List.take_left rfl ?_
          simp only [PR.bind, acc_sees, hs, if_true, hx2]
          rw [g1, acc_sees, hc]
          simp only [Bool.false_eq_true, if_false]
          rw [fail_drop ts a2 g3]
          exact ⟨by rw [len_drop ts a2 g3], a2, by rw [hs3]; exact hall _⟩
        | true =>
          rw [hc, if_pos rfl] at hq
          obtain ⟨rfl, rfl⟩ := hq
          have ha3 : a2 + 1 ≤ ts.length := by
            apply Classical.byContradiction
            intro h
            rw [sees_ge (by omega)] at hc; cases hc
          obtain ⟨σ4, hs4⟩ : ∃ x, x = σ3.set i (pb ts (a2 + 1)) := ⟨_, rfl⟩
          have hl4 : σ4.length = σ3.length := by rw [hs4, List.length_set]
          have hb4 : boxesBelow σ4.length σ4 = true := by rw [hl4, hs4]; exact pb_below hb3 i ts _
          have hi4 : σ4[i]? = some (pb ts (a2 + 1)) := by rw [hs4, List.getElem?_set_self (by omega)]
          have hall4 : ∀ X : List V, σ4.set i X = σ.set i X := fun X => by rw [hs4, List.set_set]; exact hall3 X
          rw [set_old hi3, ← hs4]
          rw [← hl4]
          simp -dsimp -implicitDefEqProofs only [aw, V.copy, V.lend, Nat.reduceLeDiff, eq_self, reduceIte, reduceCtorEq, Nat.reduceBEq, Nat.reduceLT, Nat.reduceEqDiff, Nat.reduceAdd, retK_ret]
          cases hx3 : par .W (ts.drop (a2 + 1)) with
          | out => exact absurd hx3 (par_ne _ _)
          | bad c3 r3 =>
            refine act_pan ((hW (a2 + 1) (by omega) ha3 _ (box_old hi4 _)).mono fun o σ' hq => ?_)
            rw [hx3] at hq
            obtain ⟨rfl, b, rfl⟩ := hq
            refine ⟨_, rfl, fun ρ' => ?_⟩
            rw [set_old hi4]
            simp -dsimp -implicitDefEqProofs only [aw]
            refine fin_pan (τ := σ4.set i (pb ts b)) (pb_below hb4 i ts b) (take_set_app _ _ _) rfl ?_
            simp only [PR.bind, acc_sees, hs, if_true, hx2]
            rw [g1, acc_sees, hc]
            simp only [if_true, hx3]
            exact ⟨rfl, b, hall4 _⟩
          | ok e3 r3 =>
            obtain ⟨k1, k2, k3, k4⟩ := par_at ha3 hx3
            generalize ts.length - r3.length = a3 at *
            obtain ⟨σ5, hs5⟩ : ∃ x, x = σ4.set i (pb ts a3) := ⟨_, rfl⟩
            have hl5 : σ5.length = σ4.length := by rw [hs5, List.length_set]
            have hb5 : boxesBelow σ5.length σ5 = true := by rw [hl5, hs5]; exact pb_below hb4 i ts _
            have hP : PQ ts i σ ((PR.ok e (ts.drop a1)).bind fun c r1 => match acc (mark1 63) r1 with | none => .ok c r1 | some r2 => (par .W r2).bind fun a r3 => match acc (mark1 58) r3 with | none => failP r3 | some r4 => (par .W r4).bind fun b r5 => .ok (nodeE 22 [c, a, b]) r5) (.ret (vex (nodeE 22 [e, e2, e3]))) σ5 := by
              simp only [PR.bind, acc_sees, hs, if_true, hx2]
              rw [g1, acc_sees, hc]
              simp only [if_true, hx3]
              rw [k1]
              exact ⟨rfl, by rw [len_drop ts a3 k3, hs5]; exact hall4 _⟩
            have hN := node_fun 22 [e, e2, e3]
            refine act_ret (σ1 := σ5 ++ [[.d (dint 0), .d (dint 0), .d (dstr ⟨#[]⟩), .nil], [.d (dint e.op), .d (dint e.num), .d (dstr e.name), .d (.sl (e.args.map dex))], [.d (dint e2.op), .d (dint e2.num), .d (dstr e2.name), .d (.sl (e2.args.map dex))]]) (v := vex e3) ((hW (a2 + 1) (by omega) ha3 _ (box_old hi4 _)).mono fun o σ' hq => ?_) ?_ ?_
            · rw [hx3] at hq
              obtain ⟨rfl, rfl⟩ := hq
              refine ⟨rfl, ?_⟩
              rw [set_old hi4, hs5, k1, len_drop ts a3 k3]
            · rw [← hl5]
              simp -dsimp -implicitDefEqProofs only [aw, V.copy, Nat.reduceLeDiff, eq_self, reduceIte, reduceCtorEq, Nat.reduceLT, Nat.reduceEqDiff, Nat.reduceAdd]
            · rw [← hl5]
              simp -dsimp -implicitDefEqProofs only [aw, V.copy, V.lend, V.cells, rowsOf, plains, V.plain, eq_self, reduceIte, reduceCtorEq, Nat.reduceBEq, Nat.reduceLT, Nat.reduceEqDiff, Nat.reduceAdd, vex_eq]
              refine calm_ret (by simpa only [List.map_cons, List.map_nil, dex_eq] using hN _) ?_
              simp -dsimp -implicitDefEqProofs only [aw, V.copy, V.cells, V.boxable, over, Nat.reduceLeDiff, eq_self, reduceIte, reduceCtorEq, Nat.reduceBEq, Nat.reduceLT, Nat.reduceEqDiff, Nat.reduceAdd, vex_eq, nodeE, mk_op, mk_num, mk_name, mk_args]
              exact fin_set (τ := σ5) hb5 (v := vex (nodeE 22 [e, e2, e3])) (by rw [vex_eq]; simp [rs48, resV, res1, nodeE, mk_op, mk_num, mk_name, mk_args, dex_eq, aw, V.copy, V.lend, V.lend1, eq_self, reduceIte, Nat.reduceAdd]) (by rw [vex_eq]; rfl) List.take_left hP
end Go.Proofs.YteopfpebdalcoaaGreatDoor
