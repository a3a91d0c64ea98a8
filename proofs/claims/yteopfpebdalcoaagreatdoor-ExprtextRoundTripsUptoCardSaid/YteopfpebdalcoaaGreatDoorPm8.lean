/-
  The parser of expressions: operators that group from the left.
-/
import Derived.Test.YteopfpebdalcoaaGreatDoorPm7
set_option linter.unusedVariables false
set_option linter.unusedSimpArgs false
set_option linter.unusedSectionVars false
namespace Go.Proofs.YteopfpebdalcoaaGreatDoor
open Go.RowKit
theorem operV_some {ts : List Tok} {a k : Nat} (h : operB9 ts a k = true) : ∃ (o : Int) (ex : Bool) (m : ByteArray) (n : Int), operV ts a k = .tup [.agg [.d (dstr m), .d (dint o), .d (dint n)], vbool ex, vbool true] ∧ operP k (ts.drop a) = some (o, ex, ts.drop (a + 1)) := by
  unfold operB9 at h
  unfold operV operP
  rw [operL_find]
  cases hf : findB binTab k ts a with
  | some b => exact ⟨_, _, _, _, rfl, rfl⟩
  | none =>
    rw [hf] at h
    simp only [Option.isSome_none, Bool.false_or, Bool.and_eq_true, decide_eq_true_eq, Bool.or_eq_true] at h
    obtain ⟨rfl, h⟩ := h
    simp only [Option.map_none, if_true, true_and, acc_sees]
    cases h62 : seesB (mark1 62) ts a with
    | true => exact ⟨_, _, _, _, rfl, by simp⟩
    | false =>
      rw [h62] at h
      have h := h.resolve_left (by decide)
      simp only [h, Bool.false_eq_true, if_false, if_true]
      exact ⟨_, _, _, _, rfl, rfl⟩
theorem operV_none {ts : List Tok} {a k : Nat} (h : operB9 ts a k = false) : operV ts a k = .tup [zb, vbool false, vbool false] ∧ operP k (ts.drop a) = none := by
  unfold operB9 at h
  unfold operV operP
  rw [operL_find]
  cases hf : findB binTab k ts a with
  | some b => rw [hf] at h; simp at h
  | none =>
    rw [hf] at h
    simp only [Option.isSome_none, Bool.false_or, Bool.and_eq_false_iff, decide_eq_false_iff_not, Bool.or_eq_false_iff] at h
    simp only [Option.map_none, acc_sees]
    rcases h with h | ⟨h1, h2⟩
    · simp [h]
    · simp [h1, h2]
section
variable {σ0 σ : List (List V)} {i : Nat} {ts : List Tok} {a : Nat} (H : TsOK ts) {l : List (List V)} {K P : V → List (List V) → Prop} {s : Tag K} {t : Tag P}
include H
theorem operB9_lt {k : Nat} (h : operB9 ts a k = true) : a + 1 ≤ ts.length := by
  apply Classical.byContradiction
  intro hn
  have hs : ∀ m, seesB m ts a = false := fun m => sees_ge (by omega)
  unfold operB9 findB at h
  simp only [hs, Bool.and_false, Bool.or_false] at h
  have : binTab.find? (fun _ => false) = none := rfl
  rw [this] at h
  cases h
theorem c_oper {k : Nat} (hk : k ≤ 100) (S : St σ0 i ts a σ) (ha : a ≤ ts.length) (ht : ∀ (o : Int) (ex : Bool) (m : ByteArray) (n : Int), operP k (ts.drop a) = some (o, ex, ts.drop (a + 1)) → a + 1 ≤ ts.length → ∀ σ', St σ0 i ts (a + 1) σ' → σ'.length = σ.length → K (.tup [.agg [.d (dstr m), .d (dint o), .d (dint n)], vbool ex, vbool true]) (σ' ++ l)) (hf : operP k (ts.drop a) = none → K (.tup [zb, vbool false, vbool false]) (σ ++ l)) :
    FunT G 138 [.ptr i 0, .d (dint k)] (σ ++ l) K P s t := by
  refine fun_mono (operator_fun k hk ts a i H.size H.len ha (σ ++ l) (box_old S.at_ l)) fun o σ' ⟨e1, e2⟩ => ?_
  subst e1
  rw [retK_ret]
  cases hs : operB9 ts a k with
  | true =>
    rw [hs, if_pos rfl, set_old S.at_] at e2
    subst e2
    obtain ⟨o, ex, m, n, h1, h2⟩ := operV_some hs
    rw [h1]
    exact ht o ex m n h2 (operB9_lt H hs) _ (S.step _) (S.slen _)
  | false =>
    rw [hs, if_neg (by decide)] at e2
    subst e2
    obtain ⟨h1, h2⟩ := operV_none hs
    rw [h1]
    exact hf h2
end
set_option maxHeartbeats 4000000 in
theorem left_fun (k : Nat) (hk : k ≤ 13) (ts : List Tok) (a i : Nat) (H : TsOK ts) (ha : a ≤ ts.length)
    (hU : ∀ σ : List (List V), σ[i]? = some (pb ts a) → Fun G 136 [.ptr i 0] σ (PQ ts i σ (par .U (ts.drop a))))
    (hL : k ≤ 12 → ∀ b, a ≤ b → b ≤ ts.length → ∀ σ : List (List V), σ[i]? = some (pb ts b) → Fun G 116 [.ptr i 0, .d (dint ((k : Int) + 1))] σ (PQ ts i σ (par (.L (k + 1)) (ts.drop b))))
    (hN : ∀ b e, a < b → b ≤ ts.length → ∀ σ : List (List V), σ[i]? = some (pb ts b) → Fun G 137 [.ptr i 0, vex e] σ (PQ ts i σ (par (.In e) (ts.drop b))))
    (σ : List (List V)) (hi : σ[i]? = some (pb ts a)) : Fun G 116 [.ptr i 0, .d (dint k)] σ (PQ ts i σ (par (.L k) (ts.drop a))) := by
  refine fun_code Tryz.func116 k116 rfl fun hb hw => ?_
  have S := St.init hi hb
  have hpar := par_eq (.L k) (ts.drop a)
  simp only [stepP] at hpar
  delta c116 oM oV kI kS kT kF
  by_cases hgt : 12 < k
  · have hd : decide (12 < ((k : Nat) : Int)) = true := by rw [decide_eq_true_eq]; omega
    rw [if_pos hgt] at hpar
    simp -dsimp -implicitDefEqProofs only [aw, slots0, V.copy, V.lend, eq_self, reduceIte, reduceCtorEq, Nat.reduceBEq, Nat.reduceLT, Nat.reduceEqDiff, hd]
    refine c_par H S ha (hU _ (box_old S.at_ _)) (fun e1 a2 hx g1 g2 g3 σ3 S3 hl3 => ?_) (fun c r b hx σ3 S3 hl3 => ?_)
    · rw [hx] at hpar
      rw [← hl3]
      simp -dsimp -implicitDefEqProofs only [aw, V.copy, V.cells, V.boxable, over, Nat.reduceLeDiff, eq_self, reduceIte, reduceCtorEq, Nat.reduceBEq, Nat.reduceLT, Nat.reduceEqDiff, Nat.reduceAdd, vex_eq]
      exact pq_ret S3 g2 hpar (by rw [vex_eq]; simp [rs116, resV, res1, aw, V.copy, V.lend, V.lend1, eq_self, reduceIte, Nat.reduceAdd])
    · rw [hx] at hpar
      rw [← hl3]
      simp -dsimp -implicitDefEqProofs only [aw, V.copy, eq_self, reduceIte, Nat.reduceBEq]
      exact pq_pan S3 hpar rfl
  have hd : decide (12 < ((k : Nat) : Int)) = false := by rw [decide_eq_false_iff_not]; omega
  have hwr : IntKind.i64.wrap (((k : Nat) : Int) + 1) = (k : Int) + 1 := wrap_i64 (by omega) (by omega)
  rw [if_neg hgt] at hpar
  simp -dsimp -implicitDefEqProofs only [aw, slots0, V.copy, V.lend, eq_self, reduceIte, reduceCtorEq, Nat.reduceBEq, Nat.reduceLT, Nat.reduceEqDiff, hd, hwr]
  refine c_par H S ha (hL (by omega) a (Nat.le_refl _) ha _ (box_old S.at_ _)) (fun e1 a1 hx g1 g2 g3 σ1 S1 hl1 => ?_) (fun c r b hx σ3 S3 hl3 => ?_)
  case refine_2 =>
    rw [hx, PR.bind] at hpar
    rw [← hl3]
    simp -dsimp -implicitDefEqProofs only [aw, eq_self, reduceIte, Nat.reduceBEq]
    exact pq_pan S3 hpar rfl
  rw [hx, PR.bind] at hpar
  have g3 := g3 rfl
  rw [← hl1]
  simp -dsimp -implicitDefEqProofs only [aw, V.copy, V.cells, V.boxable, over, Nat.reduceLeDiff, eq_self, reduceIte, reduceCtorEq, Nat.reduceBEq, Nat.reduceLT, Nat.reduceEqDiff, Nat.reduceAdd, vex_eq]
  refine awp_forK [0, 1, 4, 5] (R := fun (j : Nat) ρ σ' => ∃ (a1 : Nat) (e : Ex) (σ2 : List (List V)) (x : List (List V)), ρ = [(0, .ptr i 0), (1, .d (dint k)), (4, .ptr σ1.length 0), (5, .ptr (σ1.length + 1) 0)] ∧ σ' = σ2 ++ x ∧ x = [[.d (dint 0), .d (dint 0), .d (dstr ⟨#[]⟩), .nil], [.d (dint e.op), .d (dint e.num), .d (dstr e.name), .d (.sl (e.args.map dex))]] ∧ St σ i ts a1 σ2 ∧ σ2.length = σ1.length ∧ a1 ≤ ts.length ∧ a + 1 + j ≤ a1 ∧ par (.L k) (ts.drop a) = par (.Lp k e) (ts.drop a1)) (ts.length - a) ⟨a1, e1, σ1, _, rfl, rfl, rfl, S1, rfl, g2, by omega, hpar⟩ ?_ _
  rintro j ρ' σ' hj ⟨a2, e, σ2, x, rfl, rfl, hx2, S2, hl2, h1, h2, hp2⟩
  have hp3 := par_eq (.Lp k e) (ts.drop a2)
  rw [← hp2] at hp3
  simp only [stepP] at hp3
  subst hx2
  rw [← hl2]
  have hL1 := H.len
  have h1lt := S2.lt
  by_cases h9 : k = 9
  · have hd9 : decide (((k : Nat) : Int) = 9) = true := by rw [decide_eq_true_eq]; omega
    rw [if_pos h9, acc_sees] at hp3
    simp -dsimp -implicitDefEqProofs only [aw, V.copy, V.lend, eq_self, reduceIte, reduceCtorEq, Nat.reduceLT, Nat.reduceEqDiff, hd9]
    refine c_accept H (m := insideW) S2 h1 (fun hin ha3 σ3 S3 hl3 => ?_) (fun hin => ?_)
    · rw [hin, if_pos rfl] at hp3
      simp only at hp3
      have hN' := fun l => hN (a2 + 1) e (by omega) ha3 _ (box_old S3.at_ l)
      rw [vex_eq] at hN'
      rw [← hl3]
      simp -dsimp -implicitDefEqProofs only [aw, V.copy, V.lend, V.lend1, Nat.reduceLeDiff, cond_true, eq_self, reduceIte, reduceCtorEq, Nat.reduceBEq, Nat.reduceLT, Nat.reduceEqDiff, Nat.reduceAdd]
      refine c_par H S3 ha3 (hN' _) (fun e4 a4 hx4 k1 k2 k3 σ4 S4 hl4 => ?_) (fun c r b hx σ3 S3 hl3 => ?_)
      · rw [hx4, PR.bind] at hp3
        rw [← hl4]
        simp -dsimp -implicitDefEqProofs only [aw, V.copy, V.lend, V.cells, V.boxable, over, Nat.reduceLeDiff, eq_self, reduceIte, reduceCtorEq, Nat.reduceBEq, Nat.reduceLT, Nat.reduceEqDiff, Nat.reduceAdd, vex_eq]
        refine ⟨by omega, Nxt.to (σ4 ++ [[.d (dint 0), .d (dint 0), .d (dstr ⟨#[]⟩), .nil], [.d (dint e4.op), .d (dint e4.num), .d (dstr e4.name), .d (.sl (e4.args.map dex))]]) [] (by simp) (by simp) (boxesBelow_app S4.bb rfl) ?_ ⟨a4, e4, σ4, _, ?_, rfl, rfl, S4, by omega, k2, by omega, hp3⟩⟩
        · simp [slotsBelow, V.under]; omega
        · rw [hl4, hl3, hl2]
      · rw [hx, PR.bind] at hp3
        rw [← hl3]
        simp -dsimp -implicitDefEqProofs only [aw, V.copy, V.lend, eq_self, reduceIte, reduceCtorEq, Nat.reduceBEq]
        exact pq_pan S3 hp3 rfl
    rw [hin, if_neg (by decide)] at hp3
    simp only at hp3
    simp -dsimp -implicitDefEqProofs only [aw, V.copy, V.lend, cond_true, eq_self, reduceIte, reduceCtorEq, Nat.reduceBEq, Nat.reduceLT, Nat.reduceEqDiff]
    refine c_oper H (by omega) S2 h1 (fun o ex m n hop ha3 σ3 S3 hl3 => ?_) (fun hop => ?_)
    case refine_2 =>
      rw [hop] at hp3
      simp -dsimp -implicitDefEqProofs only [aw, V.copy, V.cells, V.boxable, over, Nat.reduceLeDiff, eq_self, reduceIte, reduceCtorEq, Nat.reduceBEq, Nat.reduceLT, Nat.reduceEqDiff, Nat.reduceAdd, zb]
      exact pq_ret S2 h1 hp3 (by rw [vex_eq]; simp [rs116, resV, res1, aw, V.copy, V.lend, V.lend1, eq_self, reduceIte, Nat.reduceAdd])
    rw [hop] at hp3
    simp only at hp3
    rw [← hl3]
    simp -dsimp -implicitDefEqProofs only [aw, V.copy, V.lend, V.cells, V.boxable, over, Nat.reduceLeDiff, eq_self, reduceIte, reduceCtorEq, Nat.reduceBEq, Nat.reduceLT, Nat.reduceEqDiff, Nat.reduceAdd, hwr]
    refine c_par H S3 ha3 (hL (by omega) _ (by omega) ha3 _ (box_old S3.at_ _)) (fun e4 a4 hx4 k1 k2 k3 σ4 S4 hl4 => ?_) (fun c r b hx σ4 S4 hl4 => ?_)
    case refine_2 =>
      rw [hx, PR.bind] at hp3
      rw [← hl4]
      simp -dsimp -implicitDefEqProofs only [aw, V.copy, eq_self, reduceIte, Nat.reduceBEq]
      exact pq_pan S4 hp3 rfl
    rw [hx4, PR.bind] at hp3
    have hle := S4.lt
    rw [← hl4]
    cases ex with
    | true =>
      have hNd := node_fun o [e4, e]
      rw [if_pos rfl] at hp3
      simp -dsimp -implicitDefEqProofs only [aw, V.copy, V.lend, V.cells, V.boxable, over, rowsOf, plains, V.plain, Nat.reduceLeDiff, eq_self, reduceIte, reduceCtorEq, Nat.reduceBEq, Nat.reduceLT, Nat.reduceEqDiff, Nat.reduceAdd, vex_eq]
      refine fun_ret (by simpa only [List.map_cons, List.map_nil, dex_eq] using hNd _) ?_
      simp -dsimp -implicitDefEqProofs only [aw, V.copy, V.cells, V.boxable, over, Nat.reduceLeDiff, eq_self, reduceIte, reduceCtorEq, Nat.reduceBEq, Nat.reduceLT, Nat.reduceEqDiff, Nat.reduceAdd, vex_eq, nodeE, mk_op, mk_num, mk_name, mk_args]
      refine ⟨by omega, Nxt.to (σ4 ++ [[.d (dint 0), .d (dint 0), .d (dstr ⟨#[]⟩), .nil], [.d (dint o), .d (dint 0), .d (dstr ⟨#[]⟩), .d (.sl ([e4, e].map dex))]]) [[.d (dstr m), .d (dint o), .d (dint n)], [.d (dint e.op), .d (dint e.num), .d (dstr e.name), .d (.sl (e.args.map dex))]] (by simp [dex_eq]) (by simp) (boxesBelow_app S4.bb rfl) ?_ ⟨a4, nodeE o [e4, e], σ4, _, ?_, rfl, rfl, S4, by omega, k2, by omega, hp3⟩⟩
      · simp [slotsBelow, V.under]; omega
      · rw [hl4, hl3, hl2]
    | false =>
      have hNd := node_fun o [e, e4]
      rw [if_neg (by decide)] at hp3
      simp -dsimp -implicitDefEqProofs only [aw, V.copy, V.lend, V.cells, V.boxable, over, rowsOf, plains, V.plain, Nat.reduceLeDiff, eq_self, reduceIte, reduceCtorEq, Nat.reduceBEq, Nat.reduceLT, Nat.reduceEqDiff, Nat.reduceAdd, vex_eq]
      refine fun_ret (by simpa only [List.map_cons, List.map_nil, dex_eq] using hNd _) ?_
      simp -dsimp -implicitDefEqProofs only [aw, V.copy, V.cells, V.boxable, over, Nat.reduceLeDiff, eq_self, reduceIte, reduceCtorEq, Nat.reduceBEq, Nat.reduceLT, Nat.reduceEqDiff, Nat.reduceAdd, vex_eq, nodeE, mk_op, mk_num, mk_name, mk_args]
      refine ⟨by omega, Nxt.to (σ4 ++ [[.d (dint 0), .d (dint 0), .d (dstr ⟨#[]⟩), .nil], [.d (dint o), .d (dint 0), .d (dstr ⟨#[]⟩), .d (.sl ([e, e4].map dex))]]) [[.d (dstr m), .d (dint o), .d (dint n)], [.d (dint e4.op), .d (dint e4.num), .d (dstr e4.name), .d (.sl (e4.args.map dex))]] (by simp [dex_eq]) (by simp) (boxesBelow_app S4.bb rfl) ?_ ⟨a4, nodeE o [e, e4], σ4, _, ?_, rfl, rfl, S4, by omega, k2, by omega, hp3⟩⟩
      · simp [slotsBelow, V.under]; omega
      · rw [hl4, hl3, hl2]
  · have hd9 : decide (((k : Nat) : Int) = 9) = false := by rw [decide_eq_false_iff_not]; omega
    rw [if_neg h9] at hp3
    simp only at hp3
    simp -dsimp -implicitDefEqProofs only [aw, V.copy, V.lend, eq_self, reduceIte, reduceCtorEq, Nat.reduceBEq, Nat.reduceLT, Nat.reduceEqDiff, hd9]
    refine c_oper H (by omega) S2 h1 (fun o ex m n hop ha3 σ3 S3 hl3 => ?_) (fun hop => ?_)
    case refine_2 =>
      rw [hop] at hp3
      simp -dsimp -implicitDefEqProofs only [aw, V.copy, V.cells, V.boxable, over, Nat.reduceLeDiff, eq_self, reduceIte, reduceCtorEq, Nat.reduceBEq, Nat.reduceLT, Nat.reduceEqDiff, Nat.reduceAdd, zb]
      exact pq_ret S2 h1 hp3 (by rw [vex_eq]; simp [rs116, resV, res1, aw, V.copy, V.lend, V.lend1, eq_self, reduceIte, Nat.reduceAdd])
    rw [hop] at hp3
    simp only at hp3
    rw [← hl3]
    simp -dsimp -implicitDefEqProofs only [aw, V.copy, V.lend, V.cells, V.boxable, over, Nat.reduceLeDiff, eq_self, reduceIte, reduceCtorEq, Nat.reduceBEq, Nat.reduceLT, Nat.reduceEqDiff, Nat.reduceAdd, hwr]
    refine c_par H S3 ha3 (hL (by omega) _ (by omega) ha3 _ (box_old S3.at_ _)) (fun e4 a4 hx4 k1 k2 k3 σ4 S4 hl4 => ?_) (fun c r b hx σ4 S4 hl4 => ?_)
    case refine_2 =>
      rw [hx, PR.bind] at hp3
      rw [← hl4]
      simp -dsimp -implicitDefEqProofs only [aw, V.copy, eq_self, reduceIte, Nat.reduceBEq]
      exact pq_pan S4 hp3 rfl
    rw [hx4, PR.bind] at hp3
    have hle := S4.lt
    rw [← hl4]
    cases ex with
    | true =>
      have hNd := node_fun o [e4, e]
      rw [if_pos rfl] at hp3
      simp -dsimp -implicitDefEqProofs only [aw, V.copy, V.lend, V.cells, V.boxable, over, rowsOf, plains, V.plain, Nat.reduceLeDiff, eq_self, reduceIte, reduceCtorEq, Nat.reduceBEq, Nat.reduceLT, Nat.reduceEqDiff, Nat.reduceAdd, vex_eq]
      refine fun_ret (by simpa only [List.map_cons, List.map_nil, dex_eq] using hNd _) ?_
      simp -dsimp -implicitDefEqProofs only [aw, V.copy, V.cells, V.boxable, over, Nat.reduceLeDiff, eq_self, reduceIte, reduceCtorEq, Nat.reduceBEq, Nat.reduceLT, Nat.reduceEqDiff, Nat.reduceAdd, vex_eq, nodeE, mk_op, mk_num, mk_name, mk_args]
      refine ⟨by omega, Nxt.to (σ4 ++ [[.d (dint 0), .d (dint 0), .d (dstr ⟨#[]⟩), .nil], [.d (dint o), .d (dint 0), .d (dstr ⟨#[]⟩), .d (.sl ([e4, e].map dex))]]) [[.d (dstr m), .d (dint o), .d (dint n)], [.d (dint e.op), .d (dint e.num), .d (dstr e.name), .d (.sl (e.args.map dex))]] (by simp [dex_eq]) (by simp) (boxesBelow_app S4.bb rfl) ?_ ⟨a4, nodeE o [e4, e], σ4, _, ?_, rfl, rfl, S4, by omega, k2, by omega, hp3⟩⟩
      · simp [slotsBelow, V.under]; omega
      · rw [hl4, hl3, hl2]
    | false =>
      have hNd := node_fun o [e, e4]
      rw [if_neg (by decide)] at hp3
      simp -dsimp -implicitDefEqProofs only [aw, V.copy, V.lend, V.cells, V.boxable, over, rowsOf, plains, V.plain, Nat.reduceLeDiff, eq_self, reduceIte, reduceCtorEq, Nat.reduceBEq, Nat.reduceLT, Nat.reduceEqDiff, Nat.reduceAdd, vex_eq]
      refine fun_ret (by simpa only [List.map_cons, List.map_nil, dex_eq] using hNd _) ?_
      simp -dsimp -implicitDefEqProofs only [aw, V.copy, V.cells, V.boxable, over, Nat.reduceLeDiff, eq_self, reduceIte, reduceCtorEq, Nat.reduceBEq, Nat.reduceLT, Nat.reduceEqDiff, Nat.reduceAdd, vex_eq, nodeE, mk_op, mk_num, mk_name, mk_args]
      refine ⟨by omega, Nxt.to (σ4 ++ [[.d (dint 0), .d (dint 0), .d (dstr ⟨#[]⟩), .nil], [.d (dint o), .d (dint 0), .d (dstr ⟨#[]⟩), .d (.sl ([e, e4].map dex))]]) [[.d (dstr m), .d (dint o), .d (dint n)], [.d (dint e4.op), .d (dint e4.num), .d (dstr e4.name), .d (.sl (e4.args.map dex))]] (by simp [dex_eq]) (by simp) (boxesBelow_app S4.bb rfl) ?_ ⟨a4, nodeE o [e, e4], σ4, _, ?_, rfl, rfl, S4, by omega, k2, by omega, hp3⟩⟩
      · simp [slotsBelow, V.under]; omega
      · rw [hl4, hl3, hl2]
end Go.Proofs.YteopfpebdalcoaaGreatDoor
