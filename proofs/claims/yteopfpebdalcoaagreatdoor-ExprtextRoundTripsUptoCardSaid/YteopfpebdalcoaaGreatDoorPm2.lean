/-
  The parser of expressions: marks that must stand, names, numbers.
-/
import Derived.Test.YteopfpebdalcoaaGreatDoorPm1
set_option linter.unusedVariables false
set_option linter.unusedSimpArgs false
set_option linter.unusedSectionVars false
namespace Go.Proofs.YteopfpebdalcoaaGreatDoor
open Go.RowKit
theorem fin_pan {σ σ' τ : List (List V)} {ρ : Slots} {rs : List RV} {Q : Out → List (List V) → Prop} {v : V} (hb : boxesBelow σ.length τ = true) (hσ : σ'.take σ.length = τ) (hv : V.under σ.length v = true) (hq : Q (.panic v) τ) : fin σ.length rs Q (.panic v) ρ σ' :=
  ⟨σ.length, Nat.le_refl _, by rw [hσ]; exact hb, hv, by rw [hσ]; exact hq⟩
theorem fin_nset {σ σ' τ : List (List V)} {ρ : Slots} {rs : List RV} {Q : Out → List (List V) → Prop} (hb : boxesBelow σ.length τ = true) {v : V} (h : resV σ' ρ rs = some v) (hv : V.under σ.length v = true) (hσ : σ'.take σ.length = τ) (hq : Q (.ret v) τ) : fin σ.length rs Q .normal ρ σ' :=
  ⟨ρ, σ', .refl _ _ _, v, h, σ.length, Nat.le_refl _, by rw [hσ]; exact hb, hv, by rw [hσ]; exact hq⟩
theorem retK_pan {K P : V → List (List V) → Prop} {v : V} {σ : List (List V)} : retK K P (.panic v) σ = P v σ := rfl
def failE (ts : List Tok) (a : Nat) : Int := if a < ts.length then 5 else 6
theorem pb_below {σ : List (List V)} (hb : boxesBelow σ.length σ = true) (i : Nat) (ts : List Tok) (a : Nat) : boxesBelow σ.length (σ.set i (pb ts a)) = true := below_set hb rfl
theorem take_set {σ : List (List V)} (i : Nat) (X : List V) : (σ.set i X).take σ.length = σ.set i X := List.take_of_length_le (by rw [List.length_set]; exact Nat.le_refl _)
theorem take_set_app {σ : List (List V)} (i : Nat) (X : List V) (l : List (List V)) : (σ.set i X ++ l).take σ.length = σ.set i X := by
  rw [List.take_append_of_le_length (by simp), take_set]
theorem expect_fun (m : ByteArray) (ts : List Tok) (a i : Nat) (hz : ∀ t, t ∈ ts → t.text.size ≤ 1000) (hn : ts.length ≤ 1000000) (ha : a ≤ ts.length) (σ : List (List V)) (hi : σ[i]? = some (pb ts a)) :
    Fun G 88 [.ptr i 0, .d (dstr m)] σ fun o σ' => if seesB m ts a = true then o = .ret (.tup []) ∧ σ' = σ.set i (pb ts (a + 1)) else o = .panic (faultV (failE ts a) a) ∧ σ' = σ := by
  refine fun_code Tryz.func88 k88 rfl fun hb hw => ?_
  delta c88 oM oV kI kS kT kF
  have hA := accept_fun m ts a i hz hn ha σ hi
  have hF := fail_fun ts a i ha σ hi
  simp -dsimp -implicitDefEqProofs only [aw, slots0, V.copy, V.lend, eq_self, reduceIte, reduceCtorEq, Nat.reduceLT, Nat.reduceEqDiff]
  refine fun_set hA ?_
  cases hs : seesB m ts a with
  | true =>
    simp -dsimp -implicitDefEqProofs only [aw, eq_self, reduceIte, reduceCtorEq, Nat.reduceBEq, Nat.reduceLT, Nat.reduceEqDiff, if_true]
    exact fin_nset (τ := σ.set i (pb ts (a + 1))) (pb_below hb i ts _) rfl rfl (take_set _ _) ⟨rfl, rfl⟩
  | false =>
    simp -dsimp -implicitDefEqProofs only [aw, V.copy, V.lend, eq_self, reduceIte, reduceCtorEq, Nat.reduceBEq, Nat.reduceLT, Nat.reduceEqDiff, if_false]
    refine fun_mono hF fun o σ' ⟨e1, e2⟩ => ?_
    rw [e1, e2]
    simp -dsimp -implicitDefEqProofs only [aw, reduceIte, reduceCtorEq, Nat.reduceLT, Nat.reduceEqDiff, retK_pan]
    exact fin_pan hb List.take_length rfl ⟨rfl, rfl⟩
theorem nameP_lt {ts : List Tok} {a : Nat} (h : a < ts.length) : nameP (ts.drop a) = if vTok ts[a] = true ∧ ts[a].kind = 1 then some (ts[a].text, ts.drop (a + 1)) else none := by
  rw [List.drop_eq_getElem_cons h]; rfl
theorem numP_lt {ts : List Tok} {a : Nat} (h : a < ts.length) : numP (ts.drop a) = if vTok ts[a] = true ∧ ts[a].kind = 3 then some (ts[a].num, ts.drop (a + 1)) else none := by
  rw [List.drop_eq_getElem_cons h]; rfl
theorem tok_flds (t : Tok) : tokA t = .agg [.d (dint t.kind), .d (dint t.num), .d (dstr t.text), .d (dint t.line)] := rfl
theorem name_fun9 (ts : List Tok) (a i : Nat) (hz : ∀ t, t ∈ ts → t.text.size ≤ 1000) (hn : ts.length ≤ 1000000) (ha : a ≤ ts.length) (σ : List (List V)) (hi : σ[i]? = some (pb ts a)) :
    Fun G 165 [.ptr i 0] σ fun o σ' => match nameP (ts.drop a) with
      | some (s, _) => o = .ret (.d (dstr s)) ∧ σ' = σ.set i (pb ts (a + 1))
      | none => o = .panic (faultV (failE ts a) a) ∧ σ' = σ := by
  have hlt := (List.getElem?_eq_some_iff.1 hi).1
  have hN := next_fun ts a i hz ha σ hi
  have hF := fun l => fail_fun ts a i ha (σ ++ l) (box_old hi l)
  have hbx : ∀ (X cs : List V), (σ.set i X ++ [cs])[σ.length]? = some cs := fun X cs => by rw [List.getElem?_append_right (by simp)]; simp
  have hio := fun t => box_old hi t
  have hso := fun l x => set_old hi l x
  unfold pb at hio
  have hw1 : IntKind.i64.wrap (((a : Nat) : Int) + 1) = ((a + 1 : Nat) : Int) := by rw [wrap_i64 (by omega) (by omega)]; omega
  refine fun_code Tryz.func165 k165 rfl fun hb hw => ?_
  delta c165 oM oV kI kS kT kF
  simp -dsimp -implicitDefEqProofs only [aw, slots0, V.copy, V.lend, eq_self, reduceIte, reduceCtorEq, Nat.reduceBEq, Nat.reduceLT]
  refine fun_ret hN ?_
  by_cases hla : a < ts.length
  · have hnv : nextV ts a = if vTok ts[a] = true then .tup [tokA ts[a], vbool true] else .tup [tok0, vbool false] := by unfold nextV; rw [List.getElem?_eq_getElem hla]
    rw [hnv, nameP_lt hla]
    generalize ts[a] = t
    by_cases hv : vTok t = true
    · rw [if_pos hv]
      by_cases hk : t.kind = 1
      · rw [if_pos ⟨hv, hk⟩]
        simp -dsimp -implicitDefEqProofs only [aw, V.copy, V.cells, V.boxable, over, Nat.reduceLeDiff, cond_false, eq_self, reduceIte, reduceCtorEq, Nat.reduceBEq, Nat.reduceLT, Nat.reduceEqDiff, Nat.reduceAdd, tok_flds, decide_eq_true hk, hio, hw1, hso, hbx]
        exact fin_set (τ := σ.set i (pb ts (a + 1))) (pb_below hb i ts _) rfl rfl (take_set_app _ _ _) ⟨rfl, rfl⟩
      · rw [if_neg (fun h => hk h.2)]
        simp -dsimp -implicitDefEqProofs only [aw, V.copy, V.lend, V.cells, V.boxable, over, Nat.reduceLeDiff, cond_false, eq_self, reduceIte, reduceCtorEq, Nat.reduceBEq, Nat.reduceLT, Nat.reduceEqDiff, Nat.reduceAdd, tok_flds, decide_eq_false hk]
        refine fun_mono (hF _) fun o σ' ⟨e1, e2⟩ => ?_
        rw [e1, e2]
        simp -dsimp -implicitDefEqProofs only [aw, V.copy, eq_self, reduceIte, reduceCtorEq, Nat.reduceBEq, Nat.reduceLT, Nat.reduceEqDiff, retK_pan]
        exact fin_pan hb List.take_left rfl ⟨rfl, rfl⟩
    · rw [if_neg hv, if_neg (fun h => hv h.1)]
      simp -dsimp -implicitDefEqProofs only [aw, V.copy, V.lend, V.cells, V.boxable, over, Nat.reduceLeDiff, eq_self, reduceIte, reduceCtorEq, Nat.reduceBEq, Nat.reduceLT, Nat.reduceEqDiff, Nat.reduceAdd, tok0, tokV]
      refine fun_mono (hF _) fun o σ' ⟨e1, e2⟩ => ?_
      rw [e1, e2]
      simp -dsimp -implicitDefEqProofs only [aw, V.copy, eq_self, reduceIte, reduceCtorEq, Nat.reduceBEq, Nat.reduceLT, Nat.reduceEqDiff, retK_pan]
      exact fin_pan hb List.take_left rfl ⟨rfl, rfl⟩
  · have hnv : nextV ts a = .tup [tok0, vbool false] := by unfold nextV; rw [List.getElem?_eq_none (by omega)]
    rw [hnv, List.drop_eq_nil_of_le (show ts.length ≤ a by omega)]
    simp only [nameP]
    simp -dsimp -implicitDefEqProofs only [aw, V.copy, V.lend, V.cells, V.boxable, over, Nat.reduceLeDiff, eq_self, reduceIte, reduceCtorEq, Nat.reduceBEq, Nat.reduceLT, Nat.reduceEqDiff, Nat.reduceAdd, tok0, tokV]
    refine fun_mono (hF _) fun o σ' ⟨e1, e2⟩ => ?_
    rw [e1, e2]
    simp -dsimp -implicitDefEqProofs only [aw, V.copy, eq_self, reduceIte, reduceCtorEq, Nat.reduceBEq, Nat.reduceLT, Nat.reduceEqDiff, retK_pan]
    exact fin_pan hb List.take_left rfl ⟨rfl, rfl⟩
theorem number_fun9 (ts : List Tok) (a i : Nat) (hz : ∀ t, t ∈ ts → t.text.size ≤ 1000) (hn : ts.length ≤ 1000000) (ha : a ≤ ts.length) (σ : List (List V)) (hi : σ[i]? = some (pb ts a)) :
    Fun G 164 [.ptr i 0] σ fun o σ' => match numP (ts.drop a) with
      | some (n, _) => if 65535 < n then o = .panic (faultV 3 a) ∧ σ' = σ else o = .ret (.d (dint n)) ∧ σ' = σ.set i (pb ts (a + 1))
      | none => o = .panic (faultV (failE ts a) a) ∧ σ' = σ := by
  have hlt := (List.getElem?_eq_some_iff.1 hi).1
  have hN := next_fun ts a i hz ha σ hi
  have hF := fun l => fail_fun ts a i ha (σ ++ l) (box_old hi l)
  have hbx : ∀ (X cs : List V), (σ.set i X ++ [cs])[σ.length]? = some cs := fun X cs => by rw [List.getElem?_append_right (by simp)]; simp
  have hio := fun t => box_old hi t
  have hso := fun l x => set_old hi l x
  unfold pb at hio
  have hw1 : IntKind.i64.wrap (((a : Nat) : Int) + 1) = ((a + 1 : Nat) : Int) := by rw [wrap_i64 (by omega) (by omega)]; omega
  refine fun_code Tryz.func164 k164 rfl fun hb hw => ?_
  delta c164 oM oV kI kS kT kF
  simp -dsimp -implicitDefEqProofs only [aw, slots0, V.copy, V.lend, eq_self, reduceIte, reduceCtorEq, Nat.reduceBEq, Nat.reduceLT]
  refine fun_ret hN ?_
  by_cases hla : a < ts.length
  · have hnv : nextV ts a = if vTok ts[a] = true then .tup [tokA ts[a], vbool true] else .tup [tok0, vbool false] := by unfold nextV; rw [List.getElem?_eq_getElem hla]
    rw [hnv, numP_lt hla]
    generalize ts[a] = t
    by_cases hv : vTok t = true
    · rw [if_pos hv]
      by_cases hk : t.kind = 3
      · rw [if_pos ⟨hv, hk⟩]
        simp only
        by_cases hbig : 65535 < t.num
        · simp -dsimp -implicitDefEqProofs only [aw, V.copy, V.cells, V.boxable, over, bldV, Nat.reduceLeDiff, cond_false, eq_self, reduceIte, reduceCtorEq, Nat.reduceBEq, Nat.reduceLT, Nat.reduceEqDiff, Nat.reduceAdd, tok_flds, decide_eq_true hk, hio, decide_eq_true hbig]
          exact fin_pan hb List.take_left rfl (by rw [if_pos hbig]; exact ⟨rfl, rfl⟩)
        · simp -dsimp -implicitDefEqProofs only [aw, V.copy, V.cells, V.boxable, over, Nat.reduceLeDiff, cond_false, eq_self, reduceIte, reduceCtorEq, Nat.reduceBEq, Nat.reduceLT, Nat.reduceEqDiff, Nat.reduceAdd, tok_flds, decide_eq_true hk, hio, decide_eq_false hbig, hw1, hso, hbx]
          exact fin_set (τ := σ.set i (pb ts (a + 1))) (pb_below hb i ts _) rfl rfl (take_set_app _ _ _) (by rw [if_neg hbig]; exact ⟨rfl, rfl⟩)
      · rw [if_neg (fun h => hk h.2)]
        simp -dsimp -implicitDefEqProofs only [aw, V.copy, V.lend, V.cells, V.boxable, over, Nat.reduceLeDiff, cond_false, eq_self, reduceIte, reduceCtorEq, Nat.reduceBEq, Nat.reduceLT, Nat.reduceEqDiff, Nat.reduceAdd, tok_flds, decide_eq_false hk]
        refine fun_mono (hF _) fun o σ' ⟨e1, e2⟩ => ?_
        rw [e1, e2]
        simp -dsimp -implicitDefEqProofs only [aw, eq_self, reduceIte, reduceCtorEq, Nat.reduceBEq, Nat.reduceLT, Nat.reduceEqDiff, retK_pan]
        exact fin_pan hb List.take_left rfl ⟨rfl, rfl⟩
    · rw [if_neg hv, if_neg (fun h => hv h.1)]
      simp -dsimp -implicitDefEqProofs only [aw, V.copy, V.lend, V.cells, V.boxable, over, Nat.reduceLeDiff, eq_self, reduceIte, reduceCtorEq, Nat.reduceBEq, Nat.reduceLT, Nat.reduceEqDiff, Nat.reduceAdd, tok0, tokV]
      refine fun_mono (hF _) fun o σ' ⟨e1, e2⟩ => ?_
      rw [e1, e2]
      simp -dsimp -implicitDefEqProofs only [aw, eq_self, reduceIte, reduceCtorEq, Nat.reduceBEq, Nat.reduceLT, Nat.reduceEqDiff, retK_pan]
      exact fin_pan hb List.take_left rfl ⟨rfl, rfl⟩
  · have hnv : nextV ts a = .tup [tok0, vbool false] := by unfold nextV; rw [List.getElem?_eq_none (by omega)]
    rw [hnv, List.drop_eq_nil_of_le (show ts.length ≤ a by omega)]
    simp only [numP]
    simp -dsimp -implicitDefEqProofs only [aw, V.copy, V.lend, V.cells, V.boxable, over, Nat.reduceLeDiff, eq_self, reduceIte, reduceCtorEq, Nat.reduceBEq, Nat.reduceLT, Nat.reduceEqDiff, Nat.reduceAdd, tok0, tokV]
    refine fun_mono (hF _) fun o σ' ⟨e1, e2⟩ => ?_
    rw [e1, e2]
    simp -dsimp -implicitDefEqProofs only [aw, eq_self, reduceIte, reduceCtorEq, Nat.reduceBEq, Nat.reduceLT, Nat.reduceEqDiff, retK_pan]
    exact fin_pan hb List.take_left rfl ⟨rfl, rfl⟩
end Go.Proofs.YteopfpebdalcoaaGreatDoor
