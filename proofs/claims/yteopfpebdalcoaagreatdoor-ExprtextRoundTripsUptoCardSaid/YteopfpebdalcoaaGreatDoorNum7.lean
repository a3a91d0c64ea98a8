/-
  The reader of the program's lexer: number.
-/
import Derived.Test.YteopfpebdalcoaaGreatDoorName7
set_option linter.unusedVariables false
set_option linter.unusedSimpArgs false
set_option linter.unusedSectionVars false
namespace Go.Proofs.YteopfpebdalcoaaGreatDoor
open Go.RowKit
set_option maxHeartbeats 1000000 in
theorem number_fun (T : Int) (c : UInt8) (r : Bs) (i : Nat) (hl : (c :: r).length ≤ 1000000) (hc : dig c = true) (h0 : 0 ≤ T) (h1 : T ≤ 1000000000) (σ : List (List V)) (hi : σ[i]? = some (rdr T (c :: r))) :
    Fun G 84 [.ptr i 0] σ fun o σ' => o = .ret (.tup (if (1 < (c :: r.takeWhile dig).length ∧ c = 48) ∨ (r.drop (r.takeWhile dig).length).takeWhile inn ≠ [] then [tok0, .d (dint 5)] else if 2147483647 < decN (c :: r.takeWhile dig) then [tok0, .d (dint 3)] else [tokV 3 (decN (c :: r.takeWhile dig)) (c :: r.takeWhile dig) (T - ((c :: r).count 10 : Nat)), .d (dint 0)])) ∧ σ' = σ.set i (rdr T (r.drop (r.takeWhile dig).length)) := by
  have hlt : i < σ.length := (List.getElem?_eq_some_iff.1 hi).1
  have htc : (c :: r).takeWhile dig = c :: r.takeWhile dig := List.takeWhile_cons_of_pos hc
  have htw : ((c :: r).takeWhile dig).length ≤ (c :: r).length := (List.takeWhile_prefix _).length_le
  have htk : (c :: r).take ((c :: r).takeWhile dig).length = (c :: r).takeWhile dig := List.prefix_iff_eq_take.1 (List.takeWhile_prefix _) |>.symm
  have hdr : (c :: r).drop ((c :: r).takeWhile dig).length = r.drop (r.takeWhile dig).length := by rw [htc]; rfl
  have hds : ∀ x, x ∈ c :: r.takeWhile dig → dig x = true := fun x hx => by rw [← htc] at hx; exact List.all_eq_true.1 (List.all_takeWhile (l := c :: r) (p := dig)) x hx
  refine fun_code Tryz.func84 k84 rfl fun hb hw => ?_
  delta c84 oM oV kI kS kT kF
  have hio := fun t => box_old hi t
  unfold rdr rd at hio
  simp -dsimp -implicitDefEqProofs only [aw, slots0, V.copy, V.lend, V.cells, V.boxable, over, bldV, Nat.reduceLeDiff, eq_self, ne_eq, reduceIte, reduceCtorEq, Nat.reduceBEq, Nat.reduceLT, Nat.reduceEqDiff, Nat.reduceAdd, hio]
  refine fun_ret (span_dig (c :: r) (by omega) _) ?_
  simp -dsimp -implicitDefEqProofs only [aw, V.lend, eq_self, reduceIte, reduceCtorEq, Nat.reduceLT, Nat.reduceEqDiff]
  refine fun_set (take_fun T (c :: r) _ i htw hl h0 h1 _ (box_old hi _)) ?_
  rw [set_old hi, htk, hdr, htc]
  rw [htc] at htw
  generalize htx : r.takeWhile dig = tx at *
  generalize hrs : r.drop tx.length = rs at *
  obtain ⟨σ1, hs1⟩ : ∃ x, x = σ.set i (rdr T rs) := ⟨_, rfl⟩
  have hl1 : σ1.length = σ.length := by rw [hs1, List.length_set]
  have hb1 : boxesBelow σ1.length σ1 = true := by rw [hl1, hs1]; exact below_set hb rfl
  have hi1 : σ1[i]? = some (rdr T rs) := by rw [hs1]; simp [hlt]
  have hio1 := fun t => box_old hi1 t
  unfold rdr rd at hio1
  rw [← hs1, ← hl1]
  have hrl : rs.length ≤ 1000000 := by rw [← hrs, List.length_drop]; simp only [List.length_cons] at hl; omega
  simp -dsimp -implicitDefEqProofs only [aw, V.copy, V.cells, V.boxable, over, Nat.reduceLeDiff, eq_self, ne_eq, reduceIte, reduceCtorEq, Nat.reduceBEq, Nat.reduceLT, Nat.reduceEqDiff, Nat.reduceAdd, bs_size]
  have e48 : decide ((c.toNat : Int) = 48) = decide (c = 48) := by
    rw [decide_eq_decide]
    exact ⟨fun h => UInt8.toNat_inj.1 (by show c.toNat = 48; omega), fun h => by rw [h]; rfl⟩
  have hy : ((tx.length : Nat) + 1 : Nat) = (c :: tx).length := rfl
  by_cases hx : 1 < (c :: tx).length ∧ c = 48
  · obtain ⟨ha, hc48⟩ := hx
    have ha' : (1 : Int) < ((tx.length + 1 : Nat) : Int) := by simp only [List.length_cons] at ha; omega
    simp -dsimp -implicitDefEqProofs only [aw, V.copy, V.cells, V.boxable, over, bldV, Nat.reduceLeDiff, cond_true, eq_self, ne_eq, reduceIte, reduceCtorEq, Nat.reduceBEq, Nat.reduceLT, Nat.reduceEqDiff, Nat.reduceAdd, decide_eq_true ha', ix_head, e48, decide_eq_true hc48]
    rw [if_pos (.inl ⟨ha, hc48⟩)]
    exact fin_set (τ := σ1) hb1 (v := .tup [tok0, .d (dint 5)]) (by simp [rs84, resV, resL, res1, tok0, tokV, bs_nil, aw, V.copy, V.lend, V.lend1, eq_self, reduceIte, Nat.reduceEqDiff, Nat.reduceAdd]) rfl List.take_left ⟨rfl, rfl⟩
  · by_cases ha : (1 : Int) < ((tx.length + 1 : Nat) : Int)
    rotate_left
    · simp -dsimp -implicitDefEqProofs only [aw, V.copy, V.lend, Nat.reduceLeDiff, eq_self, reduceIte, reduceCtorEq, Nat.reduceLT, Nat.reduceEqDiff, Nat.reduceAdd, decide_eq_false ha, hio1]
      refine fun_ret (span_fol rs (by omega) _) ?_
      by_cases hsp : rs.takeWhile inn = []
      · rw [if_neg (fun h => h.elim hx (fun h => h hsp)), hsp]
        simp -dsimp -implicitDefEqProofs only [aw, V.copy, V.lend, Nat.reduceLeDiff, cond_false, eq_self, reduceIte, reduceCtorEq, Nat.reduceBEq, Nat.reduceLT, Nat.reduceEqDiff, Nat.reduceAdd, Int.cast_ofNat_Int, Int.lt_irrefl, decide_false]
        have hpd := parse_digits (l := c :: tx) (by simp) hds
        by_cases hbig : decN (c :: tx) ≤ 9223372036854775807
        · rw [if_pos hbig] at hpd
          refine fun_ret (fun_parse_ok (c :: tx) _ (by omega) hpd (fits_nat hbig) _) ?_
          by_cases hmx : 2147483647 < decN (c :: tx)
          · have hmx' : (2147483647 : Int) < ((decN (c :: tx) : Nat) : Int) := by omega
            simp -dsimp -implicitDefEqProofs only [aw, V.copy, V.cells, V.boxable, over, bldV, Nat.reduceLeDiff, cond_false, eq_self, reduceIte, Nat.reduceBEq, Nat.reduceLT, Nat.reduceEqDiff, Nat.reduceAdd, decide_eq_true hmx']
            rw [if_pos hmx]
            exact fin_set (τ := σ1) hb1 (v := .tup [tok0, .d (dint 3)]) (by simp [rs84, resV, resL, res1, tok0, tokV, bs_nil, aw, V.copy, V.lend, V.lend1, eq_self, reduceIte, Nat.reduceEqDiff, Nat.reduceAdd]) rfl List.take_left ⟨rfl, rfl⟩
          · have hmx' : ¬ (2147483647 : Int) < ((decN (c :: tx) : Nat) : Int) := by omega
            simp -dsimp -implicitDefEqProofs only [aw, V.copy, V.cells, V.boxable, over, Nat.reduceLeDiff, cond_false, eq_self, reduceIte, Nat.reduceBEq, Nat.reduceLT, Nat.reduceEqDiff, Nat.reduceAdd, decide_eq_false hmx']
            rw [if_neg hmx]
            exact fin_set (τ := σ1) hb1 (v := .tup [tokV 3 (decN (c :: tx)) (c :: tx) (T - ((c :: r).count 10 : Nat)), .d (dint 0)]) (by simp [rs84, resV, resL, res1, tokV, aw, V.copy, V.lend, V.lend1, eq_self, reduceIte, Nat.reduceEqDiff, Nat.reduceAdd]) rfl List.take_left ⟨rfl, rfl⟩
        · rw [if_neg hbig] at hpd
          refine fun_ret (fun_parse_range (c :: tx) (by omega) hpd _) ?_
          rw [if_pos (show 2147483647 < decN (c :: tx) by omega)]
          simp -dsimp -implicitDefEqProofs only [aw, V.copy, V.cells, V.boxable, over, bldV, Nat.reduceLeDiff, eq_self, reduceIte, Nat.reduceBEq, Nat.reduceLT, Nat.reduceEqDiff, Nat.reduceAdd]
          exact fin_set (τ := σ1) hb1 (v := .tup [tok0, .d (dint 3)]) (by simp [rs84, resV, resL, res1, tok0, tokV, bs_nil, aw, V.copy, V.lend, V.lend1, eq_self, reduceIte, Nat.reduceEqDiff, Nat.reduceAdd]) rfl List.take_left ⟨rfl, rfl⟩
      · rw [if_pos (.inr hsp)]
        have hsl : (0 : Int) < ((rs.takeWhile inn).length : Nat) := by have := List.length_pos_iff.2 hsp; omega
        simp -dsimp -implicitDefEqProofs only [aw, V.copy, V.cells, V.boxable, over, bldV, Nat.reduceLeDiff, cond_false, eq_self, reduceIte, reduceCtorEq, Nat.reduceBEq, Nat.reduceLT, Nat.reduceEqDiff, Nat.reduceAdd, decide_eq_true hsl]
        exact fin_set (τ := σ1) hb1 (v := .tup [tok0, .d (dint 5)]) (by simp [rs84, resV, resL, res1, tok0, tokV, bs_nil, aw, V.copy, V.lend, V.lend1, eq_self, reduceIte, Nat.reduceEqDiff, Nat.reduceAdd]) rfl List.take_left ⟨rfl, rfl⟩
    · have hc48 : ¬ c = 48 := fun h => hx ⟨by simp only [List.length_cons]; omega, h⟩
      simp -dsimp -implicitDefEqProofs only [aw, V.copy, V.lend, Nat.reduceLeDiff, cond_true, eq_self, reduceIte, reduceCtorEq, Nat.reduceLT, Nat.reduceEqDiff, Nat.reduceAdd, decide_eq_true ha, ix_head, e48, decide_eq_false hc48, hio1]
      refine fun_ret (span_fol rs (by omega) _) ?_
      by_cases hsp : rs.takeWhile inn = []
      · rw [if_neg (fun h => h.elim hx (fun h => h hsp)), hsp]
        simp -dsimp -implicitDefEqProofs only [aw, V.copy, V.lend, Nat.reduceLeDiff, cond_false, eq_self, reduceIte, reduceCtorEq, Nat.reduceBEq, Nat.reduceLT, Nat.reduceEqDiff, Nat.reduceAdd, Int.cast_ofNat_Int, Int.lt_irrefl, decide_false]
        have hpd := parse_digits (l := c :: tx) (by simp) hds
        by_cases hbig : decN (c :: tx) ≤ 9223372036854775807
        · rw [if_pos hbig] at hpd
          refine fun_ret (fun_parse_ok (c :: tx) _ (by omega) hpd (fits_nat hbig) _) ?_
          by_cases hmx : 2147483647 < decN (c :: tx)
          · have hmx' : (2147483647 : Int) < ((decN (c :: tx) : Nat) : Int) := by omega
            simp -dsimp -implicitDefEqProofs only [aw, V.copy, V.cells, V.boxable, over, bldV, Nat.reduceLeDiff, cond_false, eq_self, reduceIte, Nat.reduceBEq, Nat.reduceLT, Nat.reduceEqDiff, Nat.reduceAdd, decide_eq_true hmx']
            rw [if_pos hmx]
            exact fin_set (τ := σ1) hb1 (v := .tup [tok0, .d (dint 3)]) (by simp [rs84, resV, resL, res1, tok0, tokV, bs_nil, aw, V.copy, V.lend, V.lend1, eq_self, reduceIte, Nat.reduceEqDiff, Nat.reduceAdd]) rfl List.take_left ⟨rfl, rfl⟩
          · have hmx' : ¬ (2147483647 : Int) < ((decN (c :: tx) : Nat) : Int) := by omega
            simp -dsimp -implicitDefEqProofs only [aw, V.copy, V.cells, V.boxable, over, Nat.reduceLeDiff, cond_false, eq_self, reduceIte, Nat.reduceBEq, Nat.reduceLT, Nat.reduceEqDiff, Nat.reduceAdd, decide_eq_false hmx']
            rw [if_neg hmx]
            exact fin_set (τ := σ1) hb1 (v := .tup [tokV 3 (decN (c :: tx)) (c :: tx) (T - ((c :: r).count 10 : Nat)), .d (dint 0)]) (by simp [rs84, resV, resL, res1, tokV, aw, V.copy, V.lend, V.lend1, eq_self, reduceIte, Nat.reduceEqDiff, Nat.reduceAdd]) rfl List.take_left ⟨rfl, rfl⟩
        · rw [if_neg hbig] at hpd
          refine fun_ret (fun_parse_range (c :: tx) (by omega) hpd _) ?_
          rw [if_pos (show 2147483647 < decN (c :: tx) by omega)]
          simp -dsimp -implicitDefEqProofs only [aw, V.copy, V.cells, V.boxable, over, bldV, Nat.reduceLeDiff, eq_self, reduceIte, Nat.reduceBEq, Nat.reduceLT, Nat.reduceEqDiff, Nat.reduceAdd]
          exact fin_set (τ := σ1) hb1 (v := .tup [tok0, .d (dint 3)]) (by simp [rs84, resV, resL, res1, tok0, tokV, bs_nil, aw, V.copy, V.lend, V.lend1, eq_self, reduceIte, Nat.reduceEqDiff, Nat.reduceAdd]) rfl List.take_left ⟨rfl, rfl⟩
      · rw [if_pos (.inr hsp)]
        have hsl : (0 : Int) < ((rs.takeWhile inn).length : Nat) := by have := List.length_pos_iff.2 hsp; omega
        simp -dsimp -implicitDefEqProofs only [aw, V.copy, V.cells, V.boxable, over, bldV, Nat.reduceLeDiff, cond_false, eq_self, reduceIte, reduceCtorEq, Nat.reduceBEq, Nat.reduceLT, Nat.reduceEqDiff, Nat.reduceAdd, decide_eq_true hsl]
        exact fin_set (τ := σ1) hb1 (v := .tup [tok0, .d (dint 5)]) (by simp [rs84, resV, resL, res1, tok0, tokV, bs_nil, aw, V.copy, V.lend, V.lend1, eq_self, reduceIte, Nat.reduceEqDiff, Nat.reduceAdd]) rfl List.take_left ⟨rfl, rfl⟩
end Go.Proofs.YteopfpebdalcoaaGreatDoor
