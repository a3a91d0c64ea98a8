/-
  The reader of the program's lexer: token.
-/
import Derived.Test.YteopfpebdalcoaaGreatDoorMark7
set_option linter.unusedVariables false
set_option linter.unusedSimpArgs false
set_option linter.unusedSectionVars false
namespace Go.Proofs.YteopfpebdalcoaaGreatDoor
open Go.RowKit
def TokQ (T : Int) (l : Bs) (i : Nat) (σ : List (List V)) (o : Out) (σ' : List (List V)) : Prop := match readL l with
  | .err e => o = .ret (.tup [tok0, .d (dint e)]) ∧ ∃ l', σ' = σ.set i (rdr T l')
  | .tok k n len => o = .ret (.tup [tokV k n (l.take len) (T - (l.count 10 : Nat)), .d (dint 0)]) ∧ σ' = σ.set i (rdr T (l.drop len))
theorem readL_mark (c : UInt8) (r : Bs) (h1 : lowB c.toNat = false) (h2 : digB c.toNat = false) : readL (c :: r) = if bestM (c :: r) = 0 then .err 5 else .tok 4 0 (bestM (c :: r)) := by
  simp only [readL, h1, h2, Bool.false_eq_true, if_false]
theorem lower_fun (c : Int) (σ : List (List V)) : Fun G 81 [.d (.lit (.int .i32 c))] σ (RetV (.d (.lit (.bool (lowB c)))) σ) :=
  fun_lit1 Tryz.func81 (by kernel_rfl) (by kernel_rfl) trivial fun pr w _ => (lower_any c w).mono fun e w' ⟨h1, h2⟩ => ⟨h1, h2 ▸ Ext.refl _⟩
theorem digit_fun (c : Int) (σ : List (List V)) : Fun G 83 [.d (.lit (.int .i32 c))] σ (RetV (.d (.lit (.bool (digB c)))) σ) :=
  fun_lit1 Tryz.func83 (by kernel_rfl) (by kernel_rfl) trivial fun pr w _ => (digit_any c w).mono fun e w' ⟨h1, h2⟩ => ⟨h1, h2 ▸ Ext.refl _⟩
theorem mark_fun' (n : Nat) (T : Int) (l : Bs) (hn : bestM l = n) (i : Nat) (hl : l.length ≤ 1000000) (h0 : 0 ≤ T) (h1 : T ≤ 1000000000) (σ : List (List V)) (hi : σ[i]? = some (rdr T l)) :
    Fun G 85 [.ptr i 0] σ fun o σ' => o = .ret (.tup (if n = 0 then [tok0, .d (dint 5)] else [tokV 4 0 (l.take n) (T - (l.count 10 : Nat)), .d (dint 0)])) ∧ σ' = σ.set i (rdr T (l.drop n)) := by
  have h := mark_fun T l i hl h0 h1 σ hi
  rw [hn] at h
  exact h
set_option maxHeartbeats 1000000 in
theorem token_fun (n : Nat) (T : Int) (l0 : Bs) (hn : bestM l0 = n) (c : UInt8) (r : Bs) (he : l0 = c :: r) (i : Nat) (hl : l0.length ≤ 1000000) (h0 : 0 ≤ T) (h1 : T ≤ 1000000000) (σ : List (List V)) (hi : σ[i]? = some (rdr T l0)) :
    Fun G 46 [.ptr i 0] σ (TokQ T l0 i σ) := by
  have hix : ixV (V.d (dstr (bs l0))) (V.d (.lit (.int .i64 0))) = some (vint .u8 c.toNat) := by rw [he]; exact ix_head c r
  have hlt : i < σ.length := (List.getElem?_eq_some_iff.1 hi).1
  refine fun_code Tryz.func46 k46 rfl fun hb hw => ?_
  delta c46 oM oV kI kS kT kF
  have hio := fun t => box_old hi t
  unfold rdr rd at hio
  simp -dsimp -implicitDefEqProofs only [aw, slots0, V.copy, V.lend, Nat.reduceLeDiff, eq_self, reduceIte, reduceCtorEq, Nat.reduceBEq, Nat.reduceLT, Nat.reduceEqDiff, Nat.reduceAdd, hio, hix]
  rw [wrap32 _ c.toNat_lt]
  refine fun_ret (lower_fun _ _) ?_
  have fin1 : ∀ (X : List V) (σ1 : List (List V)) (k n : Int) (tx : Bs) (ln e : Int) (B : List V), σ1.length = σ.length → σ1 = σ.set i X → boxesBelow σ1.length σ1 = true → TokQ T l0 i σ (.ret (.tup [tokV k n tx ln, .d (dint e)])) σ1 →
      fin σ1.length rs46 (TokQ T l0 i σ) .ret [(2, .ptr σ1.length 0), (3, .d (dint e))] (σ1 ++ [[.d (dint k), .d (dint n), .d (dstr (bs tx)), .d (dint ln)]]) := fun X σ1 k n tx ln e B g1 g2 g3 g4 =>
    fin_set (τ := σ1) g3 (v := .tup [tokV k n tx ln, .d (dint e)]) (by simp [rs46, resV, resL, res1, tokV, aw, V.copy, V.lend, V.lend1, eq_self, reduceIte, Nat.reduceEqDiff, Nat.reduceAdd]) rfl List.take_left g4
  cases hlow : lowB c.toNat with
  | true =>
    subst he
    simp -dsimp -implicitDefEqProofs only [aw, V.copy, V.lend, eq_self, reduceIte, reduceCtorEq, Nat.reduceBEq, Nat.reduceLT, Nat.reduceEqDiff]
    refine fun_set (name_fun T (c :: r) i hl h0 h1 _ (box_old hi _)) ?_
    rw [set_old hi]
    obtain ⟨σ1, hs1⟩ : ∃ x, x = σ.set i (rdr T ((c :: r).drop ((c :: r).takeWhile inn).length)) := ⟨_, rfl⟩
    have hl1 : σ1.length = σ.length := by rw [hs1, List.length_set]
    have hb1 : boxesBelow σ1.length σ1 = true := by rw [hl1, hs1]; exact below_set hb rfl
    rw [← hs1, ← hl1]
    have htk : (c :: r).take ((c :: r).takeWhile inn).length = (c :: r).takeWhile inn := List.prefix_iff_eq_take.1 (List.takeWhile_prefix _) |>.symm
    by_cases h16 : 16 < ((c :: r).takeWhile inn).length
    · rw [if_pos h16]
      simp -dsimp -implicitDefEqProofs only [aw, V.copy, V.lend, V.cells, V.boxable, over, Nat.reduceLeDiff, eq_self, reduceIte, reduceCtorEq, Nat.reduceBEq, Nat.reduceLT, Nat.reduceEqDiff, Nat.reduceAdd, tok0, tokV]
      refine fin1 _ σ1 0 0 [] 0 2 [] hl1 hs1 hb1 ?_
      unfold TokQ; simp only [readL, hlow, if_true, h16]
      exact ⟨rfl, _, hs1⟩
    · rw [if_neg h16]
      simp -dsimp -implicitDefEqProofs only [aw, V.copy, V.lend, V.cells, V.boxable, over, Nat.reduceLeDiff, eq_self, reduceIte, reduceCtorEq, Nat.reduceBEq, Nat.reduceLT, Nat.reduceEqDiff, Nat.reduceAdd, tokV]
      refine fin1 _ σ1 _ 0 ((c :: r).takeWhile inn) _ 0 [] hl1 hs1 hb1 ?_
      unfold TokQ; simp only [readL, hlow, if_true, h16, if_false]
      exact ⟨by rw [htk]; rfl, hs1⟩
  | false =>
    simp -dsimp -implicitDefEqProofs only [aw, V.copy, V.lend, eq_self, reduceIte, reduceCtorEq, Nat.reduceBEq, Nat.reduceLT, Nat.reduceEqDiff]
    refine fun_ret (digit_fun _ _) ?_
    cases hdig : digB c.toNat with
    | true =>
      subst he
      simp -dsimp -implicitDefEqProofs only [aw, V.copy, V.lend, eq_self, reduceIte, reduceCtorEq, Nat.reduceBEq, Nat.reduceLT, Nat.reduceEqDiff]
      refine fun_set (number_fun T c r i hl hdig h0 h1 _ (box_old hi _)) ?_
      rw [set_old hi]
      obtain ⟨σ1, hs1⟩ : ∃ x, x = σ.set i (rdr T (r.drop (r.takeWhile dig).length)) := ⟨_, rfl⟩
      have hl1 : σ1.length = σ.length := by rw [hs1, List.length_set]
      have hb1 : boxesBelow σ1.length σ1 = true := by rw [hl1, hs1]; exact below_set hb rfl
      rw [← hs1, ← hl1]
      have htc : (c :: r).takeWhile dig = c :: r.takeWhile dig := List.takeWhile_cons_of_pos hdig
      have hdr : (c :: r).drop ((c :: r).takeWhile dig).length = r.drop (r.takeWhile dig).length := by rw [htc]; rfl
      have hall : ((c :: r).takeWhile inn).all dig = ((c :: r).takeWhile inn).all fun x => digB x.toNat := rfl
      have hsp := dig_span (c :: r)
      rw [hdr, htc] at hsp
      by_cases hA : (1 < (c :: r.takeWhile dig).length ∧ c = 48) ∨ (r.drop (r.takeWhile dig).length).takeWhile inn ≠ []
      · rw [if_pos hA]
        simp -dsimp -implicitDefEqProofs only [aw, V.copy, V.lend, V.cells, V.boxable, over, Nat.reduceLeDiff, eq_self, reduceIte, reduceCtorEq, Nat.reduceBEq, Nat.reduceLT, Nat.reduceEqDiff, Nat.reduceAdd, tok0, tokV]
        refine fin1 _ σ1 0 0 [] 0 5 [] hl1 hs1 hb1 ?_
        have hcond : (((c :: r).takeWhile inn).all fun x => digB x.toNat) = false ∨ (1 < ((c :: r).takeWhile inn).length ∧ c = 48) := by
          rcases hsp with ⟨g1, g2, g3⟩ | ⟨g1, g2⟩
          · refine .inr ?_
            rw [← g2]
            exact hA.elim id (fun h => absurd g3 h)
          · exact .inl g1
        unfold TokQ; simp only [readL, hlow, hdig, if_true, Bool.false_eq_true, if_false, hcond]
        exact ⟨rfl, _, hs1⟩
      · rw [if_neg hA]
        have hsp1 : ((c :: r).takeWhile inn).all dig = true ∧ c :: r.takeWhile dig = (c :: r).takeWhile inn := by
          rcases hsp with ⟨g1, g2, g3⟩ | ⟨g1, g2⟩
          · exact ⟨g1, g2⟩
          · exact absurd (.inr g2) hA
        have hcond : ¬ ((((c :: r).takeWhile inn).all fun x => digB x.toNat) = false ∨ (1 < ((c :: r).takeWhile inn).length ∧ c = 48)) := by
          rintro (h | h)
          · rw [← hall, hsp1.1] at h; cases h
          · rw [← hsp1.2] at h; exact hA (.inl h)
        have hdr2 : r.drop (r.takeWhile dig).length = (c :: r).drop ((c :: r).takeWhile inn).length := by rw [← hsp1.2]; rfl
        have htk : (c :: r).take ((c :: r).takeWhile inn).length = (c :: r).takeWhile inn := List.prefix_iff_eq_take.1 (List.takeWhile_prefix _) |>.symm
        rw [hsp1.2]
        rw [hdr2] at hs1
        by_cases hB : 2147483647 < decN ((c :: r).takeWhile inn)
        · rw [if_pos hB]
          simp -dsimp -implicitDefEqProofs only [aw, V.copy, V.lend, V.cells, V.boxable, over, Nat.reduceLeDiff, eq_self, reduceIte, reduceCtorEq, Nat.reduceBEq, Nat.reduceLT, Nat.reduceEqDiff, Nat.reduceAdd, tok0, tokV]
          refine fin1 _ σ1 0 0 [] 0 3 [] hl1 hs1 hb1 ?_
          unfold TokQ; simp only [readL, hlow, hdig, if_true, Bool.false_eq_true, if_false, hcond, hB]
          exact ⟨rfl, _, hs1⟩
        · rw [if_neg hB]
          simp -dsimp -implicitDefEqProofs only [aw, V.copy, V.lend, V.cells, V.boxable, over, Nat.reduceLeDiff, eq_self, reduceIte, reduceCtorEq, Nat.reduceBEq, Nat.reduceLT, Nat.reduceEqDiff, Nat.reduceAdd, tokV]
          refine fin1 _ σ1 _ _ ((c :: r).takeWhile inn) _ 0 [] hl1 hs1 hb1 ?_
          unfold TokQ; simp only [readL, hlow, hdig, if_true, Bool.false_eq_true, if_false, hcond, hB]
          exact ⟨by rw [htk], hs1⟩
    | false =>
      simp -dsimp -implicitDefEqProofs only [aw, V.copy, V.lend, eq_self, reduceIte, reduceCtorEq, Nat.reduceBEq, Nat.reduceLT, Nat.reduceEqDiff]
      have hrd : readL l0 = if n = 0 then .err 5 else .tok 4 0 n := by rw [← hn, he]; exact readL_mark c r hlow hdig
      refine fun_set (mark_fun' n T l0 hn i hl h0 h1 _ (box_old hi _)) ?_
      rw [set_old hi]
      obtain ⟨σ1, hs1⟩ : ∃ x, x = σ.set i (rdr T (l0.drop n)) := ⟨_, rfl⟩
      have hl1 : σ1.length = σ.length := by rw [hs1, List.length_set]
      have hb1 : boxesBelow σ1.length σ1 = true := by rw [hl1, hs1]; exact below_set hb rfl
      rw [← hs1, ← hl1]
      by_cases hz : n = 0
      · rw [if_pos hz]
        rw [if_pos hz] at hrd
        simp -dsimp -implicitDefEqProofs only [aw, V.copy, V.cells, V.boxable, over, Nat.reduceLeDiff, eq_self, reduceIte, reduceCtorEq, Nat.reduceBEq, Nat.reduceLT, Nat.reduceEqDiff, Nat.reduceAdd, tok0, tokV]
        refine fin1 _ σ1 0 0 [] 0 5 [] hl1 hs1 hb1 ?_
        unfold TokQ; rw [hrd]
        exact ⟨rfl, _, hs1⟩
      · rw [if_neg hz]
        rw [if_neg hz] at hrd
        simp -dsimp -implicitDefEqProofs only [aw, V.copy, V.cells, V.boxable, over, Nat.reduceLeDiff, eq_self, reduceIte, reduceCtorEq, Nat.reduceBEq, Nat.reduceLT, Nat.reduceEqDiff, Nat.reduceAdd, tokV]
        refine fin1 _ σ1 4 0 (l0.take n) _ 0 [] hl1 hs1 hb1 ?_
        unfold TokQ; rw [hrd]
        exact ⟨rfl, hs1⟩
end Go.Proofs.YteopfpebdalcoaaGreatDoor
