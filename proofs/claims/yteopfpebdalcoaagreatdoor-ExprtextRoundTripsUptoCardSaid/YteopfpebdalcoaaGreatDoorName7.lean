/-
  The reader of the program's lexer: name.
-/
import Derived.Test.YteopfpebdalcoaaGreatDoorTake7
set_option linter.unusedVariables false
set_option linter.unusedSimpArgs false
set_option linter.unusedSectionVars false
namespace Go.Proofs.YteopfpebdalcoaaGreatDoor
open Go.RowKit
def tokV (kind num : Int) (text : Bs) (line : Int) : V := .agg [.d (dint kind), .d (dint num), .d (dstr (bs text)), .d (dint line)]
def tok0 : V := tokV 0 0 [] 0
theorem fun_iskw (s : Bs) (σ : List (List V)) : Fun G 101 [.d (dstr (bs s))] σ (RetV (.d (.lit (.bool (inB (bs s) kwList)))) σ) :=
  fun_of1 Tryz.func101 (by kernel_rfl) (by kernel_rfl) trivial fun M bm pr w v hG hM h1 => by
    cases rep_lit h1
    exact (iskeyword_any (bs s) w (keys_of hG.1 hM)).mono fun e w' ⟨h1, h2⟩ => ⟨h1, h2 ▸ Ext.refl _⟩
theorem name_fun (T : Int) (l : Bs) (i : Nat) (hl : l.length ≤ 1000000) (h0 : 0 ≤ T) (h1 : T ≤ 1000000000) (σ : List (List V)) (hi : σ[i]? = some (rdr T l)) :
    Fun G 82 [.ptr i 0] σ fun o σ' => o = .ret (.tup (if 16 < (l.takeWhile inn).length then [tok0, .d (dint 2)] else [tokV (if inB (bs (l.takeWhile inn)) kwList = true then 2 else 1) 0 (l.takeWhile inn) (T - (l.count 10 : Nat)), .d (dint 0)])) ∧ σ' = σ.set i (rdr T (l.drop (l.takeWhile inn).length)) := by
  have hlt : i < σ.length := (List.getElem?_eq_some_iff.1 hi).1
  have htw : (l.takeWhile inn).length ≤ l.length := (List.takeWhile_prefix _).length_le
  have htk : l.take (l.takeWhile inn).length = l.takeWhile inn := List.prefix_iff_eq_take.1 (List.takeWhile_prefix _) |>.symm
  refine fun_code Tryz.func82 k82 rfl fun hb hw => ?_
  delta c82 oM oV kI kS kT kF
  have hio := fun t => box_old hi t
  unfold rdr rd at hio
  simp -dsimp -implicitDefEqProofs only [aw, slots0, V.copy, V.lend, V.cells, V.boxable, over, bldV, Nat.reduceLeDiff, eq_self, reduceIte, reduceCtorEq, Nat.reduceBEq, Nat.reduceLT, Nat.reduceEqDiff, Nat.reduceAdd, hio]
  refine fun_ret (span_fol l (by omega) _) ?_
  simp -dsimp -implicitDefEqProofs only [aw, V.lend, eq_self, reduceIte, reduceCtorEq, Nat.reduceLT, Nat.reduceEqDiff]
  refine fun_set (take_fun T l _ i htw hl h0 h1 _ (box_old hi _)) ?_
  rw [set_old hi, htk]
  obtain ⟨σ1, hs1⟩ : ∃ x, x = σ.set i (rdr T (l.drop (l.takeWhile inn).length)) := ⟨_, rfl⟩
  have hl1 : σ1.length = σ.length := by rw [hs1, List.length_set]
  have hb1 : boxesBelow σ1.length σ1 = true := by rw [hl1, hs1]; exact below_set hb rfl
  rw [← hs1, ← hl1]
  simp -dsimp -implicitDefEqProofs only [aw, V.copy, V.cells, V.boxable, over, Nat.reduceLeDiff, eq_self, reduceIte, reduceCtorEq, Nat.reduceBEq, Nat.reduceLT, Nat.reduceEqDiff, Nat.reduceAdd, bs_size]
  by_cases h16 : 16 < (l.takeWhile inn).length
  · have h16' : (16 : Int) < ((l.takeWhile inn).length : Nat) := by omega
    simp -dsimp -implicitDefEqProofs only [aw, V.copy, V.cells, V.boxable, over, bldV, Nat.reduceLeDiff, eq_self, reduceIte, Nat.reduceBEq, Nat.reduceLT, Nat.reduceEqDiff, Nat.reduceAdd, decide_eq_true h16']
    rw [if_pos h16]
    exact fin_set (τ := σ1) hb1 (v := .tup [tok0, .d (dint 2)]) (by simp [rs82, resV, resL, res1, tok0, tokV, bs_nil, aw, V.copy, V.lend, V.lend1, eq_self, reduceIte, Nat.reduceEqDiff, Nat.reduceAdd]) rfl List.take_left ⟨rfl, rfl⟩
  · have h16' : ¬ (16 : Int) < ((l.takeWhile inn).length : Nat) := by omega
    simp -dsimp -implicitDefEqProofs only [aw, V.copy, V.lend, Nat.reduceLeDiff, eq_self, reduceIte, Nat.reduceLT, Nat.reduceEqDiff, Nat.reduceAdd, decide_eq_false h16']
    rw [if_neg h16]
    refine fun_ret (fun_iskw _ _) ?_
    cases hkw : inB (bs (l.takeWhile inn)) kwList with
    | true =>
      simp -dsimp -implicitDefEqProofs only [aw, V.copy, V.cells, V.boxable, over, Nat.reduceLeDiff, eq_self, reduceIte, Nat.reduceBEq, Nat.reduceLT, Nat.reduceEqDiff, Nat.reduceAdd]
      exact fin_set (τ := σ1) hb1 (v := .tup [tokV 2 0 (l.takeWhile inn) (T - (l.count 10 : Nat)), .d (dint 0)]) (by simp [rs82, resV, resL, res1, tokV, aw, V.copy, V.lend, V.lend1, eq_self, reduceIte, Nat.reduceEqDiff, Nat.reduceAdd]) rfl List.take_left ⟨rfl, rfl⟩
    | false =>
      simp -dsimp -implicitDefEqProofs only [aw, V.copy, V.cells, V.boxable, over, Nat.reduceLeDiff, eq_self, reduceIte, Nat.reduceBEq, Nat.reduceLT, Nat.reduceEqDiff, Nat.reduceAdd]
      exact fin_set (τ := σ1) hb1 (v := .tup [tokV 1 0 (l.takeWhile inn) (T - (l.count 10 : Nat)), .d (dint 0)]) (by simp [rs82, resV, resL, res1, tokV, aw, V.copy, V.lend, V.lend1, eq_self, reduceIte, Nat.reduceEqDiff, Nat.reduceAdd]) rfl List.take_left ⟨rfl, rfl⟩
end Go.Proofs.YteopfpebdalcoaaGreatDoor
