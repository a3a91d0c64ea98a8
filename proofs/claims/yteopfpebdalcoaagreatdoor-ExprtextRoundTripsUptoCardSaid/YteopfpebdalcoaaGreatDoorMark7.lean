/-
  The reader of the program's lexer: mark.
-/
import Derived.Test.YteopfpebdalcoaaGreatDoorNum7
set_option linter.unusedVariables false
set_option linter.unusedSimpArgs false
set_option linter.unusedSectionVars false
namespace Go.Proofs.YteopfpebdalcoaaGreatDoor
open Go.RowKit
theorem bestF_snoc (l : Bs) : ∀ (ms : List Bs) (m : Bs) (b : Nat), bestF (ms ++ [m]) b l = if bestF ms b l < m.length ∧ m.isPrefixOf l = true then m.length else bestF ms b l
  | [], m, b => rfl
  | a :: ms, m, b => by simp only [List.cons_append, bestF]; exact bestF_snoc l ms m _
set_option maxHeartbeats 1000000 in
theorem mark_fun (T : Int) (l : Bs) (i : Nat) (hl : l.length ≤ 1000000) (h0 : 0 ≤ T) (h1 : T ≤ 1000000000) (σ : List (List V)) (hi : σ[i]? = some (rdr T l)) :
    Fun G 85 [.ptr i 0] σ fun o σ' => o = .ret (.tup (if bestM l = 0 then [tok0, .d (dint 5)] else [tokV 4 0 (l.take (bestM l)) (T - (l.count 10 : Nat)), .d (dint 0)])) ∧ σ' = σ.set i (rdr T (l.drop (bestM l))) := by
  have hli : i < σ.length := (List.getElem?_eq_some_iff.1 hi).1
  have hbm := (best_le l).1
  have hmk : markList.length = 36 := rfl
  refine fun_code Tryz.func85 k85 rfl fun hb hw => ?_
  delta c85 oM oV kI kS kT kF
  have hio := fun t => box_old hi t
  unfold rdr rd at hio
  have hg : ∀ ρ, ev G ρ (.g 0) = .row [.sl (markList.map fun s => [.lit (.string (bs s))])] 0 := fun _ => rfl
  simp -dsimp -implicitDefEqProofs only [aw, slots0, V.copy, Nat.reduceLeDiff, eq_self, reduceIte, reduceCtorEq, Nat.reduceBEq, Nat.reduceLT, Nat.reduceEqDiff, hg, hmk]
  generalize hrows : (markList.map fun s => [D.lit (Value.string (bs s))]) = rows
  have hlen : rows.length = 36 := by rw [← hrows]; rfl
  refine awp_for (R := fun (j : Nat) ρ σ' => ρ = [(0, .ptr i 0), (2, .ptr σ.length 0), (4, vint .i64 (bestF (markList.take j) 0 l : Nat)), (8, .d (.sl rows)), (9, vint .i64 36), (10, vint .i64 j)] ∧ σ' = σ ++ [[.d (dint 0), .d (dint 0), .d (dstr ⟨#[]⟩), .d (dint 0)]]) 36 ⟨rfl, rfl⟩ ?_ _
  rintro j ρ' σ' hj ⟨rfl, rfl⟩
  by_cases hlt : j < 36
  · have hjm : j < markList.length := hlt
    have hrj : rows[j]? = some [D.lit (Value.string (bs markList[j]))] := by rw [← hrows, List.getElem?_map, List.getElem?_eq_getElem hjm]; rfl
    have hlt' : (j : Int) < 36 := by omega
    have htk : markList.take (j + 1) = markList.take j ++ [markList[j]] := by rw [List.take_add_one, List.getElem?_eq_getElem hjm]; rfl
    have hbs := bestF_snoc l (markList.take j) markList[j] 0
    rw [← htk] at hbs
    generalize hm : markList[j] = m at *
    generalize hbe : bestF (markList.take j) 0 l = best at *
    have hml : m.length ≤ 2 := (by decide : ∀ m, m ∈ markList → m.length ≤ 2) m (hm ▸ List.getElem_mem hjm)
    have next : ∀ b : Nat, bestF (markList.take (j + 1)) 0 l = b → j < 36 ∧ Nxt σ.length (fun ρ σ' => ρ = [(0, V.ptr i 0), (2, V.ptr σ.length 0), (4, vint IntKind.i64 (bestF (List.take (j + 1) markList) 0 l : Nat)), (8, V.d (D.sl rows)), (9, vint IntKind.i64 36), (10, vint IntKind.i64 ((j + 1 : Nat) : Int))] ∧ σ' = σ ++ [[V.d (dint 0), V.d (dint 0), V.d (dstr { data := #[] }), V.d (dint 0)]]) [(0, .ptr i 0), (2, .ptr σ.length 0), (4, vint .i64 b), (8, .d (.sl rows)), (9, vint .i64 36), (10, vint .i64 ((j + 1 : Nat) : Int))] (σ ++ [[.d (dint 0), .d (dint 0), .d (dstr ⟨#[]⟩), .d (dint 0)]]) .mk := fun b h =>
      ⟨hlt, Nxt.same (by simp) (boxesBelow_app hb rfl) (by simp [slotsBelow, V.under]; omega) ⟨by rw [h], rfl⟩⟩
    simp -dsimp -implicitDefEqProofs only [aw, V.copy, Nat.reduceLeDiff, eq_self, reduceIte, reduceCtorEq, Nat.reduceBEq, Nat.reduceLT, Nat.reduceEqDiff, decide_eq_true hlt', hrj, bs_size]
    by_cases hgt : best < m.length
    · have hgt' : (best : Int) < (m.length : Nat) := by omega
      simp -dsimp -implicitDefEqProofs only [aw, V.copy, V.lend, Nat.reduceLeDiff, eq_self, reduceIte, reduceCtorEq, Nat.reduceLT, Nat.reduceEqDiff, Nat.reduceAdd, decide_eq_true hgt', hio]
      refine fun_ret (fun_hasprefix l m _) ?_
      cases hp : m.isPrefixOf l with
      | true =>
        simp -dsimp -implicitDefEqProofs only [aw, V.copy, cond_true, eq_self, reduceIte, reduceCtorEq, Nat.reduceBEq, Nat.reduceLT, Nat.reduceEqDiff, bs_size, wrap_nat hlt (by decide)]
        exact next _ (by rw [hbs, if_pos ⟨hgt, hp⟩])
      | false =>
        simp -dsimp -implicitDefEqProofs only [aw, V.copy, cond_true, eq_self, reduceIte, reduceCtorEq, Nat.reduceBEq, Nat.reduceLT, Nat.reduceEqDiff, wrap_nat hlt (by decide)]
        exact next _ (by rw [hbs, if_neg (fun h => by rw [hp] at h; cases h.2)])
    · have hgt' : ¬ (best : Int) < (m.length : Nat) := by omega
      simp -dsimp -implicitDefEqProofs only [aw, V.copy, eq_self, reduceIte, reduceCtorEq, Nat.reduceBEq, Nat.reduceLT, Nat.reduceEqDiff, decide_eq_false hgt', wrap_nat hlt (by decide)]
      exact next _ (by rw [hbs, if_neg (fun h => hgt h.1)])
  · have hlt' : ¬ (j : Int) < 36 := by omega
    simp -dsimp -implicitDefEqProofs only [aw, V.copy, eq_self, reduceIte, reduceCtorEq, Nat.reduceBEq, Nat.reduceLT, Nat.reduceEqDiff, decide_eq_false hlt']
    have hbe : bestF (markList.take j) 0 l = bestM l := by rw [List.take_of_length_le (by rw [hmk]; omega)]; rfl
    rw [hbe]
    by_cases hz : bestM l = 0
    · have hz' : ((bestM l : Nat) : Int) = 0 := by omega
      have hself : σ.set i (rdr T (l.drop (bestM l))) = σ := by
        rw [hz, List.drop_zero, ← (List.getElem?_eq_some_iff.1 hi).2]; exact List.set_getElem_self hli
      simp -dsimp -implicitDefEqProofs only [aw, V.copy, V.cells, V.boxable, over, bldV, Nat.reduceLeDiff, eq_self, reduceIte, reduceCtorEq, Nat.reduceBEq, Nat.reduceLT, Nat.reduceEqDiff, Nat.reduceAdd, decide_eq_true hz']
      rw [if_pos hz, hself]
      exact fin_set (τ := σ) hb (v := .tup [tok0, .d (dint 5)]) (by simp [rs85, resV, resL, res1, tok0, tokV, bs_nil, aw, V.copy, V.lend, V.lend1, eq_self, reduceIte, Nat.reduceEqDiff, Nat.reduceAdd]) rfl List.take_left ⟨rfl, rfl⟩
    · have hz' : ¬ ((bestM l : Nat) : Int) = 0 := by omega
      simp -dsimp -implicitDefEqProofs only [aw, V.copy, V.lend, V.cells, V.boxable, over, bldV, Nat.reduceLeDiff, eq_self, reduceIte, reduceCtorEq, Nat.reduceBEq, Nat.reduceLT, Nat.reduceEqDiff, Nat.reduceAdd, decide_eq_false hz', hio]
      refine fun_set (take_fun T l _ i hbm hl h0 h1 _ (box_old hi _)) ?_
      rw [set_old hi, if_neg hz]
      obtain ⟨σ1, hs1⟩ : ∃ x, x = σ.set i (rdr T (l.drop (bestM l))) := ⟨_, rfl⟩
      have hl1 : σ1.length = σ.length := by rw [hs1, List.length_set]
      have hb1 : boxesBelow σ1.length σ1 = true := by rw [hl1, hs1]; exact below_set hb rfl
      rw [← hs1, ← hl1]
      simp -dsimp -implicitDefEqProofs only [aw, V.copy, V.cells, V.boxable, over, Nat.reduceLeDiff, eq_self, reduceIte, reduceCtorEq, Nat.reduceBEq, Nat.reduceLT, Nat.reduceEqDiff, Nat.reduceAdd]
      exact fin_set (τ := σ1) hb1 (v := .tup [tokV 4 0 (l.take (bestM l)) (T - (l.count 10 : Nat)), .d (dint 0)]) (by simp [rs85, resV, resL, res1, tokV, aw, V.copy, V.lend, V.lend1, eq_self, reduceIte, Nat.reduceEqDiff, Nat.reduceAdd]) rfl List.take_left ⟨rfl, rfl⟩
end Go.Proofs.YteopfpebdalcoaaGreatDoor
