/-
  The reference's reader of sources, in the plain world: blanks, marks, tokens.
-/
import Derived.Test.YteopfpebdalcoaaGreatDoorNum1
import Derived.Test.YteopfpebdalcoaaGreatDoorToks7
set_option linter.unusedVariables false
set_option linter.unusedSimpArgs false
set_option linter.unusedSectionVars false
namespace Go.Proofs.YteopfpebdalcoaaGreatDoor
open Go.RowKit
theorem r7blank_fun (l : Bs) (a : Nat) (ha : a ≤ l.length) (hl : l.length ≤ 1000000) (σ : List (List V)) : Fun G 24 [.d (dstr (bs l)), .d (dint a)] σ (RetV (.d (dint ((l.length - (skipL (l.drop a)).length : Nat) : Int))) σ) := by
  refine fun_code Tryz.func24 k24 rfl fun hb hw => ?_
  delta c24 oM oV kI kS kT kF
  simp -dsimp -implicitDefEqProofs only [aw, slots0, V.copy, eq_self, reduceIte, reduceCtorEq, Nat.reduceBEq, Nat.reduceLT, Nat.reduceEqDiff]
  refine awp_forK [0, 1] (R := fun (j : Nat) ρ σ' => ∃ b : Nat, b ≤ l.length ∧ a + j ≤ b ∧ skipL (l.drop b) = skipL (l.drop a) ∧ ρ = [(0, .d (dstr (bs l))), (1, vint .i64 (b : Nat))] ∧ σ' = σ) (l.length - a) ⟨a, ha, by omega, rfl, rfl, rfl⟩ ?_ _
  rintro j ρ' σ' hj ⟨b, hbl, hab, hsk, rfl, rfl⟩
  by_cases hlt : b < l.length
  · have hdb : l.drop b = l[b] :: l.drop (b + 1) := List.drop_eq_getElem_cons hlt
    have hlt' : (b : Int) < ((l.length : Nat) : Int) := by omega
    have hdl := List.length_drop (l := l) (i := b)
    have hbk : blankB l[b] = (l[b] == 32 || l[b] == 9 || l[b] == 10) := rfl
    have hnx : IntKind.i64.wrap ((b : Int) + 1) = ((b + 1 : Nat) : Int) := by rw [wrap_i64 (by omega) (by omega)]; rfl
    cases hbl2 : blankB l[b] with
    | true =>
      have hs1 : skipL (l.drop (b + 1)) = skipL (l.drop a) := by rw [← hsk, hdb, skipL_cons, if_pos hbl2]
      have next : a + j < a + (l.length - a) ∧ Nxt σ'.length (fun ρ σ' => ∃ b : Nat, b ≤ l.length ∧ a + (j + 1) ≤ b ∧ skipL (l.drop b) = skipL (l.drop a) ∧ ρ = [(0, V.d (dstr (bs l))), (1, vint .i64 (b : Nat))] ∧ σ' = σ') [(0, V.d (dstr (bs l))), (1, vint .i64 ((b + 1 : Nat) : Int))] σ' .mk := ⟨by omega, Nxt.same (Nat.le_refl _) hb rfl ⟨b + 1, by omega, by omega, hs1, rfl, rfl⟩⟩
      rw [hbk] at hbl2
      cases e1 : (l[b] == 32) with
      | true =>
        simp -dsimp -implicitDefEqProofs only [aw, V.copy, eq_self, reduceIte, reduceCtorEq, Nat.reduceBEq, Nat.reduceLT, Nat.reduceEqDiff, bs_size, decide_eq_true hlt', bs_list, List.getElem?_eq_getElem hlt, u8_32, e1, hnx]
        exact ⟨by omega, Nxt.same (Nat.le_refl _) hb rfl ⟨b + 1, by omega, by omega, hs1, rfl, rfl⟩⟩
      | false =>
        cases e2 : (l[b] == 9) with
        | true =>
          simp -dsimp -implicitDefEqProofs only [aw, V.copy, cond_false, eq_self, reduceIte, reduceCtorEq, Nat.reduceBEq, Nat.reduceLT, Nat.reduceEqDiff, bs_size, decide_eq_true hlt', bs_list, List.getElem?_eq_getElem hlt, u8_32, u8_9, e1, e2, hnx]
          exact ⟨by omega, Nxt.same (Nat.le_refl _) hb rfl ⟨b + 1, by omega, by omega, hs1, rfl, rfl⟩⟩
        | false =>
          have e3 : (l[b] == 10) = true := by rw [e1, e2] at hbl2; exact hbl2
          simp -dsimp -implicitDefEqProofs only [aw, V.copy, cond_false, eq_self, reduceIte, reduceCtorEq, Nat.reduceBEq, Nat.reduceLT, Nat.reduceEqDiff, bs_size, decide_eq_true hlt', bs_list, List.getElem?_eq_getElem hlt, u8_32, u8_9, u8_10, e1, e2, e3, hnx]
          exact ⟨by omega, Nxt.same (Nat.le_refl _) hb rfl ⟨b + 1, by omega, by omega, hs1, rfl, rfl⟩⟩
    | false =>
      have hbl3 := hbl2
      rw [hbk] at hbl3
      simp only [Bool.or_eq_false_iff] at hbl3
      obtain ⟨⟨e1, e2⟩, e3⟩ := hbl3
      simp -dsimp -implicitDefEqProofs only [aw, V.copy, V.lend, cond_false, eq_self, reduceIte, reduceCtorEq, Nat.reduceBEq, Nat.reduceLT, Nat.reduceEqDiff, bs_size, decide_eq_true hlt', bs_list, List.getElem?_eq_getElem hlt, u8_32, u8_9, u8_10, e1, e2, e3]
      refine fun_ret (r7starts_fun l [47, 47] b hbl hl (by decide) _) ?_
      cases hpre : ([47, 47] : Bs).isPrefixOf (l.drop b) with
      | true =>
        obtain ⟨r2, hr2⟩ := List.isPrefixOf_iff_prefix.1 hpre
        have hdw : (l.drop b).drop ((l.drop b).takeWhile (· != 10)).length = (l.drop b).dropWhile (· != 10) := drop_tw _ _
        have hs1 : skipL (l.drop (b + ((l.drop b).takeWhile (· != 10)).length)) = skipL (l.drop a) := by
          rw [← List.drop_drop, hdw, ← hsk, ← hr2, List.cons_append, skipL_cons 47, if_neg (by decide), if_pos ⟨rfl, rfl⟩]
        have hle := tw_len (q := (· != 10)) (l.drop b)
        have htp : 1 ≤ ((l.drop b).takeWhile (· != 10)).length := by rw [← hr2, List.cons_append, List.takeWhile_cons_of_pos (by decide)]; simp
        have he := tw_end (q := (· != 10)) (l.drop b)
        have ht := fun j => @tw_lt (· != 10) (l.drop b) j
        generalize ((l.drop b).takeWhile (· != 10)).length = K at *
        simp -dsimp -implicitDefEqProofs only [aw, V.copy, eq_self, reduceIte, reduceCtorEq, Nat.reduceBEq, Nat.reduceLT, Nat.reduceEqDiff]
        refine awp_forK [0, 1] (R := fun (i : Nat) ρ σ'' => ρ = [(0, .d (dstr (bs l))), (1, vint .i64 ((b + i : Nat) : Int))] ∧ σ'' = σ') K ⟨rfl, rfl⟩ ?_ _
        rintro i ρ' σ'' hi ⟨rfl, rfl⟩
        have w1 : IntKind.i64.wrap (((b + i : Nat) : Int) + 1) = ((b + (i + 1) : Nat) : Int) := by rw [wrap_i64 (by omega) (by omega)]; omega
        by_cases hik : i < K
        · obtain ⟨c, h1, h2⟩ := ht i hik
          rw [List.getElem?_drop] at h1
          have hx : b + i < l.length := by omega
          have hc10 : (c == 10) = false := by simpa using h2
          simp -dsimp -implicitDefEqProofs only [aw, V.copy, cond_true, eq_self, reduceIte, reduceCtorEq, Nat.reduceBEq, Nat.reduceLT, Nat.reduceEqDiff, bs_size, Int.ofNat_lt, hx, decide_true, bs_list, h1, u8_10, hc10, w1]
          exact ⟨hik, Nxt.same (Nat.le_refl _) hb rfl ⟨rfl, rfl⟩⟩
        · have hik2 : i = K := by omega
          subst hik2
          rcases he with he | ⟨c, h1, h2⟩
          · have hx : ¬ b + i < l.length := by omega
            simp -dsimp -implicitDefEqProofs only [aw, V.copy, eq_self, reduceIte, reduceCtorEq, Nat.reduceBEq, Nat.reduceLT, Nat.reduceEqDiff, bs_size, Int.ofNat_lt, hx, decide_false]
            exact ⟨by omega, Nxt.same (Nat.le_refl _) hb rfl ⟨b + i, by omega, by omega, hs1, rfl, rfl⟩⟩
          · rw [List.getElem?_drop] at h1
            have hx : b + i < l.length := (List.getElem?_eq_some_iff.1 h1).1
            have hc10 : (c == 10) = true := by simpa using h2
            simp -dsimp -implicitDefEqProofs only [aw, V.copy, cond_true, eq_self, reduceIte, reduceCtorEq, Nat.reduceBEq, Nat.reduceLT, Nat.reduceEqDiff, bs_size, Int.ofNat_lt, hx, decide_true, bs_list, h1, u8_10, hc10]
            exact ⟨by omega, Nxt.same (Nat.le_refl _) hb rfl ⟨b + i, by omega, by omega, hs1, rfl, rfl⟩⟩
      | false =>
        simp -dsimp -implicitDefEqProofs only [aw, V.copy, eq_self, reduceIte, reduceCtorEq, Nat.reduceBEq, Nat.reduceLT, Nat.reduceEqDiff]
        have hs : skipL (l.drop b) = l.drop b := by
          rw [hdb, skipL_cons, if_neg (by rw [hbl2]; decide), if_neg]
          rintro ⟨h1, h2⟩
          rw [hdb, h1] at hpre
          match hd2 : l.drop (b + 1), h2 with
          | d :: r3, h2 =>
            rw [hd2] at hpre
            simp only [List.head?_cons, Option.some.injEq] at h2
            subst h2
            simp at hpre
        rw [← hsk, hs, hdl, show l.length - (l.length - b) = b by omega]
        first | exact fin_ret hb rfl rfl List.take_length ⟨rfl, rfl⟩ | exact fin_ret hb rfl rfl List.take_left ⟨rfl, rfl⟩
  · have hbe : b = l.length := by omega
    subst hbe
    simp -dsimp -implicitDefEqProofs only [aw, V.copy, eq_self, reduceIte, reduceCtorEq, Nat.reduceBEq, Nat.reduceLT, Nat.reduceEqDiff, bs_size, Int.lt_irrefl, decide_false]
    rw [← hsk, List.drop_length, skipL_nil]
    first | exact fin_ret hb rfl rfl List.take_length ⟨rfl, rfl⟩ | exact fin_ret hb rfl rfl List.take_left ⟨rfl, rfl⟩
theorem r7longest_fun (n : Nat) (l : Bs) (a : Nat) (hn : bestM (l.drop a) = n) (ha : a ≤ l.length) (hl : l.length ≤ 1000000) (σ : List (List V)) : Fun G 55 [.d (dstr (bs l)), .d (dint a)] σ (RetV (.d (dstr (bs ((l.drop a).take n)))) σ) := by
  subst hn
  have hmk : markList.length = 36 := rfl
  refine fun_code Tryz.func55 k55 rfl fun hb hw => ?_
  delta c55 oM oV kI kS kT kF
  simp -dsimp -implicitDefEqProofs only [aw, slots0, V.copy, V.lend, eq_self, reduceIte, reduceCtorEq, Nat.reduceBEq, Nat.reduceLT, Nat.reduceEqDiff]
  refine fun_ret (r7marks_fun _) ?_
  simp -dsimp -implicitDefEqProofs only [aw, V.copy, eq_self, reduceIte, reduceCtorEq, Nat.reduceBEq, Nat.reduceLT, Nat.reduceEqDiff]
  generalize hrows : (markSs.map fun s => [dstr s]) = rows
  have hlen : rows.length = 36 := by rw [← hrows]; rfl
  have hd : dstrs markSs = .sl rows := by rw [← hrows]; rfl
  rw [hd]
  refine awp_forK [0, 1, 5, 6, 7] (R := fun (j : Nat) ρ σ' => ρ = [(0, .d (dstr (bs l))), (1, vint .i64 a), (5, .d (.sl rows)), (6, .d (dstr (bs ((l.drop a).take (bestF (markList.take j) 0 (l.drop a)))))), (7, vint .i64 j)] ∧ σ' = σ) 36 ⟨rfl, rfl⟩ ?_ _
  rintro j ρ' σ' hj ⟨rfl, rfl⟩
  by_cases hlt : j < 36
  · have hjm : j < markList.length := hlt
    have hrj : rows[j]? = some [dstr (bs markList[j])] := by rw [← hrows, List.getElem?_map, markSs, List.getElem?_map, List.getElem?_eq_getElem hjm]; rfl
    have hlt' : (j : Int) < 36 := by omega
    have htk : markList.take (j + 1) = markList.take j ++ [markList[j]] := by rw [List.take_add_one, List.getElem?_eq_getElem hjm]; rfl
    have hbs := bestF_snoc (l.drop a) (markList.take j) markList[j] 0
    have hbin := best_in (markList.take j) 0 (l.drop a)
    rw [← htk] at hbs
    have hml : markList[j].length ≤ 2 := (by decide : ∀ m, m ∈ markList → m.length ≤ 2) _ (List.getElem_mem hjm)
    generalize markList[j] = m at *
    generalize hbe : bestF (markList.take j) 0 (l.drop a) = best at *
    have hbl : ((l.drop a).take best).length = best := by
      rw [List.length_take]
      rcases hbin with h | ⟨m', h1, h2, h3⟩
      · omega
      · have := (List.isPrefixOf_iff_prefix.1 h2).length_le; omega
    simp -dsimp -implicitDefEqProofs only [aw, V.copy, V.lend, Nat.reduceLeDiff, eq_self, reduceIte, reduceCtorEq, Nat.reduceBEq, Nat.reduceLT, Nat.reduceEqDiff, hlen, Int.ofNat_lt, hlt, decide_true, hrj]
    refine fun_ret (r7starts_fun l m a ha hl (by omega) _) ?_
    cases hp : m.isPrefixOf (l.drop a) with
    | true =>
      have hpt : (l.drop a).take m.length = m := (List.prefix_iff_eq_take.1 (List.isPrefixOf_iff_prefix.1 hp)).symm
      by_cases hgt : best < m.length
      · have hgt' : (best : Int) < (m.length : Nat) := by omega
        simp -dsimp -implicitDefEqProofs only [aw, V.copy, Nat.reduceLeDiff, cond_true, eq_self, reduceIte, reduceCtorEq, Nat.reduceBEq, Nat.reduceLT, Nat.reduceEqDiff, hrj, bs_size, hbl, decide_eq_true hgt', wrap_nat hlt (show 36 ≤ 9223372036854775807 by decide)]
        refine ⟨hlt, Nxt.same (Nat.le_refl _) hb rfl ⟨?_, rfl⟩⟩
        rw [hbs, if_pos ⟨hgt, hp⟩, hpt]
      · have hgt' : ¬ (best : Int) < (m.length : Nat) := by omega
        simp -dsimp -implicitDefEqProofs only [aw, V.copy, Nat.reduceLeDiff, cond_true, eq_self, reduceIte, reduceCtorEq, Nat.reduceBEq, Nat.reduceLT, Nat.reduceEqDiff, hrj, bs_size, hbl, decide_eq_false hgt', wrap_nat hlt (show 36 ≤ 9223372036854775807 by decide)]
        refine ⟨hlt, Nxt.same (Nat.le_refl _) hb rfl ⟨?_, rfl⟩⟩
        rw [hbs, if_neg (fun h => hgt h.1)]
    | false =>
      simp -dsimp -implicitDefEqProofs only [aw, V.copy, eq_self, reduceIte, reduceCtorEq, Nat.reduceBEq, Nat.reduceLT, Nat.reduceEqDiff, wrap_nat hlt (show 36 ≤ 9223372036854775807 by decide)]
      refine ⟨hlt, Nxt.same (Nat.le_refl _) hb rfl ⟨?_, rfl⟩⟩
      rw [hbs, if_neg (fun h => by rw [hp] at h; cases h.2)]
  · have hlt' : ¬ (j : Int) < 36 := by omega
    have hbe : bestF (markList.take j) 0 (l.drop a) = bestM (l.drop a) := by rw [List.take_of_length_le (by rw [hmk]; omega)]; rfl
    rw [hbe]
    simp -dsimp -implicitDefEqProofs only [aw, V.copy, eq_self, reduceIte, reduceCtorEq, Nat.reduceBEq, Nat.reduceLT, Nat.reduceEqDiff, hlen, Int.ofNat_lt, hlt, decide_false]
    first | exact fin_ret hb rfl rfl List.take_length ⟨rfl, rfl⟩ | exact fin_ret hb rfl rfl List.take_left ⟨rfl, rfl⟩
end Go.Proofs.YteopfpebdalcoaaGreatDoor
