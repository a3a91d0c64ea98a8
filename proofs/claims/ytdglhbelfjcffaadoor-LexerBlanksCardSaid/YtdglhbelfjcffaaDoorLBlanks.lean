/-
  The law LexerBlanks: its walk.
-/
import Derived.Test.YtdglhbelfjcffaaDoorAw7
set_option linter.unusedVariables false
set_option linter.unusedSimpArgs false
namespace Go.Proofs.YtdglhbelfjcffaaDoor
open Go.RowKit

/-- The number of the gap behind token i. -/
def gapN (ms : List Int) (i : Nat) : Nat := (ms.getD i (i : Int) % 5).toNat
def prs (ms : List Int) : Nat → List Tok → List (Tok × Bs)
  | _, [] => []
  | i, t :: r => (t, gapS (gapN ms i)) :: prs ms (i + 1) r
theorem prs_len (ms : List Int) : ∀ (i : Nat) (l : List Tok), (prs ms i l).length = l.length
  | _, [] => rfl
  | i, t :: r => by simp [prs, prs_len ms (i + 1) r]
theorem prs_get (ms : List Int) : ∀ (l : List Tok) (i j : Nat), (prs ms i l)[j]? = l[j]?.map fun t => (t, gapS (gapN ms (i + j)))
  | [], i, j => by simp [prs]
  | t :: r, i, 0 => rfl
  | t :: r, i, j + 1 => by
    simp only [prs, List.getElem?_cons_succ]
    rw [prs_get ms r (i + 1) j, show i + 1 + j = i + (j + 1) by omega]
theorem prs_texts (ms : List Int) : ∀ (i : Nat) (l : List Tok), (prs ms i l).map (fun p => p.1.text) = l.map Tok.text
  | _, [] => rfl
  | i, t :: r => by simp [prs, prs_texts ms (i + 1) r]
theorem prs_mem (ms : List Int) : ∀ (i : Nat) (l : List Tok) (p : Tok × Bs), p ∈ prs ms i l → p.1 ∈ l ∧ ∃ k, p.2 = gapS k
  | _, [], p, h => by cases h
  | i, t :: r, p, h => by
    simp only [prs, List.mem_cons] at h
    rcases h with rfl | h
    · exact ⟨by simp, _, rfl⟩
    · obtain ⟨h1, h2⟩ := prs_mem ms (i + 1) r p h; exact ⟨by simp [h1], h2⟩
theorem gapped_snoc : ∀ (l : List (Tok × Bs)) (t : Tok) (g : Bs), gapped (l ++ [(t, g)]) = gapped l ++ t.text.data.toList ++ g
  | [], t, g => by simp [gapped]
  | (u, h) :: r, t, g => by simp [gapped, gapped_snoc r t g]
theorem gapS_len (k : Nat) : (gapS k).length ≤ 12 := by
  unfold gapS
  repeat' split
  all_goals decide
theorem gapped_len (n : Nat) : ∀ (l : List (Tok × Bs)), (∀ p, p ∈ l → p.1.text.size ≤ n ∧ p.2.length ≤ 12) → (gapped l).length ≤ (n + 12) * l.length
  | [], _ => by simp [gapped]
  | (t, g) :: r, h => by
    have h1 := h (t, g) (by simp)
    have h2 := gapped_len n r fun p hp => h p (by simp [hp])
    rw [Lib.size_eq] at h1
    rw [List.length_cons, Nat.mul_succ]
    simp only [gapped, List.length_append] at h1 h2 ⊢
    omega
theorem add_lit (J g : Bs) (h : J.length + g.length ≤ 9223372036854775807) : binV .add (V.d (dstr (bs J))) (V.d (dstr (bs g))) = some (V.d (dstr (bs (J ++ g)))) := by
  rw [v_sadd, bs_size, bs_size, if_pos h, bs_append]
theorem gap_cases (gv : Int) (h : 0 ≤ gv) : (gv.tmod 5 = 0 ∧ gapS (gv % 5).toNat = [32, 9, 32]) ∨ (gv.tmod 5 = 1 ∧ gapS (gv % 5).toNat = [10, 10]) ∨ (gv.tmod 5 = 2 ∧ gapS (gv % 5).toNat = [32, 47, 47, 32, 120, 32, 123, 32, 34, 32, 64, 10]) ∨ (gv.tmod 5 = 3 ∧ gapS (gv % 5).toNat = [10, 47, 47, 10, 32]) ∨ (gv.tmod 5 = 4 ∧ gapS (gv % 5).toNat = [32]) := by
  rw [Int.tmod_eq_emod_of_nonneg h]
  have h5 : gv % 5 = 0 ∨ gv % 5 = 1 ∨ gv % 5 = 2 ∨ gv % 5 = 3 ∨ gv % 5 = 4 := by omega
  rcases h5 with e | e | e | e | e <;> rw [e] <;> decide
set_option maxHeartbeats 2000000 in
theorem lexerBlanks_fun (ts : List Tok) (ms : List Int) (hms : ∀ x, x ∈ ms → 0 ≤ x ∧ x < 256) : Fun G 7 [.d (.sl (ts.map tokD)), .d (.sl (ms.map fun b => [.lit (.int .u8 b)]))] [] (RetV (.d (.lit (.bool true))) []) := by
  refine fun_code Tryd.func7 k7 rfl fun hb hw => ?_
  unfold c7
  by_cases h20 : 20 < ts.length
  · have h20' : (20 : Int) < ((ts.length : Nat) : Int) := by omega
    simp -dsimp -implicitDefEqProofs only [aw, slots0, V.copy, V.lend, V.lend1, V.cells, V.boxable, over, bldV, boundV, rowsOf, plains, V.plain, Nat.reduceLeDiff, cond_true, cond_false, implies_true, eq_self, ne_eq, reduceIte, reduceCtorEq, Nat.reduceBEq, Nat.reduceLT, Nat.reduceEqDiff, Nat.reduceAdd, Nat.reduceSub, Nat.reduceMul, List.length_map, decide_eq_true h20']
    refine fun_ret (awake_fun _) ?_
    simp -dsimp -implicitDefEqProofs only [aw, slots0, V.copy, V.lend, V.lend1, V.cells, V.boxable, over, bldV, boundV, rowsOf, plains, V.plain, Nat.reduceLeDiff, cond_true, cond_false, implies_true, eq_self, ne_eq, reduceIte, reduceCtorEq, Nat.reduceBEq, Nat.reduceLT, Nat.reduceEqDiff, Nat.reduceAdd, Nat.reduceSub, Nat.reduceMul]
    first | exact fin_ret hb rfl rfl List.take_length ⟨rfl, rfl⟩ | (trace_state; fail "fin")
  have h20' : ¬ (20 : Int) < ((ts.length : Nat) : Int) := by omega
  by_cases h40 : 40 < ms.length
  · have h40' : (40 : Int) < ((ms.length : Nat) : Int) := by omega
    simp -dsimp -implicitDefEqProofs only [aw, slots0, V.copy, V.lend, V.lend1, V.cells, V.boxable, over, bldV, boundV, rowsOf, plains, V.plain, Nat.reduceLeDiff, cond_true, cond_false, implies_true, eq_self, ne_eq, reduceIte, reduceCtorEq, Nat.reduceBEq, Nat.reduceLT, Nat.reduceEqDiff, Nat.reduceAdd, Nat.reduceSub, Nat.reduceMul, List.length_map, decide_eq_false h20', decide_eq_true h40']
    refine fun_ret (awake_fun _) ?_
    simp -dsimp -implicitDefEqProofs only [aw, slots0, V.copy, V.lend, V.lend1, V.cells, V.boxable, over, bldV, boundV, rowsOf, plains, V.plain, Nat.reduceLeDiff, cond_true, cond_false, implies_true, eq_self, ne_eq, reduceIte, reduceCtorEq, Nat.reduceBEq, Nat.reduceLT, Nat.reduceEqDiff, Nat.reduceAdd, Nat.reduceSub, Nat.reduceMul]
    first | exact fin_ret hb rfl rfl List.take_length ⟨rfl, rfl⟩ | (trace_state; fail "fin")
  have h40' : ¬ (40 : Int) < ((ms.length : Nat) : Int) := by omega
  simp -dsimp -implicitDefEqProofs only [aw, slots0, V.copy, V.lend, V.lend1, V.cells, V.boxable, over, bldV, boundV, rowsOf, plains, V.plain, Nat.reduceLeDiff, cond_true, cond_false, implies_true, eq_self, ne_eq, reduceIte, reduceCtorEq, Nat.reduceBEq, Nat.reduceLT, Nat.reduceEqDiff, Nat.reduceAdd, Nat.reduceSub, Nat.reduceMul, List.length_map, decide_eq_false h20', decide_eq_false h40']
  refine awp_forK [0, 1, 5, 6] (R := fun (j : Nat) ρ σ' => ρ = [(0, .d (.sl (ts.map tokD))), (1, .d (.sl (ms.map fun b => [.lit (.int .u8 b)]))), (5, .d (dstr (bs (9 :: gapped ((prs ms 0 ts).take j))))), (6, vint .i64 j)] ∧ σ' = [] ∧ ∀ t, t ∈ ts.take j → t.text.size ≤ 40) ts.length ⟨rfl, rfl, by simp⟩ ?_ _
  rintro j ρ' σ' hj ⟨rfl, rfl, hs⟩
  by_cases hlt : j < ts.length
  · have htk : ts.take (j + 1) = ts.take j ++ [ts[j]] := by rw [List.take_add_one, List.getElem?_eq_getElem hlt]; rfl
    have hpk : (prs ms 0 ts).take (j + 1) = (prs ms 0 ts).take j ++ [(ts[j], gapS (gapN ms j))] := by
      rw [List.take_add_one, prs_get, List.getElem?_eq_getElem hlt, Nat.zero_add]; rfl
    have hgl := gapped_len 40 ((prs ms 0 ts).take j) fun p hp => by
      obtain ⟨i, hi, rfl⟩ := List.getElem_of_mem hp
      rw [List.length_take, prs_len] at hi
      have h1 := prs_get ms ts 0 i
      rw [List.getElem?_eq_getElem (by rw [prs_len]; omega), List.getElem?_eq_getElem (by omega), Option.map_some, Option.some.injEq] at h1
      rw [List.getElem_take, h1]
      exact ⟨hs _ (List.mem_iff_getElem?.2 ⟨i, by rw [List.getElem?_take_of_lt (by omega), List.getElem?_eq_getElem (by omega)]⟩), gapS_len _⟩
    rw [List.length_take, prs_len] at hgl
    have hgl2 : (gapped ((prs ms 0 ts).take j)).length ≤ 52 * 20 := Nat.le_trans hgl (Nat.mul_le_mul_left _ (by omega))
    have hsn := gapped_snoc ((prs ms 0 ts).take j) ts[j] (gapS (gapN ms j))
    rw [← hpk] at hsn
    obtain ⟨tx, htxe⟩ : ∃ l, ts[j].text = bs l := ⟨_, (bs_self _).symm⟩
    rw [htxe, bs_list] at hsn
    by_cases h40 : 40 < tx.length
    · have h40' : (40 : Int) < (tx.length : Nat) := by omega
      simp -dsimp -implicitDefEqProofs only [aw, slots0, V.copy, V.lend, V.lend1, V.cells, V.boxable, over, bldV, boundV, rowsOf, plains, V.plain, Nat.reduceLeDiff, cond_true, cond_false, implies_true, eq_self, ne_eq, reduceIte, reduceCtorEq, Nat.reduceBEq, Nat.reduceLT, Nat.reduceEqDiff, Nat.reduceAdd, Nat.reduceSub, Nat.reduceMul, Int.ofNat_lt, hlt, decide_true, List.getElem?_eq_getElem hlt, tokD, htxe, bs_size, decide_eq_true h40']
      refine fun_ret (awake_fun _) ?_
      simp -dsimp -implicitDefEqProofs only [aw, slots0, V.copy, V.lend, V.lend1, V.cells, V.boxable, over, bldV, boundV, rowsOf, plains, V.plain, Nat.reduceLeDiff, cond_true, cond_false, implies_true, eq_self, ne_eq, reduceIte, reduceCtorEq, Nat.reduceBEq, Nat.reduceLT, Nat.reduceEqDiff, Nat.reduceAdd, Nat.reduceSub, Nat.reduceMul]
      first | exact fin_ret hb rfl rfl List.take_length ⟨rfl, rfl⟩ | (trace_state; fail "fin")
    · have h40' : ¬ (40 : Int) < (tx.length : Nat) := by omega
      have hsz : ∀ t, t ∈ ts.take (j + 1) → t.text.size ≤ 40 := fun t ht => by
        rw [htk, List.mem_append, List.mem_singleton] at ht
        rcases ht with ht | rfl
        · exact hs t ht
        · rw [htxe, bs_size]; omega
      have a1 := add_lit (9 :: gapped ((prs ms 0 ts).take j)) tx (by simp only [List.length_cons]; omega)
      have hJ : (9 :: gapped ((prs ms 0 ts).take j) ++ tx).length ≤ 2000 := by simp only [List.length_append, List.length_cons]; omega
      have hnext : 9 :: gapped ((prs ms 0 ts).take (j + 1)) = (9 :: gapped ((prs ms 0 ts).take j) ++ tx) ++ gapS (gapN ms j) := by rw [hsn]; simp
      generalize 9 :: gapped ((prs ms 0 ts).take (j + 1)) = J1 at *
      generalize 9 :: gapped ((prs ms 0 ts).take j) = J0 at *
      generalize J0 ++ tx = J at *
      have b0 : binV .add (V.d (dstr (bs J))) (V.d (dstr ⟨#[32, 9, 32]⟩)) = some (V.d (dstr (bs (J ++ [32, 9, 32])))) := add_lit J [32, 9, 32] (by simp only [List.length_cons, List.length_nil]; omega)
      have b1 : binV .add (V.d (dstr (bs J))) (V.d (dstr ⟨#[10, 10]⟩)) = some (V.d (dstr (bs (J ++ [10, 10])))) := add_lit J [10, 10] (by simp only [List.length_cons, List.length_nil]; omega)
      have b2 : binV .add (V.d (dstr (bs J))) (V.d (dstr ⟨#[32, 47, 47, 32, 120, 32, 123, 32, 34, 32, 64, 10]⟩)) = some (V.d (dstr (bs (J ++ [32, 47, 47, 32, 120, 32, 123, 32, 34, 32, 64, 10])))) := add_lit J [32, 47, 47, 32, 120, 32, 123, 32, 34, 32, 64, 10] (by simp only [List.length_cons, List.length_nil]; omega)
      have b3 : binV .add (V.d (dstr (bs J))) (V.d (dstr ⟨#[10, 47, 47, 10, 32]⟩)) = some (V.d (dstr (bs (J ++ [10, 47, 47, 10, 32])))) := add_lit J [10, 47, 47, 10, 32] (by simp only [List.length_cons, List.length_nil]; omega)
      have b4 : binV .add (V.d (dstr (bs J))) (V.d (dstr ⟨#[32]⟩)) = some (V.d (dstr (bs (J ++ [32])))) := add_lit J [32] (by simp only [List.length_cons, List.length_nil]; omega)
      by_cases hjm : j < ms.length
      · have hgN : gapN ms j = (ms[j] % 5).toNat := by unfold gapN; rw [List.getD_eq_getElem?_getD, List.getElem?_eq_getElem hjm]; rfl
        have h0 := (hms _ (List.getElem_mem hjm)).1
        rw [hgN] at hnext
        rcases gap_cases ms[j] h0 with ⟨e1, e2⟩ | ⟨e1, e2⟩ | ⟨e1, e2⟩ | ⟨e1, e2⟩ | ⟨e1, e2⟩
        all_goals
          rw [e2] at hnext
          simp -dsimp -implicitDefEqProofs only [aw, slots0, V.copy, V.lend, V.lend1, V.cells, V.boxable, over, bldV, boundV, rowsOf, plains, V.plain, Nat.reduceLeDiff, cond_true, cond_false, implies_true, eq_self, ne_eq, reduceIte, reduceCtorEq, Nat.reduceBEq, Nat.reduceLT, Nat.reduceEqDiff, Nat.reduceAdd, Nat.reduceSub, Nat.reduceMul, Int.ofNat_lt, hlt, decide_true, List.getElem?_eq_getElem hlt, tokD, htxe, bs_size, decide_eq_false h40', a1, Int.ofNat_lt, hjm, List.getElem?_eq_getElem hjm, e1, Int.reduceEq, decide_true, decide_false, List.length_map, b0, b1, b2, b3, b4, wrap_nat hlt (show ts.length ≤ 9223372036854775807 by omega)]
          exact Nxt.same (Nat.le_refl _) hb rfl ⟨by rw [hnext], rfl, hsz⟩
      · have hgN : gapN ms j = (((j : Nat) : Int) % 5).toNat := by unfold gapN; rw [List.getD_eq_getElem?_getD, List.getElem?_eq_none (by omega)]; rfl
        have wu : IntKind.u8.wrap ((j : Nat) : Int) = (j : Nat) := by simp [IntKind.wrap, IntKind.bits, IntKind.signed]; omega
        rw [hgN] at hnext
        rcases gap_cases ((j : Nat) : Int) (by omega) with ⟨e1, e2⟩ | ⟨e1, e2⟩ | ⟨e1, e2⟩ | ⟨e1, e2⟩ | ⟨e1, e2⟩
        all_goals
          rw [e2] at hnext
          simp -dsimp -implicitDefEqProofs only [aw, slots0, V.copy, V.lend, V.lend1, V.cells, V.boxable, over, bldV, boundV, rowsOf, plains, V.plain, Nat.reduceLeDiff, cond_true, cond_false, implies_true, eq_self, ne_eq, reduceIte, reduceCtorEq, Nat.reduceBEq, Nat.reduceLT, Nat.reduceEqDiff, Nat.reduceAdd, Nat.reduceSub, Nat.reduceMul, Int.ofNat_lt, hlt, decide_true, List.getElem?_eq_getElem hlt, tokD, htxe, bs_size, decide_eq_false h40', a1, wu, hjm, e1, Int.reduceEq, decide_true, decide_false, List.length_map, b0, b1, b2, b3, b4, wrap_nat hlt (show ts.length ≤ 9223372036854775807 by omega)]
          exact Nxt.same (Nat.le_refl _) hb rfl ⟨by rw [hnext], rfl, hsz⟩
  · rw [List.take_of_length_le (by omega)] at hs
    rw [List.take_of_length_le (by rw [prs_len]; omega)]
    have hjn := lxjoin_fun ts (by omega) fun t h => Nat.le_trans (hs t h) (by decide)
    unfold joinV at hjn
    cases hv : ts.all vTok with
    | false =>
      rw [if_neg (by rw [hv]; decide)] at hjn
      simp -dsimp -implicitDefEqProofs only [aw, slots0, V.copy, V.lend, V.lend1, V.cells, V.boxable, over, bldV, boundV, rowsOf, plains, V.plain, Nat.reduceLeDiff, cond_true, cond_false, implies_true, eq_self, ne_eq, reduceIte, reduceCtorEq, Nat.reduceBEq, Nat.reduceLT, Nat.reduceEqDiff, Nat.reduceAdd, Nat.reduceSub, Nat.reduceMul, Int.ofNat_lt, hlt, decide_false]
      refine fun_ret (hjn _) ?_
      simp -dsimp -implicitDefEqProofs only [aw, slots0, V.copy, V.lend, V.lend1, V.cells, V.boxable, over, bldV, boundV, rowsOf, plains, V.plain, Nat.reduceLeDiff, cond_true, cond_false, implies_true, eq_self, ne_eq, reduceIte, reduceCtorEq, Nat.reduceBEq, Nat.reduceLT, Nat.reduceEqDiff, Nat.reduceAdd, Nat.reduceSub, Nat.reduceMul, Int.reduceEq, decide_true, decide_false]
      refine fun_ret (awake_fun _) ?_
      simp -dsimp -implicitDefEqProofs only [aw, slots0, V.copy, V.lend, V.lend1, V.cells, V.boxable, over, bldV, boundV, rowsOf, plains, V.plain, Nat.reduceLeDiff, cond_true, cond_false, implies_true, eq_self, ne_eq, reduceIte, reduceCtorEq, Nat.reduceBEq, Nat.reduceLT, Nat.reduceEqDiff, Nat.reduceAdd, Nat.reduceSub, Nat.reduceMul]
      first | exact fin_ret hb rfl rfl List.take_length ⟨rfl, rfl⟩ | (trace_state; fail "fin")
    | true =>
      rw [if_pos hv] at hjn
      have hvt : ∀ t, t ∈ ts → vTok t = true := fun t ht => List.all_eq_true.1 hv t ht
      have hG : Gaps (prs ms 0 ts) := gaps_of fun p hp => by
        obtain ⟨h1, k, h2⟩ := prs_mem ms 0 ts p hp
        rw [h2]
        exact ⟨hvt _ h1, gapS_gap k⟩
      have hgl := gapped_len 40 (prs ms 0 ts) fun p hp => by
        obtain ⟨h1, k, h2⟩ := prs_mem ms 0 ts p hp
        rw [h2]
        exact ⟨hs _ h1, gapS_len k⟩
      rw [prs_len] at hgl
      have hgl2 : (gapped (prs ms 0 ts)).length ≤ 52 * 20 := Nat.le_trans hgl (Nat.mul_le_mul_left _ (by omega))
      obtain ⟨N, hN⟩ : ∃ N : Int, N = 1 + ((9 :: gapped (prs ms 0 ts)).count 10 : Nat) := ⟨_, rfl⟩
      have htk : toksL (9 :: gapped (prs ms 0 ts)) = .ok (lined N (prs ms 0 ts)) := by
        unfold toksL
        rw [← hN, ← toks_skip, skip_blank (by decide), toks_skip]
        exact toks_gapped _ N hG
      have hll : (lined N (prs ms 0 ts)).length = ts.length := by rw [lined_len, prs_len]
      have hlv := lined_valid N _ hG
      have hlt2 : (lined N (prs ms 0 ts)).map Tok.text = ts.map Tok.text := by rw [lined_texts, prs_texts]
      have hjoin := join_texts hlt2
      have htok := tokens_fun (9 :: gapped (prs ms 0 ts)) (by simp only [List.length_cons]; omega)
      have hR : lexR (9 :: gapped (prs ms 0 ts)) = .tup [.d (.sl ((lined N (prs ms 0 ts)).map tokD)), .d (dint 0), .d (dint 0)] := by
        unfold lexR; rw [if_neg (by simp only [List.length_cons]; omega), htk]; rfl
      rw [hR] at htok
      have hsz2 : ∀ t, t ∈ lined N (prs ms 0 ts) → t.text.size ≤ 1000 := fun t ht => by
        have h1 : t.text ∈ (lined N (prs ms 0 ts)).map Tok.text := List.mem_map.2 ⟨t, ht, rfl⟩
        rw [hlt2] at h1
        obtain ⟨u, hu, e⟩ := List.mem_map.1 h1
        rw [← e]
        exact Nat.le_trans (hs u hu) (by decide)
      have hjn2 := lxjoin_fun (lined N (prs ms 0 ts)) (by omega) hsz2
      unfold joinV at hjn2
      rw [if_pos (List.all_eq_true.2 hlv), hjoin] at hjn2
      generalize 9 :: gapped (prs ms 0 ts) = src at *
      generalize lined N (prs ms 0 ts) = ks at *
      simp -dsimp -implicitDefEqProofs only [aw, slots0, V.copy, V.lend, V.lend1, V.cells, V.boxable, over, bldV, boundV, rowsOf, plains, V.plain, Nat.reduceLeDiff, cond_true, cond_false, implies_true, eq_self, ne_eq, reduceIte, reduceCtorEq, Nat.reduceBEq, Nat.reduceLT, Nat.reduceEqDiff, Nat.reduceAdd, Nat.reduceSub, Nat.reduceMul, Int.ofNat_lt, hlt, decide_false]
      refine fun_ret (hjn _) ?_
      simp -dsimp -implicitDefEqProofs only [aw, slots0, V.copy, V.lend, V.lend1, V.cells, V.boxable, over, bldV, boundV, rowsOf, plains, V.plain, Nat.reduceLeDiff, cond_true, cond_false, implies_true, eq_self, ne_eq, reduceIte, reduceCtorEq, Nat.reduceBEq, Nat.reduceLT, Nat.reduceEqDiff, Nat.reduceAdd, Nat.reduceSub, Nat.reduceMul, Int.reduceEq, decide_true]
      refine fun_ret (htok _) ?_
      simp -dsimp -implicitDefEqProofs only [aw, slots0, V.copy, V.lend, V.lend1, V.cells, V.boxable, over, bldV, boundV, rowsOf, plains, V.plain, Nat.reduceLeDiff, cond_true, cond_false, implies_true, eq_self, ne_eq, reduceIte, reduceCtorEq, Nat.reduceBEq, Nat.reduceLT, Nat.reduceEqDiff, Nat.reduceAdd, Nat.reduceSub, Nat.reduceMul, Int.reduceEq, decide_true, List.length_map, hll]
      refine fun_ret (hjn2 _) ?_
      simp -dsimp -implicitDefEqProofs only [aw, slots0, V.copy, V.lend, V.lend1, V.cells, V.boxable, over, bldV, boundV, rowsOf, plains, V.plain, Nat.reduceLeDiff, cond_true, cond_false, implies_true, eq_self, ne_eq, reduceIte, reduceCtorEq, Nat.reduceBEq, Nat.reduceLT, Nat.reduceEqDiff, Nat.reduceAdd, Nat.reduceSub, Nat.reduceMul, decide_true]
      refine fun_ret (awake_fun _) ?_
      simp -dsimp -implicitDefEqProofs only [aw, slots0, V.copy, V.lend, V.lend1, V.cells, V.boxable, over, bldV, boundV, rowsOf, plains, V.plain, Nat.reduceLeDiff, cond_true, cond_false, implies_true, eq_self, ne_eq, reduceIte, reduceCtorEq, Nat.reduceBEq, Nat.reduceLT, Nat.reduceEqDiff, Nat.reduceAdd, Nat.reduceSub, Nat.reduceMul]
      first | exact fin_ret hb rfl rfl List.take_length ⟨rfl, rfl⟩ | (trace_state; fail "fin")
end Go.Proofs.YtdglhbelfjcffaaDoor
