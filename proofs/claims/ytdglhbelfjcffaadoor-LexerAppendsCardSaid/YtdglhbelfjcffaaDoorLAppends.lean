/-
  The law LexerAppends: its walk.
-/
import Derived.Test.YtdglhbelfjcffaaDoorAw7
set_option linter.unusedVariables false
set_option linter.unusedSimpArgs false
namespace Go.Proofs.YtdglhbelfjcffaaDoor
open Go.RowKit

/-- Lines lie within the source. -/
def linesIn (lo hi : Int) : Lx → Prop
  | .ok ts => ∀ t, t ∈ ts → lo ≤ t.line ∧ t.line ≤ hi
  | .err n _ => lo ≤ n ∧ n ≤ hi
theorem toks_lines : ∀ (k : Nat) (N : Int) (l : Bs), l.length ≤ k → linesIn (N - (l.count 10 : Nat)) N (toksN N l) := by
  intro k
  induction k with
  | zero =>
    intro N l h
    have : l = [] := List.eq_nil_of_length_eq_zero (by omega)
    subst this
    rw [toksN_step, skipL_nil]
    intro t ht; cases ht
  | succ k ih =>
    intro N l h
    rw [toksN_step]
    have hs := (skip_suffix l).length_le
    have hc := (skip_suffix l).sublist.count_le (a := (10 : UInt8))
    cases hsk : skipL l with
    | nil => intro t ht; cases ht
    | cons c r =>
      rw [hsk] at hs hc
      simp only
      cases hrd : readL (c :: r) with
      | err e => simp only [linesIn]; omega
      | tok kd n len =>
        obtain ⟨g1, g2⟩ := read_len hrd
        have hdl := List.length_drop (l := c :: r) (i := len)
        have hdc := (List.drop_sublist len (c :: r)).count_le (a := (10 : UInt8))
        have := ih N ((c :: r).drop len) (by omega)
        simp only
        cases hq : toksN N ((c :: r).drop len) with
        | err x e =>
          rw [hq] at this
          simp only [linesIn, Lx.cons] at this ⊢
          omega
        | ok us =>
          rw [hq] at this
          simp only [linesIn, Lx.cons] at this ⊢
          intro t ht
          rcases List.mem_cons.1 ht with rfl | ht
          · simp only [cutTok]; omega
          · have := this t ht; omega
theorem toks_err : ∀ (k : Nat) (N : Int) (l : Bs), l.length ≤ k → ∀ n e, toksN N l = .err n e → e ≠ 0 := by
  intro k
  induction k with
  | zero =>
    intro N l h n e he
    have : l = [] := List.eq_nil_of_length_eq_zero (by omega)
    subst this
    rw [toksN_step, skipL_nil] at he; cases he
  | succ k ih =>
    intro N l h n e he
    rw [toksN_step] at he
    have hs := (skip_suffix l).length_le
    cases hsk : skipL l with
    | nil => rw [hsk] at he; cases he
    | cons c r =>
      rw [hsk] at he hs
      simp only at he
      cases hrd : readL (c :: r) with
      | err e' => rw [hrd] at he; cases he; exact read_err hrd
      | tok kd m len =>
        obtain ⟨g1, g2⟩ := read_len hrd
        have hdl := List.length_drop (l := c :: r) (i := len)
        rw [hrd] at he
        simp only at he
        cases hq : toksN N ((c :: r).drop len) with
        | err x e' => rw [hq] at he; cases he; exact ih N _ (by omega) _ _ hq
        | ok us => rw [hq] at he; cases he
theorem toksL_lines (l : Bs) : linesIn 1 (1 + (l.count 10 : Nat)) (toksL l) := by
  have := toks_lines _ (1 + (l.count 10 : Nat)) l (Nat.le_refl _)
  rwa [show (1 + (l.count 10 : Nat) : Int) - (l.count 10 : Nat) = 1 by omega] at this
theorem sub_rows {A B : List (List D)} {k : Nat} (h : ∀ r, r ∈ A ++ B → r.length = k) : subV false k (V.d (.sl (A ++ B))) none (some (V.d (dint (A.length : Nat)))) = some (V.d (.sl A)) := by
  have h2 : (0 : Int) ≤ ((A.length : Nat) : Int) := by omega
  have h3 : (A ++ B).all (fun r => r.length == k) = true := List.all_eq_true.2 fun r hr => by simpa using h r hr
  have h4 : A.length ≤ (A ++ B).length := by simp
  simp only [subV, v_rows_d, boundV, if_pos h2, Int.toNat_natCast, Nat.zero_le, h4, h3, and_self, if_true, List.drop_zero, List.take_left']
set_option maxHeartbeats 2000000 in
theorem lexerAppends_fun (s t : Bs) : Fun G 6 [.d (dstr (bs s)), .d (dstr (bs t))] [] (RetV (.d (.lit (.bool true))) []) := by
  refine fun_code Tryd.func6 k6 rfl fun hb hw => ?_
  unfold c6
  by_cases hs : 500 < s.length
  · have hs' : (500 : Int) < ((s.length : Nat) : Int) := by omega
    simp -dsimp -implicitDefEqProofs only [aw, slots0, V.copy, V.lend, V.lend1, V.cells, V.boxable, over, bldV, boundV, rowsOf, plains, V.plain, Nat.reduceLeDiff, cond_true, cond_false, implies_true, eq_self, ne_eq, reduceIte, reduceCtorEq, Nat.reduceBEq, Nat.reduceLT, Nat.reduceEqDiff, Nat.reduceAdd, Nat.reduceSub, Nat.reduceMul, bs_size, decide_eq_true hs']
    refine fun_ret (awake_fun _) ?_
    simp -dsimp -implicitDefEqProofs only [aw, slots0, V.copy, V.lend, V.lend1, V.cells, V.boxable, over, bldV, boundV, rowsOf, plains, V.plain, Nat.reduceLeDiff, cond_true, cond_false, implies_true, eq_self, ne_eq, reduceIte, reduceCtorEq, Nat.reduceBEq, Nat.reduceLT, Nat.reduceEqDiff, Nat.reduceAdd, Nat.reduceSub, Nat.reduceMul]
    first | exact fin_ret hb rfl rfl List.take_length ⟨rfl, rfl⟩ | (trace_state; fail "fin")
  have hs' : ¬ (500 : Int) < ((s.length : Nat) : Int) := by omega
  by_cases ht : 500 < t.length
  · have ht' : (500 : Int) < ((t.length : Nat) : Int) := by omega
    simp -dsimp -implicitDefEqProofs only [aw, slots0, V.copy, V.lend, V.lend1, V.cells, V.boxable, over, bldV, boundV, rowsOf, plains, V.plain, Nat.reduceLeDiff, cond_true, cond_false, implies_true, eq_self, ne_eq, reduceIte, reduceCtorEq, Nat.reduceBEq, Nat.reduceLT, Nat.reduceEqDiff, Nat.reduceAdd, Nat.reduceSub, Nat.reduceMul, bs_size, decide_eq_false hs', decide_eq_true ht']
    refine fun_ret (awake_fun _) ?_
    simp -dsimp -implicitDefEqProofs only [aw, slots0, V.copy, V.lend, V.lend1, V.cells, V.boxable, over, bldV, boundV, rowsOf, plains, V.plain, Nat.reduceLeDiff, cond_true, cond_false, implies_true, eq_self, ne_eq, reduceIte, reduceCtorEq, Nat.reduceBEq, Nat.reduceLT, Nat.reduceEqDiff, Nat.reduceAdd, Nat.reduceSub, Nat.reduceMul]
    first | exact fin_ret hb rfl rfl List.take_length ⟨rfl, rfl⟩ | (trace_state; fail "fin")
  have ht' : ¬ (500 : Int) < ((t.length : Nat) : Int) := by omega
  have hRs : lexR s = lexV (toksL s) := by unfold lexR; rw [if_neg (by omega)]
  have hRt : lexR t = lexV (toksL t) := by unfold lexR; rw [if_neg (by omega)]
  have hts := tokens_fun s (by omega)
  have htt := tokens_fun t (by omega)
  rw [hRs] at hts
  rw [hRt] at htt
  have hls := toksL_lines s
  have hlt := toksL_lines t
  have hcs : s.count 10 ≤ s.length := List.count_le_length
  have hct : t.count 10 ≤ t.length := List.count_le_length
  cases hx : toksL s with
  | err n e =>
    rw [hx] at hts hls
    unfold lexV at hts
    have he0 : ¬ e = 0 := toks_err _ _ s (Nat.le_refl _) n e hx
    have hn0 : (0 : Int) ≤ n := by simp only [linesIn] at hls; omega
    simp -dsimp -implicitDefEqProofs only [aw, slots0, V.copy, V.lend, V.lend1, V.cells, V.boxable, over, bldV, boundV, rowsOf, plains, V.plain, Nat.reduceLeDiff, cond_true, cond_false, implies_true, eq_self, ne_eq, reduceIte, reduceCtorEq, Nat.reduceBEq, Nat.reduceLT, Nat.reduceEqDiff, Nat.reduceAdd, Nat.reduceSub, Nat.reduceMul, bs_size, decide_eq_false hs', decide_eq_false ht']
    refine fun_ret (hts _) ?_
    simp -dsimp -implicitDefEqProofs only [aw, slots0, V.copy, V.lend, V.lend1, V.cells, V.boxable, over, bldV, boundV, rowsOf, plains, V.plain, Nat.reduceLeDiff, cond_true, cond_false, implies_true, eq_self, ne_eq, reduceIte, reduceCtorEq, Nat.reduceBEq, Nat.reduceLT, Nat.reduceEqDiff, Nat.reduceAdd, Nat.reduceSub, Nat.reduceMul, decide_eq_false he0, Int.reduceEq, decide_true, Int.cast_ofNat_Int, Int.natCast_zero, decide_eq_true hn0]
    refine fun_ret (awake_fun _) ?_
    simp -dsimp -implicitDefEqProofs only [aw, slots0, V.copy, V.lend, V.lend1, V.cells, V.boxable, over, bldV, boundV, rowsOf, plains, V.plain, Nat.reduceLeDiff, cond_true, cond_false, implies_true, eq_self, ne_eq, reduceIte, reduceCtorEq, Nat.reduceBEq, Nat.reduceLT, Nat.reduceEqDiff, Nat.reduceAdd, Nat.reduceSub, Nat.reduceMul]
    first | exact fin_ret hb rfl rfl List.take_length ⟨rfl, rfl⟩ | (trace_state; fail "fin")
  | ok a =>
    rw [hx] at hts
    unfold lexV at hts
    have hla := toks_len _ _ s a (Nat.le_refl _) hx
    simp -dsimp -implicitDefEqProofs only [aw, slots0, V.copy, V.lend, V.lend1, V.cells, V.boxable, over, bldV, boundV, rowsOf, plains, V.plain, Nat.reduceLeDiff, cond_true, cond_false, implies_true, eq_self, ne_eq, reduceIte, reduceCtorEq, Nat.reduceBEq, Nat.reduceLT, Nat.reduceEqDiff, Nat.reduceAdd, Nat.reduceSub, Nat.reduceMul, bs_size, decide_eq_false hs', decide_eq_false ht']
    refine fun_ret (hts _) ?_
    simp -dsimp -implicitDefEqProofs only [aw, slots0, V.copy, V.lend, V.lend1, V.cells, V.boxable, over, bldV, boundV, rowsOf, plains, V.plain, Nat.reduceLeDiff, cond_true, cond_false, implies_true, eq_self, ne_eq, reduceIte, reduceCtorEq, Nat.reduceBEq, Nat.reduceLT, Nat.reduceEqDiff, Nat.reduceAdd, Nat.reduceSub, Nat.reduceMul, Int.reduceEq, decide_true]
    refine awp_forK [0, 1, 5, 8, 9] (R := fun (j : Nat) ρ σ' => ρ = [(0, .d (dstr (bs s))), (1, .d (dstr (bs t))), (5, .d (.sl (a.map tokD))), (8, vint .i64 (1 + ((s.take j).count 10 : Nat))), (9, vint .i64 j)] ∧ σ' = []) s.length ⟨rfl, rfl⟩ ?_ _
    rintro j ρ' σ' hj ⟨rfl, rfl⟩
    by_cases hlt' : j < s.length
    · have hct2 : (s.take (j + 1)).count 10 = (s.take j).count 10 + if (s[j] == 10) = true then 1 else 0 := by
        rw [List.take_add_one, List.getElem?_eq_getElem hlt', List.count_append, Option.toList_some, List.count_cons, List.count_nil, Nat.zero_add]
      have hcl : (s.take j).count 10 ≤ s.length := Nat.le_trans List.count_le_length (by rw [List.length_take]; omega)
      have w1 : IntKind.i64.wrap (1 + ((List.count 10 (List.take j s) : Nat) : Int) + 1) = 1 + ((List.count 10 (List.take j s) + 1 : Nat) : Int) := by rw [wrap_i64 (by omega) (by omega)]; omega
      cases h10 : (s[j] == 10) with
      | true =>
        rw [h10, if_pos rfl] at hct2
        simp -dsimp -implicitDefEqProofs only [aw, slots0, V.copy, V.lend, V.lend1, V.cells, V.boxable, over, bldV, boundV, rowsOf, plains, V.plain, Nat.reduceLeDiff, cond_true, cond_false, implies_true, eq_self, ne_eq, reduceIte, reduceCtorEq, Nat.reduceBEq, Nat.reduceLT, Nat.reduceEqDiff, Nat.reduceAdd, Nat.reduceSub, Nat.reduceMul, bs_size, Int.ofNat_lt, hlt', decide_true, bs_list, List.getElem?_eq_getElem hlt', ixK_some, u8_10, h10, w1, wrap_nat hlt' (show s.length ≤ 9223372036854775807 by omega)]
        exact Nxt.same (Nat.le_refl _) hb rfl ⟨by rw [hct2], rfl⟩
      | false =>
        rw [h10, if_neg Bool.false_ne_true] at hct2
        simp -dsimp -implicitDefEqProofs only [aw, slots0, V.copy, V.lend, V.lend1, V.cells, V.boxable, over, bldV, boundV, rowsOf, plains, V.plain, Nat.reduceLeDiff, cond_true, cond_false, implies_true, eq_self, ne_eq, reduceIte, reduceCtorEq, Nat.reduceBEq, Nat.reduceLT, Nat.reduceEqDiff, Nat.reduceAdd, Nat.reduceSub, Nat.reduceMul, bs_size, Int.ofNat_lt, hlt', decide_true, bs_list, List.getElem?_eq_getElem hlt', ixK_some, u8_10, h10, wrap_nat hlt' (show s.length ≤ 9223372036854775807 by omega)]
        exact Nxt.same (Nat.le_refl _) hb rfl ⟨by rw [hct2]; rfl, rfl⟩
    rw [List.take_of_length_le (by omega)]
    have e10 : (⟨#[10]⟩ : ByteArray) = bs [10] := rfl
    have hs1 : s.length + ([10] : Bs).length ≤ 9223372036854775807 := by simp only [List.length_cons, List.length_nil]; omega
    have hs2 : (s ++ [10]).length + t.length ≤ 9223372036854775807 := by simp only [List.length_append, List.length_cons, List.length_nil]; omega
    have a1 : binV .add (V.d (dstr (bs s))) (V.d (dstr ⟨#[10]⟩)) = some (V.d (dstr (bs (s ++ [10])))) := by
      rw [e10, v_sadd, bs_size, bs_size, if_pos hs1, bs_append]
    have a2 : binV .add (V.d (dstr (bs (s ++ [10])))) (V.d (dstr (bs t))) = some (V.d (dstr (bs (s ++ 10 :: t)))) := by
      rw [v_sadd, bs_size, bs_size, if_pos hs2, bs_append, List.append_assoc]; rfl
    have hst := tokens_fun (s ++ 10 :: t) (by simp only [List.length_append, List.length_cons]; omega)
    have hRst : lexR (s ++ 10 :: t) = lexV (toksL (s ++ 10 :: t)) := by unfold lexR; rw [if_neg (by simp only [List.length_append, List.length_cons]; omega)]
    rw [hRst, toksL_more s t a hx] at hst
    obtain ⟨L, hL⟩ : ∃ L : Int, L = 1 + (s.count 10 : Nat) := ⟨_, rfl⟩
    rw [← hL] at hst ⊢
    have hL0 : 1 ≤ L := by omega
    have hL1 : L ≤ 501 := by omega
    generalize s ++ 10 :: t = st at *
    generalize s ++ [10] = s1 at *
    cases hy : toksL t with
    | err m f =>
      rw [hy] at htt hst hlt
      simp only [lexV, Lx.down, Lx.app] at htt hst
      simp only [linesIn] at hlt
      have hf0 : ¬ f = 0 := toks_err _ _ t (Nat.le_refl _) m f hy
      have wm : IntKind.i64.wrap (m + L) = m + L := wrap_i64 (by omega) (by omega)
      simp -dsimp -implicitDefEqProofs only [aw, slots0, V.copy, V.lend, V.lend1, V.cells, V.boxable, over, bldV, boundV, rowsOf, plains, V.plain, Nat.reduceLeDiff, cond_true, cond_false, implies_true, eq_self, ne_eq, reduceIte, reduceCtorEq, Nat.reduceBEq, Nat.reduceLT, Nat.reduceEqDiff, Nat.reduceAdd, Nat.reduceSub, Nat.reduceMul, bs_size, Int.ofNat_lt, hlt', decide_false]
      refine fun_ret (htt _) ?_
      simp -dsimp -implicitDefEqProofs only [aw, slots0, V.copy, V.lend, V.lend1, V.cells, V.boxable, over, bldV, boundV, rowsOf, plains, V.plain, Nat.reduceLeDiff, cond_true, cond_false, implies_true, eq_self, ne_eq, reduceIte, reduceCtorEq, Nat.reduceBEq, Nat.reduceLT, Nat.reduceEqDiff, Nat.reduceAdd, Nat.reduceSub, Nat.reduceMul, a1, a2]
      refine fun_ret (hst _) ?_
      simp -dsimp -implicitDefEqProofs only [aw, slots0, V.copy, V.lend, V.lend1, V.cells, V.boxable, over, bldV, boundV, rowsOf, plains, V.plain, Nat.reduceLeDiff, cond_true, cond_false, implies_true, eq_self, ne_eq, reduceIte, reduceCtorEq, Nat.reduceBEq, Nat.reduceLT, Nat.reduceEqDiff, Nat.reduceAdd, Nat.reduceSub, Nat.reduceMul, decide_eq_false hf0, Int.reduceEq, decide_true, Int.cast_ofNat_Int, Int.natCast_zero, wm]
      refine fun_ret (awake_fun _) ?_
      simp -dsimp -implicitDefEqProofs only [aw, slots0, V.copy, V.lend, V.lend1, V.cells, V.boxable, over, bldV, boundV, rowsOf, plains, V.plain, Nat.reduceLeDiff, cond_true, cond_false, implies_true, eq_self, ne_eq, reduceIte, reduceCtorEq, Nat.reduceBEq, Nat.reduceLT, Nat.reduceEqDiff, Nat.reduceAdd, Nat.reduceSub, Nat.reduceMul]
      first | exact fin_ret hb rfl rfl List.take_length ⟨rfl, rfl⟩ | (trace_state; fail "fin")
    | ok b =>
      have hlb := toks_len _ _ t b (Nat.le_refl _) hy
      rw [hy] at htt hst hlt
      simp only [lexV, Lx.down, Lx.app] at htt hst
      simp only [linesIn] at hlt
      have hrows : (a ++ b.map (Tok.down L)).map tokD = a.map tokD ++ (b.map (Tok.down L)).map tokD := List.map_append
      rw [hrows] at hst
      have hal : (a.map tokD).length = a.length := List.length_map _
      have hsub := sub_rows (k := 4) (A := a.map tokD) (B := (b.map (Tok.down L)).map tokD) (by
        intro r hr
        rw [← hrows] at hr
        obtain ⟨x, -, rfl⟩ := List.mem_map.1 hr
        rfl)
      rw [hal] at hsub
      have wl : IntKind.i64.wrap ((a.length : Nat) + (b.length : Nat)) = ((a.length + b.length : Nat) : Int) := by rw [wrap_i64 (by omega) (by omega)]; omega
      have hcl : lenV false (V.d (.sl (a.map tokD ++ (b.map (Tok.down L)).map tokD))) = some (vint .i64 ((a.length + b.length : Nat) : Int)) := by rw [v_len_d]; simp
      have hcel : ∀ i, i < b.length → iaV 4 (V.d (.sl (a.map tokD ++ (b.map (Tok.down L)).map tokD))) (V.d (dint ((a.length + i : Nat) : Int))) = (b[i]?).map fun x => V.row (tokD (Tok.down L x)) 0 := fun i hi => by
        rw [v_ia_nat, v_rows_d, Option.bind_some, List.getElem?_append_right (by rw [hal]; omega), hal, show a.length + i - a.length = i by omega, List.getElem?_map, List.getElem?_map, List.getElem?_eq_getElem hi]
        rfl
      generalize a.map tokD ++ (b.map (Tok.down L)).map tokD = cr at *
      simp -dsimp -implicitDefEqProofs only [aw, slots0, V.copy, V.lend, V.lend1, V.cells, V.boxable, over, bldV, boundV, rowsOf, plains, V.plain, Nat.reduceLeDiff, cond_true, cond_false, implies_true, eq_self, ne_eq, reduceIte, reduceCtorEq, Nat.reduceBEq, Nat.reduceLT, Nat.reduceEqDiff, Nat.reduceAdd, Nat.reduceSub, Nat.reduceMul, bs_size, Int.ofNat_lt, hlt', decide_false]
      refine fun_ret (htt _) ?_
      simp -dsimp -implicitDefEqProofs only [aw, slots0, V.copy, V.lend, V.lend1, V.cells, V.boxable, over, bldV, boundV, rowsOf, plains, V.plain, Nat.reduceLeDiff, cond_true, cond_false, implies_true, eq_self, ne_eq, reduceIte, reduceCtorEq, Nat.reduceBEq, Nat.reduceLT, Nat.reduceEqDiff, Nat.reduceAdd, Nat.reduceSub, Nat.reduceMul, a1, a2]
      refine fun_ret (hst _) ?_
      simp -dsimp -implicitDefEqProofs only [aw, slots0, V.copy, V.lend, V.lend1, V.cells, V.boxable, over, bldV, boundV, rowsOf, plains, V.plain, Nat.reduceLeDiff, cond_true, cond_false, implies_true, eq_self, ne_eq, reduceIte, reduceCtorEq, Nat.reduceBEq, Nat.reduceLT, Nat.reduceEqDiff, Nat.reduceAdd, Nat.reduceSub, Nat.reduceMul, Int.reduceEq, decide_true, hcl, List.length_map, wl, hsub]
      refine fun_ret (r7same_fun a (by omega) _) ?_
      simp -dsimp -implicitDefEqProofs only [aw, slots0, V.copy, V.lend, V.lend1, V.cells, V.boxable, over, bldV, boundV, rowsOf, plains, V.plain, Nat.reduceLeDiff, cond_true, cond_false, implies_true, eq_self, ne_eq, reduceIte, reduceCtorEq, Nat.reduceBEq, Nat.reduceLT, Nat.reduceEqDiff, Nat.reduceAdd, Nat.reduceSub, Nat.reduceMul]
      refine awp_forK [5, 8, 10, 13, 16] (R := fun (i : Nat) ρ σ'' => ρ = [(5, .d (.sl (a.map tokD))), (8, vint .i64 L), (10, .d (.sl (b.map tokD))), (13, .d (.sl cr)), (16, vint .i64 i)] ∧ σ'' = []) b.length ⟨rfl, rfl⟩ ?_ _
      rintro i ρ' σ'' hi ⟨rfl, rfl⟩
      have heq : G.eqs 30 = true := by kernel_rfl
      by_cases hib : i < b.length
      · have hb2 := hlt _ (List.getElem_mem hib)
        have wx : IntKind.i64.wrap (b[i].line + L) = b[i].line + L := wrap_i64 (by omega) (by omega)
        have wi' : IntKind.i64.wrap ((a.length : Nat) + (i : Nat)) = ((a.length + i : Nat) : Int) := by rw [wrap_i64 (by omega) (by omega)]; omega
        have hce := hcel i hib
        rw [List.getElem?_eq_getElem hib, Option.map_some] at hce
        unfold tokD Tok.down at hce
        simp -dsimp -implicitDefEqProofs only [aw, slots0, V.copy, V.lend, V.lend1, V.cells, V.boxable, over, bldV, boundV, rowsOf, plains, V.plain, Nat.reduceLeDiff, cond_true, cond_false, implies_true, eq_self, ne_eq, reduceIte, reduceCtorEq, Nat.reduceBEq, Nat.reduceLT, Nat.reduceEqDiff, Nat.reduceAdd, Nat.reduceSub, Nat.reduceMul, Int.ofNat_lt, hib, decide_true, List.getElem?_eq_getElem hib, tokD, wx, wi', hce, heq, wrap_nat hib (show b.length ≤ 9223372036854775807 by omega)]
        refine Nxt.drop (Nat.le_refl _) hb rfl ⟨rfl, rfl⟩
      · simp -dsimp -implicitDefEqProofs only [aw, slots0, V.copy, V.lend, V.lend1, V.cells, V.boxable, over, bldV, boundV, rowsOf, plains, V.plain, Nat.reduceLeDiff, cond_true, cond_false, implies_true, eq_self, ne_eq, reduceIte, reduceCtorEq, Nat.reduceBEq, Nat.reduceLT, Nat.reduceEqDiff, Nat.reduceAdd, Nat.reduceSub, Nat.reduceMul, Int.ofNat_lt, hib, decide_false]
        refine fun_ret (awake_fun _) ?_
        simp -dsimp -implicitDefEqProofs only [aw, slots0, V.copy, V.lend, V.lend1, V.cells, V.boxable, over, bldV, boundV, rowsOf, plains, V.plain, Nat.reduceLeDiff, cond_true, cond_false, implies_true, eq_self, ne_eq, reduceIte, reduceCtorEq, Nat.reduceBEq, Nat.reduceLT, Nat.reduceEqDiff, Nat.reduceAdd, Nat.reduceSub, Nat.reduceMul]
        first | exact fin_ret hb rfl rfl List.take_length ⟨rfl, rfl⟩ | (trace_state; fail "fin")
end Go.Proofs.YtdglhbelfjcffaaDoor
