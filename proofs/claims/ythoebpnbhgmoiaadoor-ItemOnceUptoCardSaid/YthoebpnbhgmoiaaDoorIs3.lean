/-
  Expressions without arrays: scalar of the program; Scalar.
-/
import Derived.Test.YthoebpnbhgmoiaaDoorIs2
set_option linter.unusedVariables false
set_option linter.unusedSimpArgs false
set_option linter.unusedSectionVars false
namespace Go.Proofs.YthoebpnbhgmoiaaDoor
open Go.RowKit
theorem Nxt.keep2 {n0 : Nat} {R : Slots → List (List V) → Prop} {ρ : Slots} {σ : List (List V)} {a b c : List V} (hn : n0 ≤ σ.length) (hb : boxesBelow (σ ++ [a, b]).length (σ ++ [a, b]) = true) (hs : slotsBelow (σ ++ [a, b]).length ρ = true) (hR : R ρ (σ ++ [a, b])) : Nxt n0 R ρ (σ ++ [a, b, c]) .mk := by
  have e : σ ++ [a, b, c] = (σ ++ [a, b]) ++ [c] := by simp
  rw [e]
  exact Nxt.drop (by rw [List.length_append]; omega) hb hs hR
set_option maxHeartbeats 4000000 in
theorem scalar_fun (i : Nat) (fs : List (ByteArray × Int)) (hf : ∀ s, fszI fs s ≤ 8) (e : Ex) : SOk fs e → NN e → esize e ≤ 1000000 → tE fs e ≤ 400 → ∀ σ, FB σ i fs → Fun G 31 [.mp i, vex e] σ (RetV (vex (scE fs e)) σ) := by
  induction e using Ex.ind3 with
  | h e ih =>
  intro hs hnn hsz ht σ h
  have he := esize_eq e
  have hln := len_le e.args
  have hil := h.lt
  have hs' := hs
  rw [SOk_eq] at hs'
  refine fun_code Tryd.func31 k31 (by simp only [vex_eq]; rfl) fun hb hw => ?_
  delta c31 oM oV kI kS kT kF
  by_cases o24 : e.op = 24
  · obtain ⟨g1, g2, g3⟩ := hs'.1 (.inr o24)
    have hn := fszN_I fs g1
    have has : e.name.size ≤ 1000 := by have := nameB_size g3; omega
    have hres : scE fs e = sumX e.name (fszN fs e.name - 1) := by rw [scE_eq, if_pos o24]
    have hel := fun k hk σ => element_fun e.name k hk has σ
    have vel : ∀ k, vex (elE e.name k) = .agg [.d (dint 2), .d (dint 0), .d (dstr (elemName e.name k)), .d (.sl [])] := fun k => by rw [vex_eq]; rfl
    simp only [vel] at hel
    rw [hres]
    generalize fszN fs e.name = n at hn ⊢
    simp -dsimp -implicitDefEqProofs only [aw, slots0, V.copy, V.lend, V.lend1, V.cells, V.boxable, over, bldV, boundV, rowsOf, plains, V.plain, Nat.reduceLeDiff, cond_true, cond_false, implies_true, eq_self, ne_eq, reduceIte, reduceCtorEq, Nat.reduceBEq, Nat.reduceLT, Nat.reduceEqDiff, Nat.reduceAdd, Nat.reduceSub, Nat.reduceMul, vex_eq, o24, decide_true]
    refine fun_ret (hel 0 (by omega) _) ?_
    simp -dsimp -implicitDefEqProofs only [aw, slots0, V.copy, V.lend, V.lend1, V.cells, V.boxable, over, bldV, boundV, rowsOf, plains, V.plain, Nat.reduceLeDiff, cond_true, cond_false, implies_true, eq_self, ne_eq, reduceIte, reduceCtorEq, Nat.reduceBEq, Nat.reduceLT, Nat.reduceEqDiff, Nat.reduceAdd, Nat.reduceSub, Nat.reduceMul]
    refine awp_for (R := fun (j : Nat) ρ σ' => ρ = [(0, .mp i), (3, .ptr σ.length 0), (4, .ptr (σ.length + 1) 0), (5, .ptr (σ.length + 2) 0), (6, vint .i64 ((j + 1 : Nat) : Int))] ∧ σ' = σ ++ [[.d (dint 24), .d (dint e.num), .d (dstr e.name), .d (.sl (e.args.map dex))], [.d (dint 0), .d (dint 0), .d (dstr ⟨#[]⟩), .nil],
      [.d (dint (sumX e.name j).op), .d (dint (sumX e.name j).num), .d (dstr (sumX e.name j).name), .d (.sl ((sumX e.name j).args.map dex))]]) (n - 1) ⟨rfl, rfl⟩ ?_ _
    rintro j ρ' σ' hj ⟨rfl, rfl⟩
    by_cases hlt : j < n - 1
    · have hlt' : ((j + 1 : Nat) : Int) < fszI fs e.name := by omega
      have hk := hel (j + 1) (by omega)
      have w1 : IntKind.i64.wrap (((j + 1 : Nat) : Int) + 1) = ((j + 1 + 1 : Nat) : Int) := by rw [wrap_i64 (by omega) (by omega)]; omega
      have hch : sumX e.name (j + 1) = .mk 7 0 ⟨#[]⟩ [sumX e.name j, elE e.name (j + 1)] := rfl
      generalize sumX e.name j = C at hch ⊢
      simp -dsimp -implicitDefEqProofs only [aw, slots0, V.copy, V.lend, V.lend1, V.cells, V.boxable, over, bldV, boundV, rowsOf, plains, V.plain, Nat.reduceLeDiff, cond_true, cond_false, implies_true, eq_self, ne_eq, reduceIte, reduceCtorEq, Nat.reduceBEq, Nat.reduceLT, Nat.reduceEqDiff, Nat.reduceAdd, Nat.reduceSub, Nat.reduceMul, h.at2, mget_kvF, mres_fsz, decide_eq_true hlt']
      refine calm_ret (hk _) ?_
      simp -dsimp -implicitDefEqProofs only [aw, slots0, V.copy, V.lend, V.lend1, V.cells, V.boxable, over, bldV, boundV, rowsOf, plains, V.plain, Nat.reduceLeDiff, cond_true, cond_false, implies_true, eq_self, ne_eq, reduceIte, reduceCtorEq, Nat.reduceBEq, Nat.reduceLT, Nat.reduceEqDiff, Nat.reduceAdd, Nat.reduceSub, Nat.reduceMul, w1]
      refine ⟨hlt, Nxt.same (by simp) (boxesBelow_app hb rfl) (by simp [slotsBelow, V.under]; omega) ⟨rfl, ?_⟩⟩
      rw [hch]
      simp only [Ex.args, Ex.op, Ex.num, Ex.name, List.map_cons, List.map_nil, dex_eq, elE]
    · have hlt' : ¬ ((j + 1 : Nat) : Int) < fszI fs e.name := by omega
      have : j = n - 1 := by omega
      subst this
      simp -dsimp -implicitDefEqProofs only [aw, slots0, V.copy, V.lend, V.lend1, V.cells, V.boxable, over, bldV, boundV, rowsOf, plains, V.plain, Nat.reduceLeDiff, cond_true, cond_false, implies_true, eq_self, ne_eq, reduceIte, reduceCtorEq, Nat.reduceBEq, Nat.reduceLT, Nat.reduceEqDiff, Nat.reduceAdd, Nat.reduceSub, Nat.reduceMul, h.at2, mget_kvF, mres_fsz, decide_eq_false hlt']
      rw [vex_eq]
      generalize sumX e.name (n - 1) = C
      exact fin_ret (v := .agg [.d (dint C.op), .d (dint C.num), .d (dstr C.name), .d (.sl (C.args.map dex))]) hb (by simp [rs31, resV, res1, aw, slots0, V.copy, V.lend, V.lend1, V.cells, V.boxable, over, bldV, boundV, rowsOf, plains, V.plain, Nat.reduceLeDiff, cond_true, cond_false, implies_true, eq_self, ne_eq, reduceIte, reduceCtorEq, Nat.reduceBEq, Nat.reduceLT, Nat.reduceEqDiff, Nat.reduceAdd, Nat.reduceSub, Nat.reduceMul]) rfl List.take_left ⟨rfl, rfl⟩
  simp -dsimp -implicitDefEqProofs only [aw, slots0, V.copy, V.lend, V.lend1, V.cells, V.boxable, over, bldV, boundV, rowsOf, plains, V.plain, Nat.reduceLeDiff, cond_true, cond_false, implies_true, eq_self, ne_eq, reduceIte, reduceCtorEq, Nat.reduceBEq, Nat.reduceLT, Nat.reduceEqDiff, Nat.reduceAdd, Nat.reduceSub, Nat.reduceMul, vex_eq, decide_eq_false o24, List.length_map]
  refine awp_for (R := fun (j : Nat) ρ σ' => ρ = [(0, .mp i), (3, .ptr σ.length 0), (4, .ptr (σ.length + 1) 0), (7, .own 43 4 ((e.args.take j).map fun a => dex (scE fs a))), (33, .d (.sl (e.args.map dex))), (34, vint .i64 e.args.length), (35, vint .i64 j)] ∧
    σ' = σ ++ [[.d (dint e.op), .d (dint e.num), .d (dstr e.name), .d (.sl (e.args.map dex))], [.d (dint 0), .d (dint 0), .d (dstr ⟨#[]⟩), .nil]]) e.args.length ⟨rfl, rfl⟩ ?_ _
  rintro j ρ' σ' hj ⟨rfl, rfl⟩
  by_cases hlt : j < e.args.length
  · have htk : (e.args.take (j + 1)).map (fun a => dex (scE fs a)) = (e.args.take j).map (fun a => dex (scE fs a)) ++ [dex (scE fs e.args[j])] := by rw [List.take_add_one, List.getElem?_eq_getElem hlt, List.map_append]; rfl
    have hel := args_size (List.getElem_mem hlt)
    have hc := fun σ h => ih e.args[j] (List.getElem_mem hlt) ((SOkL_mem fs).1 hs'.2.2.2.2.2 _ (List.getElem_mem hlt)) (hnn.arg (List.getElem_mem hlt)) (by omega) (tE_arg hs (List.getElem_mem hlt) ht) σ h
    simp only [vex_eq] at hc
    have hxx : e.args[j]? = some e.args[j] := List.getElem?_eq_getElem hlt
    have hlen : ((e.args.take j).map fun a => dex (scE fs a)).length ≤ 1000000 := by rw [List.length_map, List.length_take]; omega
    generalize e.args[j] = a at hc hxx htk
    have wj := wrap_nat hlt (show e.args.length ≤ 9223372036854775807 by omega)
    simp -dsimp -implicitDefEqProofs only [aw, slots0, V.copy, V.lend, V.lend1, V.cells, V.boxable, over, bldV, boundV, rowsOf, plains, V.plain, Nat.reduceLeDiff, cond_true, cond_false, implies_true, eq_self, ne_eq, reduceIte, reduceCtorEq, Nat.reduceBEq, Nat.reduceLT, Nat.reduceEqDiff, Nat.reduceAdd, Nat.reduceSub, Nat.reduceMul, Int.ofNat_lt, hlt, decide_true, hxx, dex_eq a]
    refine fun_ret (hc _ (h.app _)) ?_
    simp -dsimp -implicitDefEqProofs only [aw, slots0, V.copy, V.lend, V.lend1, V.cells, V.boxable, over, bldV, boundV, rowsOf, plains, V.plain, Nat.reduceLeDiff, cond_true, cond_false, implies_true, eq_self, ne_eq, reduceIte, reduceCtorEq, Nat.reduceBEq, Nat.reduceLT, Nat.reduceEqDiff, Nat.reduceAdd, Nat.reduceSub, Nat.reduceMul]
    refine onT_intro (by first | omega | (simp only [List.length_map] at *; omega)) ?_
    simp -dsimp -implicitDefEqProofs only [aw, slots0, V.copy, V.lend, V.lend1, V.cells, V.boxable, over, bldV, boundV, rowsOf, plains, V.plain, Nat.reduceLeDiff, cond_true, cond_false, implies_true, eq_self, ne_eq, reduceIte, reduceCtorEq, Nat.reduceBEq, Nat.reduceLT, Nat.reduceEqDiff, Nat.reduceAdd, Nat.reduceSub, Nat.reduceMul, wj]
    refine ⟨hlt, Nxt.keep2 (Nat.le_refl _) (boxesBelow_app hb rfl) (by simp [slotsBelow, V.under]; omega) ⟨?_, rfl⟩⟩
    rw [htk, dex_eq (scE fs a)]
  · have hall : e.args.take j = e.args := List.take_of_length_le (by omega)
    rw [hall]
    by_cases o3 : e.op = 3
    · obtain ⟨a, ha⟩ := hs'.2.1 o3
      have hSa : SOk fs a := (SOkL_mem fs).1 hs'.2.2.2.2.2 a (by simp [ha])
      have hna : NN a := hnn.arg (by simp [ha])
      obtain ⟨g1, g2, g3⟩ := hs'.1 (.inl o3)
      have hta := tE_arg hs (a := a) (by simp [ha]) ht
      have hszx := sc_size fs a hSa
      have hres : scE fs e = elmX fs e.name (scE fs a) := by rw [scE_eq, if_neg o24, if_pos o3, ha]; simp only [scL]
      have hmap : (e.args.map fun a => dex (scE fs a)) = [dex (scE fs a)] := by rw [ha]; rfl
      rw [hres, hmap]
      have hcf := fun σ h => choice_fun i fs e.name (scE fs a) g1 g2 g3 (okN_sc hSa hna) (by omega) (sc_num hSa hna) σ h
      generalize scE fs a = A at hcf ⊢
      generalize elmX fs e.name A = E at hcf ⊢
      simp only [vex_eq] at hcf
      simp -dsimp -implicitDefEqProofs only [aw, slots0, V.copy, V.lend, V.lend1, V.cells, V.boxable, over, bldV, boundV, rowsOf, plains, V.plain, Nat.reduceLeDiff, cond_true, cond_false, implies_true, eq_self, ne_eq, reduceIte, reduceCtorEq, Nat.reduceBEq, Nat.reduceLT, Nat.reduceEqDiff, Nat.reduceAdd, Nat.reduceSub, Nat.reduceMul, Int.ofNat_lt, hlt, decide_false, o3, Int.reduceEq, decide_true, dex_eq A, iax0]
      refine calm_ret (hcf _ (h.app _)) ?_
      simp -dsimp -implicitDefEqProofs only [aw, slots0, V.copy, V.lend, V.lend1, V.cells, V.boxable, over, bldV, boundV, rowsOf, plains, V.plain, Nat.reduceLeDiff, cond_true, cond_false, implies_true, eq_self, ne_eq, reduceIte, reduceCtorEq, Nat.reduceBEq, Nat.reduceLT, Nat.reduceEqDiff, Nat.reduceAdd, Nat.reduceSub, Nat.reduceMul]
      rw [vex_eq]
      exact fin_ret (v := .agg [.d (dint E.op), .d (dint E.num), .d (dstr E.name), .d (.sl (E.args.map dex))]) hb (by simp [rs31, resV, res1, aw, slots0, V.copy, V.lend, V.lend1, V.cells, V.boxable, over, bldV, boundV, rowsOf, plains, V.plain, Nat.reduceLeDiff, cond_true, cond_false, implies_true, eq_self, ne_eq, reduceIte, reduceCtorEq, Nat.reduceBEq, Nat.reduceLT, Nat.reduceEqDiff, Nat.reduceAdd, Nat.reduceSub, Nat.reduceMul]) rfl List.take_left ⟨rfl, rfl⟩
    · have hres : scE fs e = .mk e.op e.num e.name (e.args.map (scE fs)) := by rw [scE_eq, if_neg o24, if_neg o3, scL_map]
      rw [hres]
      simp -dsimp -implicitDefEqProofs only [aw, slots0, V.copy, V.lend, V.lend1, V.cells, V.boxable, over, bldV, boundV, rowsOf, plains, V.plain, Nat.reduceLeDiff, cond_true, cond_false, implies_true, eq_self, ne_eq, reduceIte, reduceCtorEq, Nat.reduceBEq, Nat.reduceLT, Nat.reduceEqDiff, Nat.reduceAdd, Nat.reduceSub, Nat.reduceMul, Int.ofNat_lt, hlt, decide_false, decide_eq_false o3]
      rw [vex_eq]
      exact fin_ret (v := .agg [.d (dint e.op), .d (dint e.num), .d (dstr e.name), .d (.sl ((e.args.map (scE fs)).map dex))]) hb (by simp [rs31, resV, res1, Function.comp_def, aw, slots0, V.copy, V.lend, V.lend1, V.cells, V.boxable, over, bldV, boundV, rowsOf, plains, V.plain, Nat.reduceLeDiff, cond_true, cond_false, implies_true, eq_self, ne_eq, reduceIte, reduceCtorEq, Nat.reduceBEq, Nat.reduceLT, Nat.reduceEqDiff, Nat.reduceAdd, Nat.reduceSub, Nat.reduceMul]) rfl List.take_left ⟨rfl, rfl⟩
theorem vzero : vex zeroE = .agg [.d (dint 0), .d (dint 0), .d (dstr ⟨#[]⟩), .d (.sl [])] := by rw [vex_eq]; rfl
theorem nn_of {e : Ex} (h : errE e = 0) : NN e := fun n hn ho => const_pos e h n hn ho
set_option maxHeartbeats 4000000 in
theorem scalar_item (e : Ex) (c : Cl) (hsz : esize e ≤ 1000000) (hs : SmallF (fldS c)) (hc : c.fields.length ≤ 1000000) (σ : List (List V)) : Fun G 14 [vex e, vcl c] σ (RetV (.tup [vex (scalarI splE (fldS c) e).1, .d (dint (scalarI splE (fldS c) e).2)]) σ) := by
  have hz := sz8_of hs
  have hf : ∀ s, fszI (fldS c) s ≤ 8 := fun s => by
    unfold fszI
    cases hx : fsz (fldS c) s with
    | none => show (0 : Int) ≤ 8; omega
    | some n => exact (hz s n hx).2
  refine fun_code Tryd.func14 k14 (by simp only [vex_eq]; rfl) fun hb hw => ?_
  delta c14 oM oV kI kS kT kF
  have hv := fun σ => fun_valid e hsz (by have := depth_le e; omega) σ
  simp only [vex_eq] at hv
  have hx := fun he i σ h => expression_fun i (fldS c) hz e [] hsz (vars_ok _ he) σ h
  simp only [vex_eq, dstrs, List.map_nil] at hx
  have hp := fun hS i σ h => psize_fun i (fldS c) hf e hS hsz σ h
  simp only [vex_eq] at hp
  have hsc := fun hS hn ht i σ h => scalar_fun i (fldS c) hf e hS hn hsz ht σ h
  simp only [vex_eq] at hsc
  simp -dsimp -implicitDefEqProofs only [aw, slots0, V.copy, V.lend, V.lend1, V.cells, V.boxable, over, bldV, boundV, rowsOf, plains, V.plain, Nat.reduceLeDiff, cond_true, cond_false, implies_true, eq_self, ne_eq, reduceIte, reduceCtorEq, Nat.reduceBEq, Nat.reduceLT, Nat.reduceEqDiff, Nat.reduceAdd, Nat.reduceSub, Nat.reduceMul, vex_eq]
  refine fun_ret (hv _) ?_
  by_cases h0 : validE e = 0
  case neg =>
    have hres : scalarI splE (fldS c) e = (zeroE, validE e) := by unfold scalarI; rw [if_pos h0]
    rw [hres, ← vex_eq, vzero]
    simp -dsimp -implicitDefEqProofs only [aw, slots0, V.copy, V.lend, V.lend1, V.cells, V.boxable, over, bldV, boundV, rowsOf, plains, V.plain, Nat.reduceLeDiff, cond_true, cond_false, implies_true, eq_self, ne_eq, reduceIte, reduceCtorEq, Nat.reduceBEq, Nat.reduceLT, Nat.reduceEqDiff, Nat.reduceAdd, Nat.reduceSub, Nat.reduceMul, decide_eq_false h0]
    exact fin_ret (v := .tup [.agg [.d (dint 0), .d (dint 0), .d (dstr ⟨#[]⟩), .d (.sl [])], .d (dint (validE e))]) hb (by simp [rs14, resV, resL, res1, aw, slots0, V.copy, V.lend, V.lend1, V.cells, V.boxable, over, bldV, boundV, rowsOf, plains, V.plain, Nat.reduceLeDiff, cond_true, cond_false, implies_true, eq_self, ne_eq, reduceIte, reduceCtorEq, Nat.reduceBEq, Nat.reduceLT, Nat.reduceEqDiff, Nat.reduceAdd, Nat.reduceSub, Nat.reduceMul]) rfl List.take_left ⟨rfl, rfl⟩
  have he := validE_err h0
  simp -dsimp -implicitDefEqProofs only [aw, slots0, V.copy, V.lend, V.lend1, V.cells, V.boxable, over, bldV, boundV, rowsOf, plains, V.plain, Nat.reduceLeDiff, cond_true, cond_false, implies_true, eq_self, ne_eq, reduceIte, reduceCtorEq, Nat.reduceBEq, Nat.reduceLT, Nat.reduceEqDiff, Nat.reduceAdd, Nat.reduceSub, Nat.reduceMul, h0, decide_true]
  refine fun_mono (of_fun c hs hc _) ?_
  rintro o σ' ⟨rfl, rfl⟩
  rw [retK_ret]
  simp -dsimp -implicitDefEqProofs only [aw, slots0, V.copy, V.lend, V.lend1, V.cells, V.boxable, over, bldV, boundV, rowsOf, plains, V.plain, Nat.reduceLeDiff, cond_true, cond_false, implies_true, eq_self, ne_eq, reduceIte, reduceCtorEq, Nat.reduceBEq, Nat.reduceLT, Nat.reduceEqDiff, Nat.reduceAdd, Nat.reduceSub, Nat.reduceMul]
  have hFB : ∀ L, FB (σ ++ [[V.d (dint e.op), V.d (dint e.num), V.d (dstr e.name), V.d (D.sl (List.map dex e.args))], clsC c, [V.d (dint 0), V.d (dint 0), V.d (dstr ⟨#[]⟩), V.nil], clsC c, [V.mapc true (kvF (fldS c))]] ++ L) (σ.length + 3 + 1) (fldS c) := fun L => by
    unfold FB; rw [List.append_assoc, List.getElem?_append_right (by omega), show σ.length + 3 + 1 - σ.length = 4 by omega]; rfl
  have hFB0 := hFB []
  rw [List.append_nil] at hFB0
  refine fun_ret (hx he _ _ hFB0) ?_
  by_cases hc0 : exprC splE (fldS c) [] e = 0
  case neg =>
    have hres : scalarI splE (fldS c) e = (zeroE, exprC splE (fldS c) [] e) := by unfold scalarI; rw [if_neg (by simp [h0]), if_pos hc0]
    rw [hres, ← vex_eq, vzero]
    simp -dsimp -implicitDefEqProofs only [aw, slots0, V.copy, V.lend, V.lend1, V.cells, V.boxable, over, bldV, boundV, rowsOf, plains, V.plain, Nat.reduceLeDiff, cond_true, cond_false, implies_true, eq_self, ne_eq, reduceIte, reduceCtorEq, Nat.reduceBEq, Nat.reduceLT, Nat.reduceEqDiff, Nat.reduceAdd, Nat.reduceSub, Nat.reduceMul, decide_eq_false hc0]
    exact fin_ret (v := .tup [.agg [.d (dint 0), .d (dint 0), .d (dstr ⟨#[]⟩), .d (.sl [])], .d (dint (exprC splE (fldS c) [] e))]) hb (by simp [rs14, resV, resL, res1, aw, slots0, V.copy, V.lend, V.lend1, V.cells, V.boxable, over, bldV, boundV, rowsOf, plains, V.plain, Nat.reduceLeDiff, cond_true, cond_false, implies_true, eq_self, ne_eq, reduceIte, reduceCtorEq, Nat.reduceBEq, Nat.reduceLT, Nat.reduceEqDiff, Nat.reduceAdd, Nat.reduceSub, Nat.reduceMul]) rfl List.take_left ⟨rfl, rfl⟩
  have hS := SOk_of splE (fldS c) hf e he hc0
  simp -dsimp -implicitDefEqProofs only [aw, slots0, V.copy, V.lend, V.lend1, V.cells, V.boxable, over, bldV, boundV, rowsOf, plains, V.plain, Nat.reduceLeDiff, cond_true, cond_false, implies_true, eq_self, ne_eq, reduceIte, reduceCtorEq, Nat.reduceBEq, Nat.reduceLT, Nat.reduceEqDiff, Nat.reduceAdd, Nat.reduceSub, Nat.reduceMul, hc0, decide_true]
  refine fun_ret (hp hS _ _ hFB0) ?_
  by_cases h4 : 400 < psE (fldS c) e
  · have hres := scalar_big splE (fldS c) hf h0 hc0 (.inl h4)
    have h4' : (400 : Int) < (psE (fldS c) e : Nat) := by omega
    rw [hres, ← vex_eq, vzero]
    simp -dsimp -implicitDefEqProofs only [aw, slots0, V.copy, V.lend, V.lend1, V.cells, V.boxable, over, bldV, boundV, rowsOf, plains, V.plain, Nat.reduceLeDiff, cond_true, cond_false, implies_true, eq_self, ne_eq, reduceIte, reduceCtorEq, Nat.reduceBEq, Nat.reduceLT, Nat.reduceEqDiff, Nat.reduceAdd, Nat.reduceSub, Nat.reduceMul, decide_eq_true h4']
    exact fin_ret (v := .tup [.agg [.d (dint 0), .d (dint 0), .d (dstr ⟨#[]⟩), .d (.sl [])], .d (dint 2)]) hb (by simp [rs14, resV, resL, res1, aw, slots0, V.copy, V.lend, V.lend1, V.cells, V.boxable, over, bldV, boundV, rowsOf, plains, V.plain, Nat.reduceLeDiff, cond_true, cond_false, implies_true, eq_self, ne_eq, reduceIte, reduceCtorEq, Nat.reduceBEq, Nat.reduceLT, Nat.reduceEqDiff, Nat.reduceAdd, Nat.reduceSub, Nat.reduceMul]) rfl List.take_left ⟨rfl, rfl⟩
  have h4' : ¬ (400 : Int) < (psE (fldS c) e : Nat) := by omega
  have ht : tE (fldS c) e ≤ 400 := by have := ps_t (fldS c) e hS; omega
  have hszx := sc_size (fldS c) e hS
  simp -dsimp -implicitDefEqProofs only [aw, slots0, V.copy, V.lend, V.lend1, V.cells, V.boxable, over, bldV, boundV, rowsOf, plains, V.plain, Nat.reduceLeDiff, cond_true, cond_false, implies_true, eq_self, ne_eq, reduceIte, reduceCtorEq, Nat.reduceBEq, Nat.reduceLT, Nat.reduceEqDiff, Nat.reduceAdd, Nat.reduceSub, Nat.reduceMul, decide_eq_false h4']
  refine fun_ret (hsc hS (nn_of he) ht _ _ hFB0) ?_
  have hr1 : validE (scE (fldS c) e) ≠ 0 → scalarI splE (fldS c) e = (zeroE, 2) := fun h => by unfold scalarI; rw [if_neg (by simp [h0]), if_neg (by simp [hc0]), if_pos h]
  have hr2 : validE (scE (fldS c) e) = 0 → scalarI splE (fldS c) e = (scE (fldS c) e, 0) := fun h => by unfold scalarI; rw [if_neg (by simp [h0]), if_neg (by simp [hc0]), if_neg (by simp [h])]
  have hvA := fun σ => fun_valid (scE (fldS c) e) (by omega) (by have := depth_le (scE (fldS c) e); omega) σ
  generalize scE (fldS c) e = A at hr1 hr2 hvA ⊢
  simp only [vex_eq] at hvA
  simp -dsimp -implicitDefEqProofs only [aw, slots0, V.copy, V.lend, V.lend1, V.cells, V.boxable, over, bldV, boundV, rowsOf, plains, V.plain, Nat.reduceLeDiff, cond_true, cond_false, implies_true, eq_self, ne_eq, reduceIte, reduceCtorEq, Nat.reduceBEq, Nat.reduceLT, Nat.reduceEqDiff, Nat.reduceAdd, Nat.reduceSub, Nat.reduceMul]
  refine fun_ret (hvA _) ?_
  by_cases hvz : validE A = 0
  · rw [hr2 hvz, ← vex_eq, vex_eq]
    simp -dsimp -implicitDefEqProofs only [aw, slots0, V.copy, V.lend, V.lend1, V.cells, V.boxable, over, bldV, boundV, rowsOf, plains, V.plain, Nat.reduceLeDiff, cond_true, cond_false, implies_true, eq_self, ne_eq, reduceIte, reduceCtorEq, Nat.reduceBEq, Nat.reduceLT, Nat.reduceEqDiff, Nat.reduceAdd, Nat.reduceSub, Nat.reduceMul, hvz, decide_true]
    exact fin_ret (v := .tup [.agg [.d (dint A.op), .d (dint A.num), .d (dstr A.name), .d (.sl (A.args.map dex))], .d (dint 0)]) hb (by simp [rs14, resV, resL, res1, aw, slots0, V.copy, V.lend, V.lend1, V.cells, V.boxable, over, bldV, boundV, rowsOf, plains, V.plain, Nat.reduceLeDiff, cond_true, cond_false, implies_true, eq_self, ne_eq, reduceIte, reduceCtorEq, Nat.reduceBEq, Nat.reduceLT, Nat.reduceEqDiff, Nat.reduceAdd, Nat.reduceSub, Nat.reduceMul]) rfl List.take_left ⟨rfl, rfl⟩
  · rw [hr1 hvz, ← vex_eq, vzero]
    simp -dsimp -implicitDefEqProofs only [aw, slots0, V.copy, V.lend, V.lend1, V.cells, V.boxable, over, bldV, boundV, rowsOf, plains, V.plain, Nat.reduceLeDiff, cond_true, cond_false, implies_true, eq_self, ne_eq, reduceIte, reduceCtorEq, Nat.reduceBEq, Nat.reduceLT, Nat.reduceEqDiff, Nat.reduceAdd, Nat.reduceSub, Nat.reduceMul, decide_eq_false hvz]
    exact fin_ret (v := .tup [.agg [.d (dint 0), .d (dint 0), .d (dstr ⟨#[]⟩), .d (.sl [])], .d (dint 2)]) hb (by simp [rs14, resV, resL, res1, aw, slots0, V.copy, V.lend, V.lend1, V.cells, V.boxable, over, bldV, boundV, rowsOf, plains, V.plain, Nat.reduceLeDiff, cond_true, cond_false, implies_true, eq_self, ne_eq, reduceIte, reduceCtorEq, Nat.reduceBEq, Nat.reduceLT, Nat.reduceEqDiff, Nat.reduceAdd, Nat.reduceSub, Nat.reduceMul]) rfl List.take_left ⟨rfl, rfl⟩
end Go.Proofs.YthoebpnbhgmoiaaDoor
