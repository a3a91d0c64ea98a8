/-
  tseq.names.
-/
import Derived.Test.YtbhippphcmkjnaaGreatDoorGrow
import Derived.Test.YtbhippphcmkjnaaGreatDoorTInt
set_option linter.unusedVariables false
set_option linter.unusedSimpArgs false
namespace Go.Proofs.YtbhippphcmkjnaaGreatDoor
open Go.RowKit

abbrev ownS (l : List ByteArray) : V := .own 9 1 (l.map fun s => [dstr s])
theorem folds_fun (val : Ts → List ByteArray) (f : FuncId) (P : Ts → Prop) (hP : ∀ s, P s → ∀ a, a ∈ s.args → P a) (hB : ∀ s, P s → tbig s ≤ 1000000)
    (hf : ∀ s, P s → ∀ σ, FunO G f [vts s] 34 1 (s.args.map fun a => [D.sl ((val a).map fun s => [dstr s])]) [] σ (RetV (ownS (val s)) σ)) (s : Ts) :
    P s → ∀ σ, Fun G 53 [vts s, .fn f []] σ (RetV (ownS (val s)) σ) := by
  induction s using Ts.ind with
  | h s ih =>
  intro hs σ
  have hbig := hB s hs
  have hln := tbig_len s
  refine fun_code Tryz.func53 k53 (by simp only [vts_eq]; rfl) fun hb hw => ?_
  unfold c53
  simp -dsimp -implicitDefEqProofs only [aw, slots0, V.copy, V.lend, V.lend1, V.cells, V.boxable, over, bldV, boundV, rowsOf, plains, V.plain, Nat.reduceLeDiff, cond_true, cond_false, implies_true, eq_self, ne_eq, reduceIte, reduceCtorEq, Nat.reduceBEq, Nat.reduceLT, Nat.reduceEqDiff, Nat.reduceAdd, Nat.reduceSub, Nat.reduceMul, vts_eq]
  refine onT_intro (by omega) ?_
  simp -dsimp -implicitDefEqProofs only [aw, slots0, V.copy, V.lend, V.lend1, V.cells, V.boxable, over, bldV, boundV, rowsOf, plains, V.plain, Nat.reduceLeDiff, cond_true, cond_false, implies_true, eq_self, ne_eq, reduceIte, reduceCtorEq, Nat.reduceBEq, Nat.reduceLT, Nat.reduceEqDiff, Nat.reduceAdd, Nat.reduceSub, Nat.reduceMul]
  refine awp_forK [1, 2, 5, 13, 14, 15] (R := fun (j : Nat) ρ σ' => ρ = [(1, .fn f []), (2, .ptr σ.length 0), (5, .own 34 1 ((s.args.take j).map fun a => [D.sl ((val a).map fun s => [dstr s])])), (13, .d (.sl (s.args.map dts))), (14, vint .i64 s.args.length), (15, vint .i64 j)] ∧ σ' = σ ++ [[.d (dint s.op), .d (dint s.lo), .d (dint s.hi), .d (dint s.ex.op), .d (dint s.ex.num), .d (dstr s.ex.name), .d (.sl (s.ex.args.map dex)), .d (dstr s.name), .d (.sl (s.args.map dts))]]) s.args.length ⟨rfl, rfl⟩ ?_ _
  rintro j ρ' σ' hj ⟨rfl, rfl⟩
  by_cases hlt : j < s.args.length
  · simp -dsimp -implicitDefEqProofs only [aw, slots0, V.copy, V.lend, V.lend1, V.cells, V.boxable, over, bldV, boundV, rowsOf, plains, V.plain, Nat.reduceLeDiff, cond_true, cond_false, implies_true, eq_self, ne_eq, reduceIte, reduceCtorEq, Nat.reduceBEq, Nat.reduceLT, Nat.reduceEqDiff, Nat.reduceAdd, Nat.reduceSub, Nat.reduceMul, Int.ofNat_lt, hlt, decide_true, List.getElem?_eq_getElem hlt, dts_eq s.args[j]]
    refine fun_ret (by simpa only [vts_eq] using ih s.args[j] (List.getElem_mem hlt) (hP s hs _ (List.getElem_mem hlt)) _) ?_
    have ht : s.args.take (j + 1) = s.args.take j ++ [s.args[j]] := by rw [List.take_add_one, List.getElem?_eq_getElem hlt]; rfl
    simp -dsimp -implicitDefEqProofs only [aw, slots0, V.copy, V.lend, V.lend1, V.cells, V.boxable, over, bldV, boundV, rowsOf, plains, V.plain, Nat.reduceLeDiff, cond_true, cond_false, implies_true, eq_self, ne_eq, reduceIte, reduceCtorEq, Nat.reduceBEq, Nat.reduceLT, Nat.reduceEqDiff, Nat.reduceAdd, Nat.reduceSub, Nat.reduceMul]
    refine onT_intro (by first | omega | (simp only [List.length_map, List.length_take]; omega)) ?_
    simp -dsimp -implicitDefEqProofs only [aw, slots0, V.copy, V.lend, V.lend1, V.cells, V.boxable, over, bldV, boundV, rowsOf, plains, V.plain, Nat.reduceLeDiff, cond_true, cond_false, implies_true, eq_self, ne_eq, reduceIte, reduceCtorEq, Nat.reduceBEq, Nat.reduceLT, Nat.reduceEqDiff, Nat.reduceAdd, Nat.reduceSub, Nat.reduceMul, wrap_nat hlt (show s.args.length ≤ 9223372036854775807 by omega)]
    refine ⟨hlt, Nxt.drop1 (Nat.le_refl _) (boxesBelow_app hb rfl) (by simp [slotsBelow, V.under, V.unders]) ⟨?_, rfl⟩⟩
    rw [ht, List.map_append]; rfl
  · simp -dsimp -implicitDefEqProofs only [aw, slots0, V.copy, V.lend, V.lend1, V.cells, V.boxable, over, bldV, boundV, rowsOf, plains, V.plain, Nat.reduceLeDiff, cond_true, cond_false, implies_true, eq_self, ne_eq, reduceIte, reduceCtorEq, Nat.reduceBEq, Nat.reduceLT, Nat.reduceEqDiff, Nat.reduceAdd, Nat.reduceSub, Nat.reduceMul, Int.ofNat_lt, hlt, decide_false]
    rw [List.take_of_length_le (show s.args.length ≤ j by omega)]
    refine funo_ret (by simpa only [vts_eq] using hf s hs _) ?_
    simp -dsimp -implicitDefEqProofs only [aw, slots0, V.copy, V.lend, V.lend1, V.cells, V.boxable, over, bldV, boundV, rowsOf, plains, V.plain, Nat.reduceLeDiff, cond_true, cond_false, implies_true, eq_self, ne_eq, reduceIte, reduceCtorEq, Nat.reduceBEq, Nat.reduceLT, Nat.reduceEqDiff, Nat.reduceAdd, Nat.reduceSub, Nat.reduceMul]
    exact fin_ret hb rfl rfl List.take_left ⟨rfl, rfl⟩

mutual
/-- The names that are set: those of the parts, then one's own. -/
def tnm : Ts → List ByteArray
  | .mk o _ _ _ s l => tnms l ++ (if o = 6 then [s] else [])
def tnms : List Ts → List ByteArray
  | [] => []
  | a :: r => tnm a ++ tnms r
end
theorem tnms_flat (l : List Ts) : tnms l = (l.map tnm).flatten := by
  induction l with
  | nil => rfl
  | cons a r ih => simp only [tnms, ih, List.map_cons, List.flatten_cons]
theorem tnm_eq (s : Ts) : tnm s = (s.args.map tnm).flatten ++ (if s.op = 6 then [s.name] else []) := by cases s; simp only [tnm, tnms_flat, Ts.args, Ts.op, Ts.name]; rfl
theorem tnm_len (s : Ts) : (tnm s).length ≤ tsz s := by
  induction s using Ts.ind with
  | h s ih =>
  rw [tnm_eq, tsz_eq, List.length_append, List.length_flatten, List.map_map]
  have H : ∀ l : List Ts, (∀ a, a ∈ l → (tnm a).length ≤ tsz a) → (l.map (List.length ∘ tnm)).sum ≤ (l.map tsz).sum := by
    intro l
    induction l with
    | nil => intro _; simp
    | cons a r ihr =>
      intro h
      have h1 := h a (by simp)
      have h2 := ihr (fun x hx => h x (by simp [hx]))
      show (tnm a).length + (r.map (List.length ∘ tnm)).sum ≤ tsz a + (r.map tsz).sum
      omega
  have := H s.args ih
  split <;> simp only [List.length_cons, List.length_nil] <;> omega
theorem tnmc_fun (s : Ts) (hs : tbig s ≤ 1000000) (σ : List (List V)) : FunO G 54 [vts s] 34 1 (s.args.map fun a => [D.sl ((tnm a).map fun s => [dstr s])]) [] σ (RetV (ownS (tnm s)) σ) := by
  have h1 := tnm_eq s
  have h2 := tnm_len s
  have h3 := tbig_len s
  have h4 := tsz_le s
  have h5 : ((s.args.map tnm).map List.length).sum ≤ (tnm s).length := by rw [h1, List.length_append, List.length_flatten]; omega
  refine funo_code Tryz.func54 k54 (by simp only [vts_eq]; rfl) fun hb hw => ?_
  unfold c54
  simp -dsimp -implicitDefEqProofs only [aw, slots0, V.copy, V.lend, V.lend1, V.cells, V.boxable, over, bldV, boundV, rowsOf, plains, V.plain, Nat.reduceLeDiff, cond_true, cond_false, implies_true, eq_self, ne_eq, reduceIte, reduceCtorEq, Nat.reduceBEq, Nat.reduceLT, Nat.reduceEqDiff, Nat.reduceAdd, Nat.reduceSub, Nat.reduceMul, vts_eq]
  have hc := concat_fun (s.args.map tnm) (by omega) (by rw [List.length_map]; omega) (σ ++ [[.d (dint s.op), .d (dint s.lo), .d (dint s.hi), .d (dint s.ex.op), .d (dint s.ex.num), .d (dstr s.ex.name), .d (.sl (s.ex.args.map dex)), .d (dstr s.name), .d (.sl (s.args.map dts))]])
  rw [List.map_map] at hc
  refine fun_ret hc ?_
  by_cases ho : s.op = 6
  · rw [if_pos ho] at h1
    have h6 : (tnm s).length = ((s.args.map tnm).flatten.map fun s => [dstr s]).length + 1 := by rw [h1, List.length_append, List.length_map]; rfl
    simp -dsimp -implicitDefEqProofs only [aw, slots0, V.copy, V.lend, V.lend1, V.cells, V.boxable, over, bldV, boundV, rowsOf, plains, V.plain, Nat.reduceLeDiff, cond_true, cond_false, implies_true, eq_self, ne_eq, reduceIte, reduceCtorEq, Nat.reduceBEq, Nat.reduceLT, Nat.reduceEqDiff, Nat.reduceAdd, Nat.reduceSub, Nat.reduceMul, decide_eq_true ho]
    refine onT_intro (by simp only [List.length_map] at h6 ⊢; omega) ?_
    simp -dsimp -implicitDefEqProofs only [aw, slots0, V.copy, V.lend, V.lend1, V.cells, V.boxable, over, bldV, boundV, rowsOf, plains, V.plain, Nat.reduceLeDiff, cond_true, cond_false, implies_true, eq_self, ne_eq, reduceIte, reduceCtorEq, Nat.reduceBEq, Nat.reduceLT, Nat.reduceEqDiff, Nat.reduceAdd, Nat.reduceSub, Nat.reduceMul]
    exact fin_ret (v := ownS (tnm s)) hb (by rw [h1]; simp [rs54, resV, res1, ownS, aw, slots0, V.copy, V.lend, V.lend1, V.cells, V.boxable, over, bldV, boundV, rowsOf, plains, V.plain, Nat.reduceLeDiff, cond_true, cond_false, implies_true, eq_self, ne_eq, reduceIte, reduceCtorEq, Nat.reduceBEq, Nat.reduceLT, Nat.reduceEqDiff, Nat.reduceAdd, Nat.reduceSub, Nat.reduceMul]) rfl List.take_left ⟨rfl, rfl⟩
  · rw [if_neg ho, List.append_nil] at h1
    simp -dsimp -implicitDefEqProofs only [aw, slots0, V.copy, V.lend, V.lend1, V.cells, V.boxable, over, bldV, boundV, rowsOf, plains, V.plain, Nat.reduceLeDiff, cond_true, cond_false, implies_true, eq_self, ne_eq, reduceIte, reduceCtorEq, Nat.reduceBEq, Nat.reduceLT, Nat.reduceEqDiff, Nat.reduceAdd, Nat.reduceSub, Nat.reduceMul, decide_eq_false ho]
    exact fin_ret (v := ownS (tnm s)) hb (by rw [h1]; rfl) rfl List.take_left ⟨rfl, rfl⟩
theorem tnm_fun (s : Ts) (hs : tbig s ≤ 1000000) (σ : List (List V)) : Fun G 31 [vts s] σ (RetV (ownS (tnm s)) σ) := by
  refine fun_code Tryz.func31 k31 (by simp only [vts_eq]; rfl) fun hb hw => ?_
  unfold c31
  simp -dsimp -implicitDefEqProofs only [aw, slots0, V.copy, V.lend, V.lend1, V.cells, V.boxable, over, bldV, boundV, rowsOf, plains, V.plain, Nat.reduceLeDiff, cond_true, cond_false, implies_true, eq_self, ne_eq, reduceIte, reduceCtorEq, Nat.reduceBEq, Nat.reduceLT, Nat.reduceEqDiff, Nat.reduceAdd, Nat.reduceSub, Nat.reduceMul, vts_eq]
  refine fun_ret (by simpa only [vts_eq] using folds_fun tnm 54 (fun s => tbig s ≤ 1000000) (fun s h a ha => by have := tbig_arg ha; omega) (fun s h => h) (fun s h σ => tnmc_fun s h σ) s hs _) ?_
  simp -dsimp -implicitDefEqProofs only [aw, slots0, V.copy, V.lend, V.lend1, V.cells, V.boxable, over, bldV, boundV, rowsOf, plains, V.plain, Nat.reduceLeDiff, cond_true, cond_false, implies_true, eq_self, ne_eq, reduceIte, reduceCtorEq, Nat.reduceBEq, Nat.reduceLT, Nat.reduceEqDiff, Nat.reduceAdd, Nat.reduceSub, Nat.reduceMul]
  first | exact fin_ret hb rfl rfl List.take_length ⟨rfl, rfl⟩ | exact fin_ret hb rfl rfl List.take_left ⟨rfl, rfl⟩ | (trace_state; fail "fin")
end Go.Proofs.YtbhippphcmkjnaaGreatDoor
