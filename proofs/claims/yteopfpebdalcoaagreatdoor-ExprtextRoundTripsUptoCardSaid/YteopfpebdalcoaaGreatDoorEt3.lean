/-
  Printing expressions: the program's text.
-/
import Derived.Test.YteopfpebdalcoaaGreatDoorEt2
import Derived.Test.YteopfpebdalcoaaGreatDoorSame9
set_option linter.unusedVariables false
set_option linter.unusedSimpArgs false
set_option linter.unusedSectionVars false
namespace Go.Proofs.YteopfpebdalcoaaGreatDoor
open Go.RowKit
theorem ia0 (a b : Int) (c : ByteArray) (q : D) (r : List (List D)) : iaV 4 (V.d (.sl ([dint a, dint b, dstr c, q] :: r))) (V.d (D.lit (Value.int IntKind.i64 0))) = some (.row [dint a, dint b, dstr c, q] 0) := rfl
theorem ia1 (a b : Int) (c : ByteArray) (q : D) (u : List D) (r : List (List D)) : iaV 4 (V.d (.sl (u :: [dint a, dint b, dstr c, q] :: r))) (V.d (D.lit (Value.int IntKind.i64 1))) = some (.row [dint a, dint b, dstr c, q] 0) := rfl
theorem ia2 (a b : Int) (c : ByteArray) (q : D) (u u' : List D) (r : List (List D)) : iaV 4 (V.d (.sl (u :: u' :: [dint a, dint b, dstr c, q] :: r))) (V.d (D.lit (Value.int IntKind.i64 2))) = some (.row [dint a, dint b, dstr c, q] 0) := rfl
theorem mk_op (o n : Int) (s : ByteArray) (l : List Ex) : (Ex.mk o n s l).op = o := rfl
theorem mk_num (o n : Int) (s : ByteArray) (l : List Ex) : (Ex.mk o n s l).num = n := rfl
theorem mk_name (o n : Int) (s : ByteArray) (l : List Ex) : (Ex.mk o n s l).name = s := rfl
theorem mk_args (o n : Int) (s : ByteArray) (l : List Ex) : (Ex.mk o n s l).args = l := rfl
theorem bin22 : binL 22 = none := by decide +kernel
theorem bin23 : binL 23 = none := by decide +kernel
theorem at_fun {x : Ex} (k : Nat) (hl : (textE x).length ≤ 1000000) (h : ∀ σ, Fun G 17 [vex x] σ (RetV (.d (dstr (bs (textE x)))) σ)) (σ : List (List V)) : Fun G 34 [vex x, .d (dint k)] σ (RetV (.d (dstr (bs (atS k x)))) σ) := by
  refine fun_code Tryz.func34 k34 (by simp only [vex_eq]; rfl) fun hb hw => ?_
  delta c34 oM oV kI kS kT kF
  have hL := level_fun x
  have a1 : binV .add (V.d (dstr ⟨#[40]⟩)) (V.d (dstr (bs (textE x)))) = some (V.d (dstr (bs (40 :: textE x)))) := add_bs [40] (textE x) (by simp; omega)
  have a2 : binV .add (V.d (dstr (bs (40 :: textE x)))) (V.d (dstr ⟨#[41]⟩)) = some (V.d (dstr (bs (40 :: (textE x ++ [41]))))) := add_bs (40 :: textE x) [41] (by simp; omega)
  unfold atS
  generalize textE x = T at *
  generalize levO x.op = L at *
  by_cases hk : L < k
  · rw [if_pos hk]
    simp -dsimp -implicitDefEqProofs only [aw, slots0, V.copy, V.lend, V.lend1, V.cells, V.boxable, Nat.reduceLeDiff, eq_self, reduceIte, reduceCtorEq, Nat.reduceBEq, Nat.reduceLT, Nat.reduceEqDiff, Nat.reduceAdd, vex_eq]
    refine fun_ret (by simpa only [vex_eq] using hL _) ?_
    simp -dsimp -implicitDefEqProofs only [aw, V.copy, V.lend, V.lend1, Nat.reduceLeDiff, eq_self, reduceIte, Nat.reduceBEq, Nat.reduceLT, Nat.reduceEqDiff, Nat.reduceAdd, Int.ofNat_lt, hk, decide_true]
    refine fun_ret (by simpa only [vex_eq] using h _) ?_
    simp -dsimp -implicitDefEqProofs only [aw, V.copy, eq_self, reduceIte, Nat.reduceBEq, Nat.reduceLT, Nat.reduceEqDiff, a1, a2]
    first | exact fin_ret hb rfl rfl List.take_length ⟨rfl, rfl⟩ | exact fin_ret hb rfl rfl List.take_left ⟨rfl, rfl⟩
  · rw [if_neg hk]
    simp -dsimp -implicitDefEqProofs only [aw, slots0, V.copy, V.lend, V.lend1, V.cells, V.boxable, Nat.reduceLeDiff, eq_self, reduceIte, reduceCtorEq, Nat.reduceBEq, Nat.reduceLT, Nat.reduceEqDiff, Nat.reduceAdd, vex_eq]
    refine fun_ret (by simpa only [vex_eq] using hL _) ?_
    simp -dsimp -implicitDefEqProofs only [aw, V.copy, V.lend, V.lend1, Nat.reduceLeDiff, eq_self, reduceIte, Nat.reduceBEq, Nat.reduceLT, Nat.reduceEqDiff, Nat.reduceAdd, Int.ofNat_lt, hk, decide_false]
    refine fun_ret (by simpa only [vex_eq] using h _) ?_
    simp -dsimp -implicitDefEqProofs only [aw, V.copy, eq_self, reduceIte, Nat.reduceBEq, Nat.reduceLT, Nat.reduceEqDiff]
    first | exact fin_ret hb rfl rfl List.take_length ⟨rfl, rfl⟩ | exact fin_ret hb rfl rfl List.take_left ⟨rfl, rfl⟩
def prL : List Ex → List ByteArray
  | a :: b :: r => bs (textE a ++ ([32, 46, 46, 32] ++ textE b)) :: prL r
  | _ => []
theorem prL_join : ∀ l : List Ex, l.length % 2 = 0 → Lib.join ((prL l).map (·.data.toList)) [44, 32] = pairS l
  | [], _ => rfl
  | [_], h => by simp at h
  | [a, b], _ => by simp only [prL, List.map_cons, List.map_nil, Lib.join_one, bs_list, pairS]
  | a :: b :: c :: r, h => by
    have ih := prL_join (c :: r) (by simp only [List.length_cons] at h ⊢; omega)
    match r, h, ih with
    | [], h, _ => simp at h
    | d :: r, _, ih =>
      simp only [prL, List.map_cons] at ih ⊢
      rw [Lib.join_cons] at ih ⊢
      simp only [pairS, ← ih, bs_list]
      simp [Lib.joinTail]
theorem prL_len : ∀ l : List Ex, l.length % 2 = 0 → 2 * (prL l).length = l.length
  | [], _ => rfl
  | [_], h => by simp at h
  | a :: b :: r, h => by
    have := prL_len r (by simp only [List.length_cons] at h; omega)
    simp only [prL, List.length_cons]; omega
theorem prL_get : ∀ (l : List Ex) (j : Nat) (h : 2 * j + 1 < l.length) (h' : j < (prL l).length), (prL l)[j] = bs (textE (l[2 * j]'(by omega)) ++ ([32, 46, 46, 32] ++ textE l[2 * j + 1]))
  | [], j, h, _ => by simp at h
  | [_], j, h, _ => by simp at h
  | a :: b :: r, 0, _, _ => rfl
  | a :: b :: r, j + 1, h, h' => by
    have := prL_get r j (by simp only [List.length_cons] at h; omega) (by simp only [prL, List.length_cons] at h'; omega)
    simp only [prL, List.getElem_cons_succ, this]
    rfl
theorem pair_le : ∀ (l : List Ex) (j : Nat) (h : 2 * j + 1 < l.length), (textE (l[2 * j]'(by omega))).length + (textE l[2 * j + 1]).length + 4 ≤ (pairS l).length
  | [], j, h => by simp at h
  | [_], j, h => by simp at h
  | [a, b], 0, _ => by simp only [pairS, List.length_append, List.length_cons, List.length_nil, List.getElem_cons_succ]; simp; omega
  | [a, b], j + 1, h => by simp at h; omega
  | a :: b :: c :: r, 0, _ => by simp only [pairS, List.length_append, List.length_cons, List.length_nil, List.getElem_cons_succ]; simp; omega
  | a :: b :: c :: r, j + 1, h => by
    have := pair_le (c :: r) j (by simp only [List.length_cons] at h ⊢; omega)
    have e1 : (a :: b :: c :: r)[2 * (j + 1)]'(by omega) = (c :: r)[2 * j]'(by simp only [List.length_cons] at h ⊢; omega) := rfl
    have e2 : (a :: b :: c :: r)[2 * (j + 1) + 1] = (c :: r)[2 * j + 1]'(by simp only [List.length_cons] at h ⊢; omega) := rfl
    rw [e1, e2]
    simp only [pairS, List.length_append]
    omega
set_option maxHeartbeats 4000000 in
theorem text_fun (e : Ex) : errE e = 0 → (textE e).length ≤ 1000000 → ∀ σ : List (List V), Fun G 17 [vex e] σ (RetV (.d (dstr (bs (textE e)))) σ) := by
  induction e using Ex.ind2 with
  | h e ih =>
  intro he hlen σ
  have hs := sh_of he
  refine fun_code Tryz.func17 k17 (by simp only [vex_eq]; rfl) fun hb hw => ?_
  delta c17 oM oV kI kS kT kF
  simp -dsimp -implicitDefEqProofs only [aw, slots0, V.copy, V.lend, V.cells, V.boxable, Nat.reduceLeDiff, eq_self, reduceIte, reduceCtorEq, Nat.reduceBEq, Nat.reduceLT, Nat.reduceEqDiff, Nat.reduceAdd, vex_eq]
  refine fun_ret (byOp_fun _ _) ?_
  rw [byOpV_eq]
  cases hs with
  | const n h0 h1 =>
    rw [(show binL (Ex.mk 1 n ⟨#[]⟩ []).op = none from (lev14 1 (by simp)).2), text_const]
    simp -dsimp -implicitDefEqProofs only [aw, V.copy, V.lend, V.cells, V.boxable, over, Nat.reduceLeDiff, eq_self, reduceIte, Nat.reduceBEq, Nat.reduceLT, Nat.reduceEqDiff, Nat.reduceAdd, mk_op, mk_num, mk_name, mk_args]
    refine fun_ret (prefix_fun _ _) ?_
    rw [show preS 1 = [] from rfl]
    simp -dsimp -implicitDefEqProofs only [aw, V.copy, V.lend, Nat.reduceLeDiff, eq_self, reduceIte, Nat.reduceBEq, Nat.reduceLT, Nat.reduceEqDiff, Nat.reduceAdd, nil_yes, Int.reduceEq, decide_true, decide_false]
    refine fun_ret (numFormat_fun n h0 h1 _) ?_
    simp -dsimp -implicitDefEqProofs only [aw, V.copy, eq_self, reduceIte, Nat.reduceBEq, Nat.reduceLT, Nat.reduceEqDiff]
    first | exact fin_ret hb rfl rfl List.take_length ⟨rfl, rfl⟩ | exact fin_ret hb rfl rfl List.take_left ⟨rfl, rfl⟩
  | var s h =>
    rw [(show binL (Ex.mk 2 0 s []).op = none from (lev14 2 (by simp)).2)]
    simp -dsimp -implicitDefEqProofs only [aw, V.copy, V.lend, V.cells, V.boxable, over, Nat.reduceLeDiff, eq_self, reduceIte, Nat.reduceBEq, Nat.reduceLT, Nat.reduceEqDiff, Nat.reduceAdd, mk_op, mk_num, mk_name, mk_args]
    refine fun_ret (prefix_fun _ _) ?_
    rw [show preS 2 = [] from rfl]
    simp -dsimp -implicitDefEqProofs only [aw, V.copy, V.lend, Nat.reduceLeDiff, eq_self, reduceIte, Nat.reduceBEq, Nat.reduceLT, Nat.reduceEqDiff, Nat.reduceAdd, nil_yes, Int.reduceEq, decide_false]
    refine fun_ret (variable_fun s h _) ?_
    simp -dsimp -implicitDefEqProofs only [aw, V.copy, eq_self, reduceIte, Nat.reduceBEq, Nat.reduceLT, Nat.reduceEqDiff]
    first | exact fin_ret hb rfl rfl List.take_length ⟨rfl, rfl⟩ | exact fin_ret hb rfl rfl List.take_left ⟨rfl, rfl⟩
  | elem s x h hx =>
    rw [(show binL (Ex.mk 3 0 s [x]).op = none from (lev14 3 (by simp)).2)]
    rw [text_elem] at hlen ⊢
    have hT := ih x (by simp [Ex.args]) hx (by simp only [List.length_append, List.length_cons] at hlen; omega)
    obtain ⟨ss, rfl⟩ : ∃ ss, s = bs ss := ⟨_, (bs_self s).symm⟩
    rw [bs_list] at hlen ⊢
    simp only [List.length_append, List.length_cons, List.length_nil] at hlen
    generalize textE x = T at *
    have a1 : binV .add (V.d (dstr (bs ss))) (V.d (dstr ⟨#[91]⟩)) = some (V.d (dstr (bs (ss ++ [91])))) := add_bs ss [91] (by simp; omega)
    have a2 : binV .add (V.d (dstr (bs (ss ++ [91])))) (V.d (dstr (bs T))) = some (V.d (dstr (bs ((ss ++ [91]) ++ T)))) := add_bs (ss ++ [91]) T (by simp; omega)
    have a3 : binV .add (V.d (dstr (bs ((ss ++ [91]) ++ T)))) (V.d (dstr ⟨#[93]⟩)) = some (V.d (dstr (bs (((ss ++ [91]) ++ T) ++ [93])))) := add_bs ((ss ++ [91]) ++ T) [93] (by simp; omega)
    have hf : ss ++ 91 :: (T ++ [93]) = ((ss ++ [91]) ++ T) ++ [93] := by simp
    rw [hf]
    generalize ((ss ++ [91]) ++ T) ++ [93] = R3 at *
    generalize (ss ++ [91]) ++ T = R2 at *
    generalize ss ++ [91] = R1 at *
    simp -dsimp -implicitDefEqProofs only [aw, V.copy, V.lend, V.cells, V.boxable, over, Nat.reduceLeDiff, eq_self, reduceIte, Nat.reduceBEq, Nat.reduceLT, Nat.reduceEqDiff, Nat.reduceAdd, mk_op, mk_num, mk_name, mk_args]
    refine fun_ret (prefix_fun _ _) ?_
    rw [show preS 3 = [] from rfl]
    simp -dsimp -implicitDefEqProofs only [aw, V.copy, V.lend, V.lend1, Nat.reduceLeDiff, eq_self, reduceIte, Nat.reduceBEq, Nat.reduceLT, Nat.reduceEqDiff, Nat.reduceAdd, nil_yes, Int.reduceEq, decide_true, decide_false, a1, ia0, dex_eq]
    refine calm_ret (by simpa only [vex_eq] using hT _) ?_
    simp -dsimp -implicitDefEqProofs only [aw, V.copy, eq_self, reduceIte, Nat.reduceBEq, Nat.reduceLT, Nat.reduceEqDiff, a2, a3]
    first | exact fin_ret hb rfl rfl List.take_length ⟨rfl, rfl⟩ | exact fin_ret hb rfl rfl List.take_left ⟨rfl, rfl⟩
  | pre o x h hx =>
    rw [pre_lev (Ex.mk o 0 ⟨#[]⟩ [x]).op (by simpa [Ex.op] using h)]
    rw [text_pre h] at hlen ⊢
    have hp : ¬ preS o = [] := fun hn => (pre_nil _).1 hn h
    have hd : decide (bs (preS o) = (⟨#[]⟩ : ByteArray)) = false := by rw [decide_eq_false_iff_not]; intro hh; exact hp (bs_inj.1 (hh : _ = bs []))
    have hle : (textE x).length ≤ (atS 13 x).length := by unfold atS; split <;> simp <;> omega
    rw [List.length_append] at hlen
    have hA : ∀ σ, Fun G 34 [vex x, .d (dint 13)] σ (RetV (.d (dstr (bs (atS 13 x)))) σ) := at_fun (x := x) 13 (by omega) (ih x (by simp [Ex.args]) hx (by omega))
    generalize atS 13 x = A at *
    have a1 : binV .add (V.d (dstr (bs (preS o)))) (V.d (dstr (bs A))) = some (V.d (dstr (bs (preS o ++ A)))) := add_bs _ _ (by omega)
    generalize preS o ++ A = R1 at *
    simp -dsimp -implicitDefEqProofs only [aw, V.copy, V.lend, V.cells, V.boxable, over, Nat.reduceLeDiff, eq_self, reduceIte, Nat.reduceBEq, Nat.reduceLT, Nat.reduceEqDiff, Nat.reduceAdd, mk_op, mk_num, mk_name, mk_args]
    refine fun_ret (prefix_fun _ _) ?_
    simp -dsimp -implicitDefEqProofs only [aw, V.copy, V.lend, V.lend1, Nat.reduceLeDiff, eq_self, reduceIte, Nat.reduceBEq, Nat.reduceLT, Nat.reduceEqDiff, Nat.reduceAdd, hd, ia0, dex_eq]
    refine fun_ret (by simpa only [vex_eq] using hA _) ?_
    simp -dsimp -implicitDefEqProofs only [aw, V.copy, eq_self, reduceIte, Nat.reduceBEq, Nat.reduceLT, Nat.reduceEqDiff, a1]
    first | exact fin_ret hb rfl rfl List.take_length ⟨rfl, rfl⟩ | exact fin_ret hb rfl rfl List.take_left ⟨rfl, rfl⟩
  | bin o m k x y h hx hy =>
    have h' : binL (Ex.mk o 0 ⟨#[]⟩ [x, y]).op = some (m, k) := h
    rw [h']
    rw [text_bin h] at hlen ⊢
    have hle : ∀ k z, (textE z).length ≤ (atS k z).length := fun k z => by unfold atS; split <;> simp <;> omega
    have l1 := hle (if k = 2 then 3 else k) x
    have l2 := hle (if k = 2 then 2 else k + 1) y
    obtain ⟨ms, rfl⟩ : ∃ ms, m = bs ms := ⟨_, (bs_self m).symm⟩
    rw [bs_list] at hlen ⊢
    simp only [List.length_append, List.length_cons] at hlen
    have hA := at_fun (x := x) (if k = 2 then 3 else k) (by omega) (ih x (by simp [Ex.args]) hx (by omega))
    have hB := at_fun (x := y) (if k = 2 then 2 else k + 1) (by omega) (ih y (by simp [Ex.args]) hy (by omega))
    have hk12 := (bin_lev _ (binL_some h)).2.1
    simp only at hk12
    generalize atS (if k = 2 then 3 else k) x = A at *
    generalize atS (if k = 2 then 2 else k + 1) y = B at *
    have a1 : binV .add (V.d (dstr (bs A))) (V.d (dstr ⟨#[32]⟩)) = some (V.d (dstr (bs (A ++ [32])))) := add_bs A [32] (by simp; omega)
    have a2 : binV .add (V.d (dstr (bs (A ++ [32])))) (V.d (dstr (bs ms))) = some (V.d (dstr (bs ((A ++ [32]) ++ ms)))) := add_bs _ _ (by simp; omega)
    have a3 : binV .add (V.d (dstr (bs ((A ++ [32]) ++ ms)))) (V.d (dstr ⟨#[32]⟩)) = some (V.d (dstr (bs (((A ++ [32]) ++ ms) ++ [32])))) := add_bs _ [32] (by simp; omega)
    have a4 : binV .add (V.d (dstr (bs (((A ++ [32]) ++ ms) ++ [32])))) (V.d (dstr (bs B))) = some (V.d (dstr (bs ((((A ++ [32]) ++ ms) ++ [32]) ++ B)))) := add_bs _ _ (by simp; omega)
    have hf : A ++ (32 :: (ms ++ (32 :: B))) = (((A ++ [32]) ++ ms) ++ [32]) ++ B := by simp
    rw [hf]
    generalize (((A ++ [32]) ++ ms) ++ [32]) ++ B = R4 at *
    generalize ((A ++ [32]) ++ ms) ++ [32] = R3 at *
    generalize (A ++ [32]) ++ ms = R2 at *
    generalize A ++ [32] = R1 at *
    have hw1 : IntKind.i64.wrap (((k : Nat) : Int) + 1) = ((k + 1 : Nat) : Int) := by rw [wrap_i64 (by omega) (by omega)]; omega
    by_cases hk2 : k = 2
    · subst hk2
      have hA : ∀ σ, Fun G 34 [vex x, .d (dint 3)] σ (RetV (.d (dstr (bs A))) σ) := hA
      have hB : ∀ σ, Fun G 34 [vex y, .d (dint 2)] σ (RetV (.d (dstr (bs B))) σ) := hB
      simp -dsimp -implicitDefEqProofs only [aw, V.copy, V.lend, V.lend1, V.cells, V.boxable, over, Nat.reduceLeDiff, eq_self, reduceIte, Nat.reduceBEq, Nat.reduceLT, Nat.reduceEqDiff, Nat.reduceAdd, mk_op, mk_num, mk_name, mk_args, ia0, dex_eq, show (((2 : Nat) : Int)) = 2 from rfl, decide_true]
      refine calm_ret (by simpa only [vex_eq] using hA _) ?_
      simp -dsimp -implicitDefEqProofs only [aw, V.copy, V.lend, V.lend1, Nat.reduceLeDiff, eq_self, reduceIte, Nat.reduceLT, Nat.reduceEqDiff, Nat.reduceAdd, a1, a2, a3, ia1]
      refine calm_ret (by simpa only [vex_eq] using hB _) ?_
      simp -dsimp -implicitDefEqProofs only [aw, V.copy, eq_self, reduceIte, Nat.reduceBEq, Nat.reduceLT, Nat.reduceEqDiff, a4]
      first | exact fin_ret hb rfl rfl List.take_length ⟨rfl, rfl⟩ | exact fin_ret hb rfl rfl List.take_left ⟨rfl, rfl⟩
    · have hk2' : ¬ ((k : Nat) : Int) = 2 := by omega
      rw [if_neg hk2] at hA hB
      simp -dsimp -implicitDefEqProofs only [aw, V.copy, V.lend, V.lend1, V.cells, V.boxable, over, Nat.reduceLeDiff, eq_self, reduceIte, Nat.reduceBEq, Nat.reduceLT, Nat.reduceEqDiff, Nat.reduceAdd, mk_op, mk_num, mk_name, mk_args, hw1, ia0, dex_eq, decide_eq_false hk2']
      refine calm_ret (by simpa only [vex_eq] using hA _) ?_
      simp -dsimp -implicitDefEqProofs only [aw, V.copy, V.lend, V.lend1, Nat.reduceLeDiff, eq_self, reduceIte, Nat.reduceLT, Nat.reduceEqDiff, Nat.reduceAdd, a1, a2, a3, ia1]
      refine calm_ret (by simpa only [vex_eq] using hB _) ?_
      simp -dsimp -implicitDefEqProofs only [aw, V.copy, eq_self, reduceIte, Nat.reduceBEq, Nat.reduceLT, Nat.reduceEqDiff, a4]
      first | exact fin_ret hb rfl rfl List.take_length ⟨rfl, rfl⟩ | exact fin_ret hb rfl rfl List.take_left ⟨rfl, rfl⟩
  | ite x y z hx hy hz =>
    rw [show binL (Ex.mk 22 0 ⟨#[]⟩ [x, y, z]).op = none from bin22]
    rw [text_if] at hlen ⊢
    have hle : ∀ k z, (textE z).length ≤ (atS k z).length := fun k z => by unfold atS; split <;> simp <;> omega
    have l1 := hle 2 x
    have l2 := hle 1 y
    have l3 := hle 1 z
    simp only [List.length_append, List.length_cons, List.length_nil] at hlen
    have hA : ∀ σ, Fun G 34 [vex x, .d (dint 2)] σ (RetV (.d (dstr (bs (atS 2 x)))) σ) := at_fun (x := x) 2 (by omega) (ih x (by simp [Ex.args]) hx (by omega))
    have hB : ∀ σ, Fun G 34 [vex y, .d (dint 1)] σ (RetV (.d (dstr (bs (atS 1 y)))) σ) := at_fun (x := y) 1 (by omega) (ih y (by simp [Ex.args]) hy (by omega))
    have hC : ∀ σ, Fun G 34 [vex z, .d (dint 1)] σ (RetV (.d (dstr (bs (atS 1 z)))) σ) := at_fun (x := z) 1 (by omega) (ih z (by simp [Ex.args]) hz (by omega))
    generalize atS 2 x = A at *
    generalize atS 1 y = B at *
    generalize atS 1 z = E at *
    have a1 : binV .add (V.d (dstr (bs A))) (V.d (dstr ⟨#[32, 63, 32]⟩)) = some (V.d (dstr (bs (A ++ [32, 63, 32])))) := add_bs A [32, 63, 32] (by simp; omega)
    have a2 : binV .add (V.d (dstr (bs (A ++ [32, 63, 32])))) (V.d (dstr (bs B))) = some (V.d (dstr (bs ((A ++ [32, 63, 32]) ++ B)))) := add_bs _ _ (by simp; omega)
    have a3 : binV .add (V.d (dstr (bs ((A ++ [32, 63, 32]) ++ B)))) (V.d (dstr ⟨#[32, 58, 32]⟩)) = some (V.d (dstr (bs (((A ++ [32, 63, 32]) ++ B) ++ [32, 58, 32])))) := add_bs _ [32, 58, 32] (by simp; omega)
    have a4 : binV .add (V.d (dstr (bs (((A ++ [32, 63, 32]) ++ B) ++ [32, 58, 32])))) (V.d (dstr (bs E))) = some (V.d (dstr (bs ((((A ++ [32, 63, 32]) ++ B) ++ [32, 58, 32]) ++ E)))) := add_bs _ _ (by simp; omega)
    have hf : A ++ ([32, 63, 32] ++ (B ++ ([32, 58, 32] ++ E))) = (((A ++ [32, 63, 32]) ++ B) ++ [32, 58, 32]) ++ E := by simp
    rw [hf]
    generalize (((A ++ [32, 63, 32]) ++ B) ++ [32, 58, 32]) ++ E = R4 at *
    generalize ((A ++ [32, 63, 32]) ++ B) ++ [32, 58, 32] = R3 at *
    generalize (A ++ [32, 63, 32]) ++ B = R2 at *
    generalize A ++ [32, 63, 32] = R1 at *
    simp -dsimp -implicitDefEqProofs only [aw, V.copy, V.lend, V.cells, V.boxable, over, Nat.reduceLeDiff, eq_self, reduceIte, Nat.reduceBEq, Nat.reduceLT, Nat.reduceEqDiff, Nat.reduceAdd, mk_op, mk_num, mk_name, mk_args]
    refine fun_ret (prefix_fun _ _) ?_
    rw [show preS 22 = [] from rfl]
    simp -dsimp -implicitDefEqProofs only [aw, V.copy, V.lend, V.lend1, Nat.reduceLeDiff, eq_self, reduceIte, Nat.reduceBEq, Nat.reduceLT, Nat.reduceEqDiff, Nat.reduceAdd, nil_yes, decide_true, ia0, dex_eq]
    refine calm_ret (by simpa only [vex_eq] using hA _) ?_
    simp -dsimp -implicitDefEqProofs only [aw, V.copy, V.lend, V.lend1, Nat.reduceLeDiff, eq_self, reduceIte, Nat.reduceLT, Nat.reduceEqDiff, Nat.reduceAdd, a1, ia1]
    refine calm_ret (by simpa only [vex_eq] using hB _) ?_
    simp -dsimp -implicitDefEqProofs only [aw, V.copy, V.lend, V.lend1, Nat.reduceLeDiff, eq_self, reduceIte, Nat.reduceLT, Nat.reduceEqDiff, Nat.reduceAdd, a2, a3, ia2]
    refine calm_ret (by simpa only [vex_eq] using hC _) ?_
    simp -dsimp -implicitDefEqProofs only [aw, V.copy, eq_self, reduceIte, Nat.reduceBEq, Nat.reduceLT, Nat.reduceEqDiff, a4]
    first | exact fin_ret hb rfl rfl List.take_length ⟨rfl, rfl⟩ | exact fin_ret hb rfl rfl List.take_left ⟨rfl, rfl⟩
  | inside x l hx hl hev hne h32 =>
    rw [show binL (Ex.mk 23 0 ⟨#[]⟩ (x :: l)).op = none from bin23]
    rw [text_inside] at hlen ⊢
    have hle : ∀ k z, (textE z).length ≤ (atS k z).length := fun k z => by unfold atS; split <;> simp <;> omega
    have l1 := hle 9 x
    simp only [List.length_append, List.length_cons, List.length_nil] at hlen
    have hA : ∀ σ, Fun G 34 [vex x, .d (dint 9)] σ (RetV (.d (dstr (bs (atS 9 x)))) σ) := at_fun (x := x) 9 (by omega) (ih x (by simp [Ex.args]) hx (by omega))
    have hT : ∀ i (hi : i < l.length), (textE l[i]).length ≤ 1000000 → ∀ σ, Fun G 17 [vex l[i]] σ (RetV (.d (dstr (bs (textE l[i])))) σ) := fun i hi h => ih l[i] (by simp [Ex.args]) (hl _ (List.getElem_mem hi)) h
    have hpl := prL_len l hev
    have hjn := prL_join l hev
    generalize atS 9 x = A at *
    simp -dsimp -implicitDefEqProofs only [aw, V.copy, V.lend, V.cells, V.boxable, over, Nat.reduceLeDiff, eq_self, reduceIte, Nat.reduceBEq, Nat.reduceLT, Nat.reduceEqDiff, Nat.reduceAdd, mk_op, mk_num, mk_name, mk_args]
    refine fun_ret (prefix_fun _ _) ?_
    rw [show preS 23 = [] from rfl]
    simp -dsimp -implicitDefEqProofs only [aw, V.copy, Nat.reduceLeDiff, eq_self, reduceIte, Nat.reduceBEq, Nat.reduceLT, Nat.reduceEqDiff, Nat.reduceAdd, nil_yes, Int.reduceEq, decide_true, decide_false]
    have hlb : (pairS l).length ≤ 1000000 := by omega
    have hJ : ∀ σ, Fun G 36 [.d (.sl ((prL l).map fun s => [dstr s])), .d (dstr ⟨#[44, 32]⟩)] σ (RetV (.d (dstr (bs (pairS l)))) σ) := fun σ => by
      have := fun_joins [44, 32] (prL l) (by omega) (by rw [hjn]; omega) σ
      rw [hjn] at this
      exact this
    refine awp_forK [1, 8, 9] (R := fun (j : Nat) ρ σ' => ρ = [(1, .ptr σ.length 0), (8, .own 9 1 (((prL l).take j).map fun s => [dstr s])), (9, vint .i64 ((2 * j + 1 : Nat) : Int))] ∧ σ' = σ ++ [[.d (dint 23), .d (dint 0), .d (dstr ⟨#[]⟩), .d (.sl (dex x :: l.map dex))], [.d (dstr ⟨#[]⟩), .d (dint 0), .d (dint 0)]]) (prL l).length ⟨rfl, rfl⟩ ?_ _
    rintro j ρ' σ' hj ⟨rfl, rfl⟩
    have hw1 : IntKind.i64.wrap (((2 * j + 1 : Nat) : Int) + 1) = ((2 * j + 2 : Nat) : Int) := by rw [wrap_i64 (by omega) (by omega)]; omega
    have hw2 : IntKind.i64.wrap (((2 * j + 1 : Nat) : Int) + 2) = ((2 * (j + 1) + 1 : Nat) : Int) := by rw [wrap_i64 (by omega) (by omega)]; omega
    by_cases hlt : j < (prL l).length
    · have h1 : 2 * j < l.length := by omega
      have h2 : 2 * j + 1 < l.length := by omega
      have hpt := prL_get l j h2 hlt
      have hple := pair_le l j h2
      have hT1 := hT (2 * j) h1 (by omega)
      have hT2 := hT (2 * j + 1) h2 (by omega)
      have htk : (prL l).take (j + 1) = (prL l).take j ++ [(prL l)[j]] := by rw [List.take_add_one, List.getElem?_eq_getElem hlt]; rfl
      rw [hpt] at htk
      generalize textE l[2 * j] = T1 at *
      generalize textE l[2 * j + 1] = T2 at *
      have a1 : binV .add (V.d (dstr (bs T1))) (V.d (dstr ⟨#[32, 46, 46, 32]⟩)) = some (V.d (dstr (bs (T1 ++ [32, 46, 46, 32])))) := add_bs T1 [32, 46, 46, 32] (by simp; omega)
      have a2 : binV .add (V.d (dstr (bs (T1 ++ [32, 46, 46, 32])))) (V.d (dstr (bs T2))) = some (V.d (dstr (bs (T1 ++ ([32, 46, 46, 32] ++ T2))))) := by
        rw [← List.append_assoc]; exact add_bs _ T2 (by simp; omega)
      generalize T1 ++ ([32, 46, 46, 32] ++ T2) = R2 at *
      generalize T1 ++ [32, 46, 46, 32] = R1 at *
      have hc : decide (((2 * j + 2 : Nat) : Int) < ((l.length + 1 : Nat) : Int)) = true := by rw [decide_eq_true_eq]; omega
      simp -dsimp -implicitDefEqProofs only [aw, V.copy, V.lend, V.lend1, Nat.reduceLeDiff, eq_self, reduceIte, Nat.reduceBEq, Nat.reduceLT, Nat.reduceEqDiff, Nat.reduceAdd, hw1, hc, List.getElem?_eq_getElem h1, dex_eq]
      refine calm_ret (by simpa only [vex_eq] using hT1 _) ?_
      simp -dsimp -implicitDefEqProofs only [aw, V.copy, V.lend, V.lend1, Nat.reduceLeDiff, eq_self, reduceIte, Nat.reduceLT, Nat.reduceEqDiff, Nat.reduceAdd, hw1, a1, List.getElem?_eq_getElem h2, dex_eq]
      refine calm_ret (by simpa only [vex_eq] using hT2 _) ?_
      simp -dsimp -implicitDefEqProofs only [aw, V.copy, V.cells, rowsOf, plains, V.plain, eq_self, reduceIte, Nat.reduceBEq, Nat.reduceLT, Nat.reduceEqDiff, a2]
      refine onT_intro (by simp only [List.length_take]; omega) ?_
      simp -dsimp -implicitDefEqProofs only [aw, V.copy, eq_self, reduceIte, Nat.reduceBEq, Nat.reduceLT, Nat.reduceEqDiff, hw2]
      refine ⟨hlt, Nxt.same (by simp) (boxesBelow_app hb rfl) (by simp [slotsBelow, V.under]) ⟨?_, by rw [dex_eq x]⟩⟩
      rw [htk, List.map_append]; rfl
    · have hc : decide (((2 * j + 2 : Nat) : Int) < ((l.length + 1 : Nat) : Int)) = false := by rw [decide_eq_false_iff_not]; omega
      have hje : (prL l).take j = prL l := List.take_of_length_le (by omega)
      rw [hje]
      generalize pairS l = B at *
      have a1 : binV .add (V.d (dstr (bs A))) (V.d (dstr ⟨#[32, 105, 110, 115, 105, 100, 101, 32, 123, 32]⟩)) = some (V.d (dstr (bs (A ++ [32, 105, 110, 115, 105, 100, 101, 32, 123, 32])))) := add_bs A [32, 105, 110, 115, 105, 100, 101, 32, 123, 32] (by simp; omega)
      have a2 : binV .add (V.d (dstr (bs (A ++ [32, 105, 110, 115, 105, 100, 101, 32, 123, 32])))) (V.d (dstr (bs B))) = some (V.d (dstr (bs ((A ++ [32, 105, 110, 115, 105, 100, 101, 32, 123, 32]) ++ B)))) := add_bs _ _ (by simp; omega)
      have a3 : binV .add (V.d (dstr (bs ((A ++ [32, 105, 110, 115, 105, 100, 101, 32, 123, 32]) ++ B)))) (V.d (dstr ⟨#[32, 125]⟩)) = some (V.d (dstr (bs (((A ++ [32, 105, 110, 115, 105, 100, 101, 32, 123, 32]) ++ B) ++ [32, 125])))) := add_bs _ [32, 125] (by simp; omega)
      have hf : A ++ ([32, 105, 110, 115, 105, 100, 101, 32, 123, 32] ++ (B ++ [32, 125])) = ((A ++ [32, 105, 110, 115, 105, 100, 101, 32, 123, 32]) ++ B) ++ [32, 125] := by simp
      rw [hf]
      generalize ((A ++ [32, 105, 110, 115, 105, 100, 101, 32, 123, 32]) ++ B) ++ [32, 125] = R3 at *
      generalize (A ++ [32, 105, 110, 115, 105, 100, 101, 32, 123, 32]) ++ B = R2 at *
      generalize A ++ [32, 105, 110, 115, 105, 100, 101, 32, 123, 32] = R1 at *
      simp -dsimp -implicitDefEqProofs only [aw, V.copy, V.lend, V.lend1, Nat.reduceLeDiff, eq_self, reduceIte, reduceCtorEq, Nat.reduceBEq, Nat.reduceLT, Nat.reduceEqDiff, Nat.reduceAdd, hw1, hc, ia0, dex_eq]
      refine fun_ret (by simpa only [vex_eq] using hA _) ?_
      simp -dsimp -implicitDefEqProofs only [aw, V.copy, V.lend, eq_self, reduceIte, Nat.reduceLT, Nat.reduceEqDiff, a1]
      refine fun_ret (hJ _) ?_
      simp -dsimp -implicitDefEqProofs only [aw, V.copy, eq_self, reduceIte, Nat.reduceBEq, Nat.reduceLT, Nat.reduceEqDiff, a2, a3]
      first | exact fin_ret hb rfl rfl List.take_length ⟨rfl, rfl⟩ | exact fin_ret hb rfl rfl List.take_left ⟨rfl, rfl⟩
  | sum s h =>
    rw [show binL (Ex.mk 24 0 s []).op = none from (lev14 24 (by simp)).2]
    rw [text_sum] at hlen ⊢
    obtain ⟨ss, rfl⟩ : ∃ ss, s = bs ss := ⟨_, (bs_self s).symm⟩
    rw [bs_list] at hlen ⊢
    simp only [List.length_append, List.length_cons, List.length_nil] at hlen
    have a1 : binV .add (V.d (dstr ⟨#[115, 117, 109, 40]⟩)) (V.d (dstr (bs ss))) = some (V.d (dstr (bs ([115, 117, 109, 40] ++ ss)))) := add_bs [115, 117, 109, 40] ss (by simp; omega)
    have a2 : binV .add (V.d (dstr (bs ([115, 117, 109, 40] ++ ss)))) (V.d (dstr ⟨#[41]⟩)) = some (V.d (dstr (bs (([115, 117, 109, 40] ++ ss) ++ [41])))) := add_bs _ [41] (by simp; omega)
    rw [← List.append_assoc]
    generalize ([115, 117, 109, 40] ++ ss) ++ [41] = R2 at *
    generalize [115, 117, 109, 40] ++ ss = R1 at *
    simp -dsimp -implicitDefEqProofs only [aw, V.copy, V.lend, V.cells, V.boxable, over, Nat.reduceLeDiff, eq_self, reduceIte, Nat.reduceBEq, Nat.reduceLT, Nat.reduceEqDiff, Nat.reduceAdd, mk_op, mk_num, mk_name, mk_args]
    refine fun_ret (prefix_fun _ _) ?_
    rw [show preS 24 = [] from rfl]
    simp -dsimp -implicitDefEqProofs only [aw, V.copy, Nat.reduceLeDiff, eq_self, reduceIte, Nat.reduceBEq, Nat.reduceLT, Nat.reduceEqDiff, Nat.reduceAdd, nil_yes, Int.reduceEq, decide_true, decide_false, a1, a2]
    first | exact fin_ret hb rfl rfl List.take_length ⟨rfl, rfl⟩ | exact fin_ret hb rfl rfl List.take_left ⟨rfl, rfl⟩
  | ones x hx =>
    rw [show binL (Ex.mk 25 0 ⟨#[]⟩ [x]).op = none from (lev14 25 (by simp)).2]
    rw [text_ones] at hlen ⊢
    simp only [List.length_append, List.length_cons, List.length_nil] at hlen
    have hT := ih x (by simp [Ex.args]) hx (by omega)
    generalize textE x = T at *
    have a1 : binV .add (V.d (dstr ⟨#[111, 110, 101, 115, 40]⟩)) (V.d (dstr (bs T))) = some (V.d (dstr (bs ([111, 110, 101, 115, 40] ++ T)))) := add_bs [111, 110, 101, 115, 40] T (by simp; omega)
    have a2 : binV .add (V.d (dstr (bs ([111, 110, 101, 115, 40] ++ T)))) (V.d (dstr ⟨#[41]⟩)) = some (V.d (dstr (bs (([111, 110, 101, 115, 40] ++ T) ++ [41])))) := add_bs _ [41] (by simp; omega)
    rw [← List.append_assoc]
    generalize ([111, 110, 101, 115, 40] ++ T) ++ [41] = R2 at *
    generalize [111, 110, 101, 115, 40] ++ T = R1 at *
    simp -dsimp -implicitDefEqProofs only [aw, V.copy, V.lend, V.cells, V.boxable, over, Nat.reduceLeDiff, eq_self, reduceIte, Nat.reduceBEq, Nat.reduceLT, Nat.reduceEqDiff, Nat.reduceAdd, mk_op, mk_num, mk_name, mk_args]
    refine fun_ret (prefix_fun _ _) ?_
    rw [show preS 25 = [] from rfl]
    simp -dsimp -implicitDefEqProofs only [aw, V.copy, V.lend, V.lend1, Nat.reduceLeDiff, eq_self, reduceIte, Nat.reduceBEq, Nat.reduceLT, Nat.reduceEqDiff, Nat.reduceAdd, nil_yes, Int.reduceEq, decide_true, decide_false, ia0, dex_eq]
    refine fun_ret (by simpa only [vex_eq] using hT _) ?_
    simp -dsimp -implicitDefEqProofs only [aw, V.copy, eq_self, reduceIte, Nat.reduceBEq, Nat.reduceLT, Nat.reduceEqDiff, a1, a2]
    first | exact fin_ret hb rfl rfl List.take_length ⟨rfl, rfl⟩ | exact fin_ret hb rfl rfl List.take_left ⟨rfl, rfl⟩
end Go.Proofs.YteopfpebdalcoaaGreatDoor
