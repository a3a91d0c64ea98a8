/-
  Printing expressions: the reference's text; Print.
-/
import Derived.Test.YteopfpebdalcoaaGreatDoorEt4
set_option linter.unusedVariables false
set_option linter.unusedSimpArgs false
set_option linter.unusedSectionVars false
namespace Go.Proofs.YteopfpebdalcoaaGreatDoor
open Go.RowKit
theorem rat_fun {x : Ex} (k : Nat) (hl : (textE x).length ≤ 1000000) (h : ∀ σ, Fun G 18 [vex x] σ (RetV (.d (dstr (bs (textE x)))) σ)) (σ : List (List V)) : Fun G 40 [vex x, .d (dint k)] σ (RetV (.d (dstr (bs (atS k x)))) σ) := by
  refine fun_code Tryz.func40 k40 (by simp only [vex_eq]; rfl) fun hb hw => ?_
  delta c40 oM oV kI kS kT kF
  have hL := r9level_fun x.op
  have a1 : binV .add (V.d (dstr ⟨#[40]⟩)) (V.d (dstr (bs (textE x)))) = some (V.d (dstr (bs (40 :: textE x)))) := add_bs [40] (textE x) (by simp; omega)
  have a2 : binV .add (V.d (dstr (bs (40 :: textE x)))) (V.d (dstr ⟨#[41]⟩)) = some (V.d (dstr (bs (40 :: (textE x ++ [41]))))) := add_bs (40 :: textE x) [41] (by simp; omega)
  unfold atS
  generalize textE x = T at *
  generalize levO x.op = L at *
  by_cases hk : L < k
  · rw [if_pos hk]
    simp -dsimp -implicitDefEqProofs only [aw, slots0, V.copy, V.lend, V.lend1, V.cells, V.boxable, Nat.reduceLeDiff, eq_self, reduceIte, reduceCtorEq, Nat.reduceBEq, Nat.reduceLT, Nat.reduceEqDiff, Nat.reduceAdd, vex_eq]
    refine fun_ret (by simpa only [vex_eq] using h _) ?_
    simp -dsimp -implicitDefEqProofs only [aw, V.copy, V.lend, Nat.reduceLeDiff, eq_self, reduceIte, Nat.reduceBEq, Nat.reduceLT, Nat.reduceEqDiff, Nat.reduceAdd]
    refine fun_ret (hL _) ?_
    simp -dsimp -implicitDefEqProofs only [aw, V.copy, eq_self, reduceIte, Nat.reduceBEq, Nat.reduceLT, Nat.reduceEqDiff, Int.ofNat_lt, hk, decide_true, a1, a2]
    first | exact fin_ret hb rfl rfl List.take_length ⟨rfl, rfl⟩ | exact fin_ret hb rfl rfl List.take_left ⟨rfl, rfl⟩
  · rw [if_neg hk]
    simp -dsimp -implicitDefEqProofs only [aw, slots0, V.copy, V.lend, V.lend1, V.cells, V.boxable, Nat.reduceLeDiff, eq_self, reduceIte, reduceCtorEq, Nat.reduceBEq, Nat.reduceLT, Nat.reduceEqDiff, Nat.reduceAdd, vex_eq]
    refine fun_ret (by simpa only [vex_eq] using h _) ?_
    simp -dsimp -implicitDefEqProofs only [aw, V.copy, V.lend, Nat.reduceLeDiff, eq_self, reduceIte, Nat.reduceBEq, Nat.reduceLT, Nat.reduceEqDiff, Nat.reduceAdd]
    refine fun_ret (hL _) ?_
    simp -dsimp -implicitDefEqProofs only [aw, V.copy, eq_self, reduceIte, Nat.reduceBEq, Nat.reduceLT, Nat.reduceEqDiff, Int.ofNat_lt, hk, decide_false]
    first | exact fin_ret hb rfl rfl List.take_length ⟨rfl, rfl⟩ | exact fin_ret hb rfl rfl List.take_left ⟨rfl, rfl⟩
theorem pairS_snoc : ∀ (p : List Ex) (a b : Ex), p.length % 2 = 0 → pairS (p ++ [a, b]) = if p = [] then textE a ++ ([32, 46, 46, 32] ++ textE b) else (pairS p ++ [44, 32]) ++ (textE a ++ ([32, 46, 46, 32] ++ textE b))
  | [], _, _, _ => rfl
  | [_], _, _, h => by simp at h
  | [c, d], a, b, _ => by simp only [List.cons_append, List.nil_append, pairS, List.append_assoc]; rfl
  | c :: d :: e :: r, a, b, h => by
    have ih := pairS_snoc (e :: r) a b (by simp only [List.length_cons] at h ⊢; omega)
    rw [if_neg (by simp)] at ih ⊢
    simp only [List.cons_append] at ih ⊢
    simp only [pairS, ih, List.append_assoc]
theorem take_two {l : List Ex} {j : Nat} (h : 2 * j + 1 < l.length) : l.take (2 * (j + 1)) = l.take (2 * j) ++ [l[2 * j]'(by omega), l[2 * j + 1]] := by
  have a := List.take_add_one (l := l) (i := 2 * j + 1)
  have b := List.take_add_one (l := l) (i := 2 * j)
  rw [show 2 * (j + 1) = (2 * j + 1) + 1 by omega, a, b, List.getElem?_eq_getElem h, List.getElem?_eq_getElem (show 2 * j < l.length by omega)]
  simp only [Option.toList, List.append_assoc, List.singleton_append]
theorem pair_take : ∀ (l : List Ex) (j : Nat), (pairS (l.take (2 * j))).length ≤ (pairS l).length
  | [], j => by simp [pairS]
  | [a], 0 => by simp [pairS]
  | [a], j + 1 => by rw [List.take_of_length_le (by simp; omega)]; exact Nat.le_refl _
  | [a, b], 0 => by simp [pairS]
  | [a, b], j + 1 => by rw [List.take_of_length_le (by simp; omega)]; exact Nat.le_refl _
  | a :: b :: c :: r, 0 => by simp [pairS]
  | a :: b :: c :: r, j + 1 => by
    have ih := pair_take (c :: r) j
    rw [show 2 * (j + 1) = 2 * j + 1 + 1 by omega, List.take_succ_cons, List.take_succ_cons]
    match h : (c :: r).take (2 * j) with
    | [] => simp only [pairS, List.length_append]; omega
    | x :: q =>
      rw [h] at ih
      simp only [pairS, List.length_append]; omega
set_option maxHeartbeats 4000000 in
theorem plain_fun (e : Ex) : errE e = 0 → (textE e).length ≤ 1000000 → ∀ σ : List (List V), Fun G 18 [vex e] σ (RetV (.d (dstr (bs (textE e)))) σ) := by
  induction e using Ex.ind2 with
  | h e ih =>
  intro he hlen σ
  have hs := sh_of he
  refine fun_code Tryz.func18 k18 (by simp only [vex_eq]; rfl) fun hb hw => ?_
  delta c18 oM oV kI kS kT kF
  simp -dsimp -implicitDefEqProofs only [aw, slots0, V.copy, V.lend, V.cells, V.boxable, Nat.reduceLeDiff, eq_self, reduceIte, reduceCtorEq, Nat.reduceBEq, Nat.reduceLT, Nat.reduceEqDiff, Nat.reduceAdd, vex_eq]
  refine fun_ret (sign_fun _ _) ?_
  cases hs with
  | const n h0 h1 =>
    rw [show signV (Ex.mk 1 n ⟨#[]⟩ []).op = .tup [.d (dstr ⟨#[]⟩), .d (dint 0)] from sign_none (o := 1) (by omega), text_const]
    simp -dsimp -implicitDefEqProofs only [aw, V.copy, V.lend, Nat.reduceLeDiff, eq_self, reduceIte, Nat.reduceBEq, Nat.reduceLT, Nat.reduceEqDiff, Nat.reduceAdd, mk_op, mk_num, mk_name, mk_args, Int.reduceLT, decide_false]
    refine fun_ret (r9prefix_fun _ _) ?_
    rw [show preS 1 = [] from rfl]
    simp -dsimp -implicitDefEqProofs only [aw, V.copy, V.lend, Nat.reduceLeDiff, eq_self, reduceIte, Nat.reduceBEq, Nat.reduceLT, Nat.reduceEqDiff, Nat.reduceAdd, nil_yes, Int.reduceEq, decide_false]
    refine fun_ret (r9decimal_fun n h0 h1 _) ?_
    simp -dsimp -implicitDefEqProofs only [aw, V.copy, eq_self, reduceIte, Nat.reduceBEq, Nat.reduceLT, Nat.reduceEqDiff]
    first | exact fin_ret hb rfl rfl List.take_length ⟨rfl, rfl⟩ | exact fin_ret hb rfl rfl List.take_left ⟨rfl, rfl⟩
  | var s h =>
    rw [show signV (Ex.mk 2 0 s []).op = .tup [.d (dstr ⟨#[]⟩), .d (dint 0)] from sign_none (o := 2) (by omega), text_var]
    unfold isVarB at h
    rw [Bool.or_eq_true] at h
    simp -dsimp -implicitDefEqProofs only [aw, V.copy, V.lend, Nat.reduceLeDiff, eq_self, reduceIte, Nat.reduceBEq, Nat.reduceLT, Nat.reduceEqDiff, Nat.reduceAdd, mk_op, mk_num, mk_name, mk_args, Int.reduceLT, decide_false]
    refine fun_ret (r9prefix_fun _ _) ?_
    rw [show preS 2 = [] from rfl]
    simp -dsimp -implicitDefEqProofs only [aw, V.copy, V.lend, Nat.reduceLeDiff, eq_self, reduceIte, Nat.reduceBEq, Nat.reduceLT, Nat.reduceEqDiff, Nat.reduceAdd, nil_yes, Int.reduceEq, decide_true, decide_false]
    by_cases hel : elemB s = true
    · rw [if_pos hel]
      obtain ⟨g1, g2, g3, g4⟩ := elem_name hel
      have hl := name_len g1
      have h5 := dec_five (elemDig s).toNat (by omega)
      have hdec : Lib.decDigits (elemDig s).toNat = [UInt8.ofNat (48 + (elemDig s).toNat)] := by rw [Lib.decDigits, dif_pos (by omega)]
      have hdi : elemDig s = ((elemDig s).toNat : Int) := by omega
      have hsb : s.data.toList = (cutA s 91).data.toList ++ [91, UInt8.ofNat (48 + (elemDig s).toNat), 93] := by
        have := congrArg (fun s : ByteArray => s.data.toList) g4
        simp only [elemName, decS] at this
        rw [← this, hdec]
        simp [mark1]
      have g1' : nameB (bs (cutA s 91).data.toList) = true := by rw [bs_self]; exact g1
      have hdf := r9decimal_fun ((elemDig s).toNat : Int) (by omega) (by omega)
      rw [Int.toNat_natCast] at hdf
      have hlt : (elemDig s).toNat < 8 := by omega
      generalize (cutA s 91).data.toList = x at *
      have hss : s = bs (x ++ [91, UInt8.ofNat (48 + (elemDig s).toNat), 93]) := by rw [← hsb, bs_self]
      have hsp := split_elem x (elemDig s).toNat hlt g1'
      rw [← hss] at hsp
      generalize Lib.decDigits (elemDig s).toNat = ds at *
      generalize (elemDig s).toNat = d at *
      have a1 : binV .add (V.d (dstr (bs x))) (V.d (dstr ⟨#[64]⟩)) = some (V.d (dstr (bs (x ++ [64])))) := add_bs x [64] (by simp; omega)
      have a2 : binV .add (V.d (dstr (bs (x ++ [64])))) (V.d (dstr (bs ds))) = some (V.d (dstr (bs (x ++ 64 :: ds)))) := by
        have := add_bs (x ++ [64]) ds (by simp; omega)
        rw [this, List.append_assoc]; rfl
      refine fun_ret (hsp _) ?_
      simp -dsimp -implicitDefEqProofs only [aw, V.copy, V.lend, eq_self, reduceIte, Nat.reduceBEq, Nat.reduceLT, Nat.reduceEqDiff, a1]
      refine fun_ret (hdf _) ?_
      simp -dsimp -implicitDefEqProofs only [aw, V.copy, eq_self, reduceIte, Nat.reduceBEq, Nat.reduceLT, Nat.reduceEqDiff, a2]
      first | exact fin_ret hb rfl rfl List.take_length ⟨rfl, rfl⟩ | exact fin_ret hb rfl rfl List.take_left ⟨rfl, rfl⟩
    · rw [if_neg hel]
      have hn := h.resolve_left hel
      have hsp := split_name s.data.toList (by rw [bs_self]; exact hn)
      rw [bs_self] at hsp
      refine fun_ret (hsp _) ?_
      simp -dsimp -implicitDefEqProofs only [aw, V.copy, Nat.reduceLeDiff, eq_self, reduceIte, Nat.reduceBEq, Nat.reduceLT, Nat.reduceEqDiff, Nat.reduceAdd]
      rw [bs_self]
      first | exact fin_ret hb rfl rfl List.take_length ⟨rfl, rfl⟩ | exact fin_ret hb rfl rfl List.take_left ⟨rfl, rfl⟩
  | elem s x h hx =>
    rw [show signV (Ex.mk 3 0 s [x]).op = .tup [.d (dstr ⟨#[]⟩), .d (dint 0)] from sign_none (o := 3) (by omega)]
    rw [text_elem] at hlen ⊢
    have hT : ∀ σ, Fun G 40 [vex x, .d (dint 1)] σ (RetV (.d (dstr (bs (textE x)))) σ) := by
      have := rat_fun (x := x) 1 (by simp only [List.length_append, List.length_cons] at hlen; omega) (ih x (by simp [Ex.args]) hx (by simp only [List.length_append, List.length_cons] at hlen; omega))
      rw [atS_one] at this
      exact this
    obtain ⟨ss, rfl⟩ : ∃ ss, s = bs ss := ⟨_, (bs_self s).symm⟩
    rw [bs_list] at hlen ⊢
    simp only [List.length_append, List.length_cons, List.length_nil] at hlen
    generalize textE x = T at *
    have a1 : binV .add (V.d (dstr (bs ss))) (V.d (dstr ⟨#[91]⟩)) = some (V.d (dstr (bs (ss ++ [91])))) := add_bs ss [91] (by simp; omega)
    have a2 : binV .add (V.d (dstr (bs (ss ++ [91])))) (V.d (dstr (bs T))) = some (V.d (dstr (bs ((ss ++ [91]) ++ T)))) := add_bs (ss ++ [91]) T (by simp; omega)
    have a3 : binV .add (V.d (dstr (bs ((ss ++ [91]) ++ T)))) (V.d (dstr ⟨#[93]⟩)) = some (V.d (dstr (bs (((ss ++ [91]) ++ T) ++ [93])))) := add_bs ((ss ++ [91]) ++ T) [93] (by simp; omega)
    have hf : ss ++ 91 :: (T ++ [93]) = ((ss ++ [91]) ++ T) ++ [93] := by simp
    rw [hf]
    generalize ((ss ++ [91]) ++ T) ++ [93] = R3 at *
    generalize (ss ++ [91]) ++ T = R2 at *
    generalize ss ++ [91] = R1 at *
    simp -dsimp -implicitDefEqProofs only [aw, V.copy, V.lend, Nat.reduceLeDiff, eq_self, reduceIte, Nat.reduceBEq, Nat.reduceLT, Nat.reduceEqDiff, Nat.reduceAdd, mk_op, mk_num, mk_name, mk_args, Int.reduceLT, decide_false]
    refine fun_ret (r9prefix_fun _ _) ?_
    rw [show preS 3 = [] from rfl]
    simp -dsimp -implicitDefEqProofs only [aw, V.copy, V.lend, V.lend1, Nat.reduceLeDiff, eq_self, reduceIte, Nat.reduceBEq, Nat.reduceLT, Nat.reduceEqDiff, Nat.reduceAdd, nil_yes, Int.reduceEq, decide_true, decide_false, a1, ia0, dex_eq]
    refine calm_ret (by simpa only [vex_eq] using hT _) ?_
    simp -dsimp -implicitDefEqProofs only [aw, V.copy, eq_self, reduceIte, Nat.reduceBEq, Nat.reduceLT, Nat.reduceEqDiff, a2, a3]
    first | exact fin_ret hb rfl rfl List.take_length ⟨rfl, rfl⟩ | exact fin_ret hb rfl rfl List.take_left ⟨rfl, rfl⟩
  | pre o x h hx =>
    have hso : signV (Ex.mk o 0 ⟨#[]⟩ [x]).op = .tup [.d (dstr ⟨#[]⟩), .d (dint 0)] := sign_none (o := o) (by omega)
    rw [hso]
    rw [text_pre h] at hlen ⊢
    have hp : ¬ preS o = [] := fun hn => (pre_nil _).1 hn h
    have hd : decide (bs (preS o) = (⟨#[]⟩ : ByteArray)) = false := by rw [decide_eq_false_iff_not]; intro hh; exact hp (bs_inj.1 (hh : _ = bs []))
    have hle : (textE x).length ≤ (atS 13 x).length := by unfold atS; split <;> simp <;> omega
    rw [List.length_append] at hlen
    have hA : ∀ σ, Fun G 40 [vex x, .d (dint 13)] σ (RetV (.d (dstr (bs (atS 13 x)))) σ) := rat_fun (x := x) 13 (by omega) (ih x (by simp [Ex.args]) hx (by omega))
    generalize atS 13 x = A at *
    have a1 : binV .add (V.d (dstr (bs (preS o)))) (V.d (dstr (bs A))) = some (V.d (dstr (bs (preS o ++ A)))) := add_bs _ _ (by omega)
    generalize preS o ++ A = R1 at *
    simp -dsimp -implicitDefEqProofs only [aw, V.copy, V.lend, Nat.reduceLeDiff, eq_self, reduceIte, Nat.reduceBEq, Nat.reduceLT, Nat.reduceEqDiff, Nat.reduceAdd, mk_op, mk_num, mk_name, mk_args, Int.reduceLT, decide_false]
    refine fun_ret (r9prefix_fun _ _) ?_
    simp -dsimp -implicitDefEqProofs only [aw, V.copy, V.lend, Nat.reduceLeDiff, eq_self, reduceIte, Nat.reduceBEq, Nat.reduceLT, Nat.reduceEqDiff, Nat.reduceAdd, hd]
    refine calm_ret (r9prefix_fun _ _) ?_
    simp -dsimp -implicitDefEqProofs only [aw, V.copy, V.lend, V.lend1, Nat.reduceLeDiff, eq_self, reduceIte, Nat.reduceLT, Nat.reduceEqDiff, Nat.reduceAdd, ia0, dex_eq]
    refine calm_ret (by simpa only [vex_eq] using hA _) ?_
    simp -dsimp -implicitDefEqProofs only [aw, V.copy, eq_self, reduceIte, Nat.reduceBEq, Nat.reduceLT, Nat.reduceEqDiff, a1]
    first | exact fin_ret hb rfl rfl List.take_length ⟨rfl, rfl⟩ | exact fin_ret hb rfl rfl List.take_left ⟨rfl, rfl⟩
  | bin o m k x y h hx hy =>
    rw [text_bin h] at hlen ⊢
    have hle : ∀ k z, (textE z).length ≤ (atS k z).length := fun k z => by unfold atS; split <;> simp <;> omega
    have l1 := hle (if k = 2 then 3 else k) x
    have l2 := hle (if k = 2 then 2 else k + 1) y
    obtain ⟨ms, rfl⟩ : ∃ ms, m = bs ms := ⟨_, (bs_self m).symm⟩
    rw [bs_list] at hlen ⊢
    simp only [List.length_append, List.length_cons] at hlen
    have hA := rat_fun (x := x) (if k = 2 then 3 else k) (by omega) (ih x (by simp [Ex.args]) hx (by omega))
    have hB := rat_fun (x := y) (if k = 2 then 2 else k + 1) (by omega) (ih y (by simp [Ex.args]) hy (by omega))
    have hk12 := (bin_lev _ (binL_some h)).2.1
    simp only at hk12
    generalize atS (if k = 2 then 3 else k) x = A at *
    generalize atS (if k = 2 then 2 else k + 1) y = B at *
    have a1 : binV .add (V.d (dstr (bs A))) (V.d (dstr ⟨#[32]⟩)) = some (V.d (dstr (bs (A ++ [32])))) := add_bs A [32] (by simp; omega)
    have a2 : binV .add (V.d (dstr (bs (A ++ [32])))) (V.d (dstr (bs ms))) = some (V.d (dstr (bs ((A ++ [32]) ++ ms)))) := add_bs _ _ (by simp; omega)
    have a3 : binV .add (V.d (dstr (bs ((A ++ [32]) ++ ms)))) (V.d (dstr ⟨#[32]⟩)) = some (V.d (dstr (bs (((A ++ [32]) ++ ms) ++ [32])))) := add_bs _ [32] (by simp; omega)
    have a4 : binV .add (V.d (dstr (bs (((A ++ [32]) ++ ms) ++ [32])))) (V.d (dstr (bs B))) = some (V.d (dstr (bs ((((A ++ [32]) ++ ms) ++ [32]) ++ B)))) := add_bs _ _ (by simp; omega)
    have hf : A ++ (32 :: (ms ++ (32 :: B))) = (((A ++ [32]) ++ ms) ++ [32]) ++ B := by simp
    rw [hf]
    have hw1 : IntKind.i64.wrap (((k : Nat) : Int) + 1) = ((k + 1 : Nat) : Int) := by rw [wrap_i64 (by omega) (by omega)]; omega
    by_cases ho : o = 21
    · subst ho
      rw [show binL 21 = some (mark2 61 62, 2) by decide +kernel] at h
      have hm2 : mark2 61 62 = bs ms := by
        have := congrArg (Option.map Prod.fst) h
        simpa using this
      replace hm2 : bs [61, 62] = bs ms := hm2
      cases bs_inj.1 hm2
      have hk2 : (2 : Nat) = k := by
        have := congrArg (Option.map Prod.snd) h
        simpa using this
      subst hk2
      have hA : ∀ σ, Fun G 40 [vex x, .d (dint 3)] σ (RetV (.d (dstr (bs A))) σ) := hA
      have hB : ∀ σ, Fun G 40 [vex y, .d (dint 2)] σ (RetV (.d (dstr (bs B))) σ) := hB
      have b1 : binV .add (V.d (dstr (bs A))) (V.d (dstr ⟨#[32, 61, 62, 32]⟩)) = some (V.d (dstr (bs (A ++ [32, 61, 62, 32])))) := add_bs A [32, 61, 62, 32] (by simp; omega)
      have b2 : binV .add (V.d (dstr (bs (A ++ [32, 61, 62, 32])))) (V.d (dstr (bs B))) = some (V.d (dstr (bs ((A ++ [32, 61, 62, 32]) ++ B)))) := add_bs _ _ (by simp; omega)
      have hf2 : (((A ++ [32]) ++ [61, 62]) ++ [32]) ++ B = (A ++ [32, 61, 62, 32]) ++ B := by simp
      rw [hf2]
      generalize (A ++ [32, 61, 62, 32]) ++ B = R2' at *
      generalize A ++ [32, 61, 62, 32] = R1' at *
      rw [show signV (Ex.mk 21 0 ⟨#[]⟩ [x, y]).op = .tup [.d (dstr ⟨#[]⟩), .d (dint 0)] from rfl]
      simp -dsimp -implicitDefEqProofs only [aw, V.copy, V.lend, Nat.reduceLeDiff, eq_self, reduceIte, Nat.reduceBEq, Nat.reduceLT, Nat.reduceEqDiff, Nat.reduceAdd, mk_op, mk_num, mk_name, mk_args, Int.reduceLT, decide_false]
      refine fun_ret (r9prefix_fun _ _) ?_
      rw [show preS 21 = [] from rfl]
      simp -dsimp -implicitDefEqProofs only [aw, V.copy, V.lend, V.lend1, Nat.reduceLeDiff, eq_self, reduceIte, Nat.reduceBEq, Nat.reduceLT, Nat.reduceEqDiff, Nat.reduceAdd, nil_yes, Int.reduceEq, decide_true, decide_false, ia0, dex_eq]
      refine calm_ret (by simpa only [vex_eq] using hA _) ?_
      simp -dsimp -implicitDefEqProofs only [aw, V.copy, V.lend, V.lend1, Nat.reduceLeDiff, eq_self, reduceIte, Nat.reduceLT, Nat.reduceEqDiff, Nat.reduceAdd, b1, ia1]
      refine calm_ret (by simpa only [vex_eq] using hB _) ?_
      simp -dsimp -implicitDefEqProofs only [aw, V.copy, eq_self, reduceIte, Nat.reduceBEq, Nat.reduceLT, Nat.reduceEqDiff, b2]
      first | exact fin_ret hb rfl rfl List.take_length ⟨rfl, rfl⟩ | exact fin_ret hb rfl rfl List.take_left ⟨rfl, rfl⟩
    have hk2 : k ≠ 2 := fun e => ho ((bin_lev _ (binL_some h)).2.2.1 e).1
    have hk0 := (bin_lev _ (binL_some h)).1
    simp only at hk0
    have hsg : signV (Ex.mk o 0 ⟨#[]⟩ [x, y]).op = .tup [.d (dstr (bs ms)), .d (dint k)] := by
      show signV o = _
      unfold signV; rw [if_neg ho, h]
    rw [if_neg hk2] at hA hB
    generalize (((A ++ [32]) ++ ms) ++ [32]) ++ B = R4 at *
    generalize ((A ++ [32]) ++ ms) ++ [32] = R3 at *
    generalize (A ++ [32]) ++ ms = R2 at *
    generalize A ++ [32] = R1 at *
    rw [hsg]
    simp -dsimp -implicitDefEqProofs only [aw, V.copy, V.lend, V.lend1, Nat.reduceLeDiff, eq_self, reduceIte, Nat.reduceBEq, Nat.reduceLT, Nat.reduceEqDiff, Nat.reduceAdd, mk_op, mk_num, mk_name, mk_args, decide_eq_true (show (0 : Int) < ((k : Nat) : Int) by omega), ia0, dex_eq]
    refine calm_ret (by simpa only [vex_eq] using hA _) ?_
    simp -dsimp -implicitDefEqProofs only [aw, V.copy, V.lend, V.lend1, Nat.reduceLeDiff, eq_self, reduceIte, Nat.reduceLT, Nat.reduceEqDiff, Nat.reduceAdd, a1, a2, a3, hw1, ia1]
    refine calm_ret (by simpa only [vex_eq] using hB _) ?_
    simp -dsimp -implicitDefEqProofs only [aw, V.copy, eq_self, reduceIte, Nat.reduceBEq, Nat.reduceLT, Nat.reduceEqDiff, a4]
    first | exact fin_ret hb rfl rfl List.take_length ⟨rfl, rfl⟩ | exact fin_ret hb rfl rfl List.take_left ⟨rfl, rfl⟩
  | ite x y z hx hy hz =>
    rw [show signV (Ex.mk 22 0 ⟨#[]⟩ [x, y, z]).op = .tup [.d (dstr ⟨#[]⟩), .d (dint 0)] from sign_none (o := 22) (by omega)]
    rw [text_if] at hlen ⊢
    have hle : ∀ k z, (textE z).length ≤ (atS k z).length := fun k z => by unfold atS; split <;> simp <;> omega
    have l1 := hle 2 x
    have l2 := hle 1 y
    have l3 := hle 1 z
    simp only [List.length_append, List.length_cons, List.length_nil] at hlen
    have hA : ∀ σ, Fun G 40 [vex x, .d (dint 2)] σ (RetV (.d (dstr (bs (atS 2 x)))) σ) := rat_fun (x := x) 2 (by omega) (ih x (by simp [Ex.args]) hx (by omega))
    have hB : ∀ σ, Fun G 40 [vex y, .d (dint 1)] σ (RetV (.d (dstr (bs (atS 1 y)))) σ) := rat_fun (x := y) 1 (by omega) (ih y (by simp [Ex.args]) hy (by omega))
    have hC : ∀ σ, Fun G 40 [vex z, .d (dint 1)] σ (RetV (.d (dstr (bs (atS 1 z)))) σ) := rat_fun (x := z) 1 (by omega) (ih z (by simp [Ex.args]) hz (by omega))
    generalize atS 2 x = A at *
    generalize atS 1 y = B at *
    generalize atS 1 z = E at *
    have a1 : binV .add (V.d (dstr (bs A))) (V.d (dstr ⟨#[32, 63, 32]⟩)) = some (V.d (dstr (bs (A ++ [32, 63, 32])))) := add_bs A [32, 63, 32] (by simp; omega)
    have a2 : binV .add (V.d (dstr (bs (A ++ [32, 63, 32])))) (V.d (dstr (bs B))) = some (V.d (dstr (bs ((A ++ [32, 63, 32]) ++ B)))) := add_bs _ _ (by simp; omega)
    have a3 : binV .add (V.d (dstr (bs ((A ++ [32, 63, 32]) ++ B)))) (V.d (dstr ⟨#[32, 58, 32]⟩)) = some (V.d (dstr (bs (((A ++ [32, 63, 32]) ++ B) ++ [32, 58, 32])))) := add_bs _ [32, 58, 32] (by simp; omega)
    have a4 : binV .add (V.d (dstr (bs (((A ++ [32, 63, 32]) ++ B) ++ [32, 58, 32])))) (V.d (dstr (bs E))) = some (V.d (dstr (bs ((((A ++ [32, 63, 32]) ++ B) ++ [32, 58, 32]) ++ E)))) := add_bs _ _ (by simp; omega)
    have hf : A ++ ([32, 63, 32] ++ (B ++ ([32, 58, 32] ++ E))) = (((A ++ [32, 63, 32]) ++ B) ++ [32, 58, 32]) ++ E := by simp
    rw [hf]
    generalize (((A ++ [32, 63, 32]) ++ B) ++ [32, 58, 32]) ++ E = R4 at *
    generalize ((A ++ [32, 63, 32]) ++ B) ++ [32, 58, 32] = R3 at *
    generalize (A ++ [32, 63, 32]) ++ B = R2 at *
    generalize A ++ [32, 63, 32] = R1 at *
    simp -dsimp -implicitDefEqProofs only [aw, V.copy, V.lend, Nat.reduceLeDiff, eq_self, reduceIte, Nat.reduceBEq, Nat.reduceLT, Nat.reduceEqDiff, Nat.reduceAdd, mk_op, mk_num, mk_name, mk_args, Int.reduceLT, decide_false]
    refine fun_ret (r9prefix_fun _ _) ?_
    rw [show preS 22 = [] from rfl]
    simp -dsimp -implicitDefEqProofs only [aw, V.copy, V.lend, V.lend1, Nat.reduceLeDiff, eq_self, reduceIte, Nat.reduceBEq, Nat.reduceLT, Nat.reduceEqDiff, Nat.reduceAdd, nil_yes, decide_true, ia0, dex_eq]
    refine calm_ret (by simpa only [vex_eq] using hA _) ?_
    simp -dsimp -implicitDefEqProofs only [aw, V.copy, V.lend, V.lend1, Nat.reduceLeDiff, eq_self, reduceIte, Nat.reduceLT, Nat.reduceEqDiff, Nat.reduceAdd, a1, ia1]
    refine calm_ret (by simpa only [vex_eq] using hB _) ?_
    simp -dsimp -implicitDefEqProofs only [aw, V.copy, V.lend, V.lend1, Nat.reduceLeDiff, eq_self, reduceIte, Nat.reduceLT, Nat.reduceEqDiff, Nat.reduceAdd, a2, a3, ia2]
    refine calm_ret (by simpa only [vex_eq] using hC _) ?_
    simp -dsimp -implicitDefEqProofs only [aw, V.copy, eq_self, reduceIte, Nat.reduceBEq, Nat.reduceLT, Nat.reduceEqDiff, a4]
    first | exact fin_ret hb rfl rfl List.take_length ⟨rfl, rfl⟩ | exact fin_ret hb rfl rfl List.take_left ⟨rfl, rfl⟩
  | inside x l hx hl hev hne h32 =>
    rw [show signV (Ex.mk 23 0 ⟨#[]⟩ (x :: l)).op = .tup [.d (dstr ⟨#[]⟩), .d (dint 0)] from sign_none (o := 23) (by omega)]
    rw [text_inside] at hlen ⊢
    have hle : ∀ k z, (textE z).length ≤ (atS k z).length := fun k z => by unfold atS; split <;> simp <;> omega
    have l1 := hle 9 x
    simp only [List.length_append, List.length_cons, List.length_nil] at hlen
    have hA : ∀ σ, Fun G 40 [vex x, .d (dint 9)] σ (RetV (.d (dstr (bs (atS 9 x)))) σ) := rat_fun (x := x) 9 (by omega) (ih x (by simp [Ex.args]) hx (by omega))
    have hT : ∀ i (hi : i < l.length), (textE l[i]).length ≤ 1000000 → ∀ σ, Fun G 40 [vex l[i], .d (dint 1)] σ (RetV (.d (dstr (bs (textE l[i])))) σ) := fun i hi h => by
      have := rat_fun (x := l[i]) 1 h (ih l[i] (by simp [Ex.args]) (hl _ (List.getElem_mem hi)) h)
      rw [atS_one] at this
      exact this
    generalize atS 9 x = A at *
    have a1 : binV .add (V.d (dstr (bs A))) (V.d (dstr ⟨#[32, 105, 110, 115, 105, 100, 101, 32, 123, 32]⟩)) = some (V.d (dstr (bs (A ++ [32, 105, 110, 115, 105, 100, 101, 32, 123, 32])))) := add_bs A [32, 105, 110, 115, 105, 100, 101, 32, 123, 32] (by simp; omega)
    have hP : (A ++ [32, 105, 110, 115, 105, 100, 101, 32, 123, 32]).length = A.length + 10 := by simp
    rw [← List.append_assoc]
    generalize A ++ [32, 105, 110, 115, 105, 100, 101, 32, 123, 32] = P at *
    simp -dsimp -implicitDefEqProofs only [aw, V.copy, V.lend, Nat.reduceLeDiff, eq_self, reduceIte, Nat.reduceBEq, Nat.reduceLT, Nat.reduceEqDiff, Nat.reduceAdd, mk_op, mk_num, mk_name, mk_args, Int.reduceLT, decide_false]
    refine fun_ret (r9prefix_fun _ _) ?_
    rw [show preS 23 = [] from rfl]
    simp -dsimp -implicitDefEqProofs only [aw, V.copy, V.lend, V.lend1, Nat.reduceLeDiff, eq_self, reduceIte, Nat.reduceBEq, Nat.reduceLT, Nat.reduceEqDiff, Nat.reduceAdd, nil_yes, Int.reduceEq, decide_true, decide_false, ia0, dex_eq]
    refine fun_ret (by simpa only [vex_eq] using hA _) ?_
    simp -dsimp -implicitDefEqProofs only [aw, V.copy, eq_self, reduceIte, Nat.reduceBEq, Nat.reduceLT, Nat.reduceEqDiff, a1]
    refine awp_forK [1, 5, 6] (R := fun (j : Nat) ρ σ' => ρ = [(1, .ptr σ.length 0), (5, .d (dstr (bs (P ++ pairS (l.take (2 * j)))))), (6, vint .i64 ((2 * j + 1 : Nat) : Int))] ∧ σ' = σ ++ [[.d (dint 23), .d (dint 0), .d (dstr ⟨#[]⟩), .d (.sl ([dint x.op, dint x.num, dstr x.name, .sl (x.args.map dex)] :: l.map dex))]]) (l.length / 2) ⟨by simp [pairS]; rfl, rfl⟩ ?_ _
    rintro j ρ' σ' hj ⟨rfl, rfl⟩
    have hw1 : IntKind.i64.wrap (((2 * j + 1 : Nat) : Int) + 1) = ((2 * j + 2 : Nat) : Int) := by rw [wrap_i64 (by omega) (by omega)]; omega
    have hw2 : IntKind.i64.wrap (((2 * j + 1 : Nat) : Int) + 2) = ((2 * (j + 1) + 1 : Nat) : Int) := by rw [wrap_i64 (by omega) (by omega)]; omega
    by_cases hlt : j < l.length / 2
    · have h1 : 2 * j < l.length := by omega
      have h2 : 2 * j + 1 < l.length := by omega
      have hple := pair_le l j h2
      have hptk := pair_take l j
      have hptk1 := pair_take l (j + 1)
      have hT1 := hT (2 * j) h1 (by omega)
      have hT2 := hT (2 * j + 1) h2 (by omega)
      have hsn := pairS_snoc (l.take (2 * j)) l[2 * j] l[2 * j + 1] (by rw [List.length_take]; omega)
      rw [← take_two h2] at hsn
      generalize textE l[2 * j] = T1 at *
      generalize textE l[2 * j + 1] = T2 at *
      have hc : decide (((2 * j + 2 : Nat) : Int) < ((l.length + 1 : Nat) : Int)) = true := by rw [decide_eq_true_eq]; omega
      by_cases hj0 : 0 < j
      · have hg : decide ((1 : Int) < ((2 * j + 1 : Nat) : Int)) = true := by rw [decide_eq_true_eq]; omega
        have hne : ¬ l.take (2 * j) = [] := fun h => by
          have h1 := congrArg List.length h
          rw [List.length_take, List.length_nil] at h1; omega
        rw [if_neg hne] at hsn
        generalize pairS (l.take (2 * j)) = W at *
        generalize pairS (l.take (2 * (j + 1))) = W1 at *
        have b0 : binV .add (V.d (dstr (bs (P ++ W)))) (V.d (dstr ⟨#[44, 32]⟩)) = some (V.d (dstr (bs ((P ++ W) ++ [44, 32])))) := add_bs _ [44, 32] (by simp; omega)
        have b1 : binV .add (V.d (dstr (bs ((P ++ W) ++ [44, 32])))) (V.d (dstr (bs T1))) = some (V.d (dstr (bs (((P ++ W) ++ [44, 32]) ++ T1)))) := add_bs _ _ (by simp; omega)
        have b2 : binV .add (V.d (dstr (bs (((P ++ W) ++ [44, 32]) ++ T1)))) (V.d (dstr ⟨#[32, 46, 46, 32]⟩)) = some (V.d (dstr (bs ((((P ++ W) ++ [44, 32]) ++ T1) ++ [32, 46, 46, 32])))) := add_bs _ [32, 46, 46, 32] (by simp; omega)
        have b3 : binV .add (V.d (dstr (bs ((((P ++ W) ++ [44, 32]) ++ T1) ++ [32, 46, 46, 32])))) (V.d (dstr (bs T2))) = some (V.d (dstr (bs (P ++ W1)))) := by
          rw [add_bs _ T2 (by simp; omega), hsn]
          simp only [List.append_assoc]
        generalize P ++ W1 = R4 at *
        generalize ((((P ++ W) ++ [44, 32]) ++ T1) ++ [32, 46, 46, 32]) = R3 at *
        generalize ((P ++ W) ++ [44, 32]) ++ T1 = R2 at *
        generalize (P ++ W) ++ [44, 32] = R1 at *
        generalize P ++ W = R0 at *
        simp -dsimp -implicitDefEqProofs only [aw, V.copy, V.lend, V.lend1, Nat.reduceLeDiff, eq_self, reduceIte, Nat.reduceBEq, Nat.reduceLT, Nat.reduceEqDiff, Nat.reduceAdd, hw1, hc, hg, b0, List.getElem?_eq_getElem h1, dex_eq]
        refine calm_ret (by simpa only [vex_eq] using hT1 _) ?_
        simp -dsimp -implicitDefEqProofs only [aw, V.copy, V.lend, V.lend1, Nat.reduceLeDiff, eq_self, reduceIte, Nat.reduceLT, Nat.reduceEqDiff, Nat.reduceAdd, hw1, b1, b2, List.getElem?_eq_getElem h2, dex_eq]
        refine calm_ret (by simpa only [vex_eq] using hT2 _) ?_
        simp -dsimp -implicitDefEqProofs only [aw, V.copy, eq_self, reduceIte, Nat.reduceBEq, Nat.reduceLT, Nat.reduceEqDiff, b3, hw2]
        exact ⟨hlt, Nxt.same (by simp) (boxesBelow_app hb rfl) (by simp [slotsBelow, V.under]) ⟨rfl, rfl⟩⟩
      · have hg : decide ((1 : Int) < ((2 * j + 1 : Nat) : Int)) = false := by rw [decide_eq_false_iff_not]; omega
        have hje : l.take (2 * j) = [] := by rw [show 2 * j = 0 by omega]; rfl
        rw [if_pos hje] at hsn
        rw [hje, show pairS [] = [] from rfl, List.append_nil]
        generalize pairS (l.take (2 * (j + 1))) = W1 at *
        have b1 : binV .add (V.d (dstr (bs P))) (V.d (dstr (bs T1))) = some (V.d (dstr (bs (P ++ T1)))) := add_bs _ _ (by omega)
        have b2 : binV .add (V.d (dstr (bs (P ++ T1)))) (V.d (dstr ⟨#[32, 46, 46, 32]⟩)) = some (V.d (dstr (bs ((P ++ T1) ++ [32, 46, 46, 32])))) := add_bs _ [32, 46, 46, 32] (by simp; omega)
        have b3 : binV .add (V.d (dstr (bs ((P ++ T1) ++ [32, 46, 46, 32])))) (V.d (dstr (bs T2))) = some (V.d (dstr (bs (P ++ W1)))) := by
          rw [add_bs _ T2 (by simp; omega), hsn]
          simp only [List.append_assoc]
        generalize P ++ W1 = R4 at *
        generalize (P ++ T1) ++ [32, 46, 46, 32] = R3 at *
        generalize P ++ T1 = R2 at *
        simp -dsimp -implicitDefEqProofs only [aw, V.copy, V.lend, V.lend1, Nat.reduceLeDiff, eq_self, reduceIte, Nat.reduceBEq, Nat.reduceLT, Nat.reduceEqDiff, Nat.reduceAdd, hw1, hc, hg, List.getElem?_eq_getElem h1, dex_eq]
        refine calm_ret (by simpa only [vex_eq] using hT1 _) ?_
        simp -dsimp -implicitDefEqProofs only [aw, V.copy, V.lend, V.lend1, Nat.reduceLeDiff, eq_self, reduceIte, Nat.reduceLT, Nat.reduceEqDiff, Nat.reduceAdd, hw1, b1, b2, List.getElem?_eq_getElem h2, dex_eq]
        refine calm_ret (by simpa only [vex_eq] using hT2 _) ?_
        simp -dsimp -implicitDefEqProofs only [aw, V.copy, eq_self, reduceIte, Nat.reduceBEq, Nat.reduceLT, Nat.reduceEqDiff, b3, hw2]
        exact ⟨hlt, Nxt.same (by simp) (boxesBelow_app hb rfl) (by simp [slotsBelow, V.under]) ⟨rfl, rfl⟩⟩
    · have hc : decide (((2 * j + 2 : Nat) : Int) < ((l.length + 1 : Nat) : Int)) = false := by rw [decide_eq_false_iff_not]; omega
      rw [List.take_of_length_le (show l.length ≤ 2 * j by omega), ← List.append_assoc]
      have a2 : binV .add (V.d (dstr (bs (P ++ pairS l)))) (V.d (dstr ⟨#[32, 125]⟩)) = some (V.d (dstr (bs ((P ++ pairS l) ++ [32, 125])))) := add_bs _ [32, 125] (by simp; omega)
      generalize (P ++ pairS l) ++ [32, 125] = R2 at *
      generalize P ++ pairS l = R1 at *
      simp -dsimp -implicitDefEqProofs only [aw, V.copy, V.lend, Nat.reduceLeDiff, eq_self, reduceIte, reduceCtorEq, Nat.reduceBEq, Nat.reduceLT, Nat.reduceEqDiff, Nat.reduceAdd, hw1, hc, a2]
      first | exact fin_ret hb rfl rfl List.take_length ⟨rfl, rfl⟩ | exact fin_ret hb rfl rfl List.take_left ⟨rfl, rfl⟩
  | sum s h =>
    rw [show signV (Ex.mk 24 0 s []).op = .tup [.d (dstr ⟨#[]⟩), .d (dint 0)] from sign_none (o := 24) (by omega)]
    rw [text_sum] at hlen ⊢
    obtain ⟨ss, rfl⟩ : ∃ ss, s = bs ss := ⟨_, (bs_self s).symm⟩
    rw [bs_list] at hlen ⊢
    simp only [List.length_append, List.length_cons, List.length_nil] at hlen
    have a1 : binV .add (V.d (dstr ⟨#[115, 117, 109, 40]⟩)) (V.d (dstr (bs ss))) = some (V.d (dstr (bs ([115, 117, 109, 40] ++ ss)))) := add_bs [115, 117, 109, 40] ss (by simp; omega)
    have a2 : binV .add (V.d (dstr (bs ([115, 117, 109, 40] ++ ss)))) (V.d (dstr ⟨#[41]⟩)) = some (V.d (dstr (bs (([115, 117, 109, 40] ++ ss) ++ [41])))) := add_bs _ [41] (by simp; omega)
    rw [← List.append_assoc]
    generalize ([115, 117, 109, 40] ++ ss) ++ [41] = R2 at *
    generalize [115, 117, 109, 40] ++ ss = R1 at *
    simp -dsimp -implicitDefEqProofs only [aw, V.copy, V.lend, Nat.reduceLeDiff, eq_self, reduceIte, Nat.reduceBEq, Nat.reduceLT, Nat.reduceEqDiff, Nat.reduceAdd, mk_op, mk_num, mk_name, mk_args, Int.reduceLT, decide_false]
    refine fun_ret (r9prefix_fun _ _) ?_
    rw [show preS 24 = [] from rfl]
    simp -dsimp -implicitDefEqProofs only [aw, V.copy, Nat.reduceLeDiff, eq_self, reduceIte, Nat.reduceBEq, Nat.reduceLT, Nat.reduceEqDiff, Nat.reduceAdd, nil_yes, Int.reduceEq, decide_true, decide_false, a1, a2]
    first | exact fin_ret hb rfl rfl List.take_length ⟨rfl, rfl⟩ | exact fin_ret hb rfl rfl List.take_left ⟨rfl, rfl⟩
  | ones x hx =>
    rw [show signV (Ex.mk 25 0 ⟨#[]⟩ [x]).op = .tup [.d (dstr ⟨#[]⟩), .d (dint 0)] from sign_none (o := 25) (by omega)]
    rw [text_ones] at hlen ⊢
    simp only [List.length_append, List.length_cons, List.length_nil] at hlen
    have hT : ∀ σ, Fun G 40 [vex x, .d (dint 1)] σ (RetV (.d (dstr (bs (textE x)))) σ) := by
      have := rat_fun (x := x) 1 (by omega) (ih x (by simp [Ex.args]) hx (by omega))
      rw [atS_one] at this
      exact this
    generalize textE x = T at *
    have a1 : binV .add (V.d (dstr ⟨#[111, 110, 101, 115, 40]⟩)) (V.d (dstr (bs T))) = some (V.d (dstr (bs ([111, 110, 101, 115, 40] ++ T)))) := add_bs [111, 110, 101, 115, 40] T (by simp; omega)
    have a2 : binV .add (V.d (dstr (bs ([111, 110, 101, 115, 40] ++ T)))) (V.d (dstr ⟨#[41]⟩)) = some (V.d (dstr (bs (([111, 110, 101, 115, 40] ++ T) ++ [41])))) := add_bs _ [41] (by simp; omega)
    rw [← List.append_assoc]
    generalize ([111, 110, 101, 115, 40] ++ T) ++ [41] = R2 at *
    generalize [111, 110, 101, 115, 40] ++ T = R1 at *
    simp -dsimp -implicitDefEqProofs only [aw, V.copy, V.lend, Nat.reduceLeDiff, eq_self, reduceIte, Nat.reduceBEq, Nat.reduceLT, Nat.reduceEqDiff, Nat.reduceAdd, mk_op, mk_num, mk_name, mk_args, Int.reduceLT, decide_false]
    refine fun_ret (r9prefix_fun _ _) ?_
    rw [show preS 25 = [] from rfl]
    simp -dsimp -implicitDefEqProofs only [aw, V.copy, V.lend, V.lend1, Nat.reduceLeDiff, eq_self, reduceIte, Nat.reduceBEq, Nat.reduceLT, Nat.reduceEqDiff, Nat.reduceAdd, nil_yes, Int.reduceEq, decide_true, decide_false, ia0, dex_eq]
    refine fun_ret (by simpa only [vex_eq] using hT _) ?_
    simp -dsimp -implicitDefEqProofs only [aw, V.copy, eq_self, reduceIte, Nat.reduceBEq, Nat.reduceLT, Nat.reduceEqDiff, a1, a2]
    first | exact fin_ret hb rfl rfl List.take_length ⟨rfl, rfl⟩ | exact fin_ret hb rfl rfl List.take_left ⟨rfl, rfl⟩
theorem valid_err {e : Ex} (h : validE e = 0) : errE e = 0 ∧ esize e ≤ 400 := by
  unfold validE at h
  split at h
  · cases h
  · rename_i hn
    exact ⟨h, by omega⟩
theorem fun_etPrint (e : Ex) (hs : esize e ≤ 1000000) (hd : edepth e ≤ 1000000) (σ : List (List V)) : Fun G 7 [vex e] σ (RetV (.d (dstr (bs (if validE e = 0 then textE e else [])))) σ) := by
  have hv := fun_valid e hs hd
  refine fun_code Tryz.func7 k7 (by simp only [vex_eq]; rfl) fun hb hw => ?_
  delta c7 oM oV kI kS kT kF
  simp -dsimp -implicitDefEqProofs only [aw, slots0, V.copy, V.lend, V.lend1, V.cells, V.boxable, Nat.reduceLeDiff, eq_self, reduceIte, reduceCtorEq, Nat.reduceBEq, Nat.reduceLT, Nat.reduceEqDiff, Nat.reduceAdd, vex_eq]
  refine fun_ret (by simpa only [vex_eq] using hv _) ?_
  by_cases h : validE e = 0
  · rw [if_pos h]
    have he := valid_err h
    have hlen := text_len e he.1
    have hT := text_fun e he.1 (by omega)
    generalize textE e = T at *
    simp -dsimp -implicitDefEqProofs only [aw, V.copy, V.lend, V.lend1, Nat.reduceLeDiff, eq_self, reduceIte, Nat.reduceBEq, Nat.reduceLT, Nat.reduceEqDiff, Nat.reduceAdd, decide_eq_true h]
    refine fun_ret (by simpa only [vex_eq] using hT _) ?_
    simp -dsimp -implicitDefEqProofs only [aw, V.copy, eq_self, reduceIte, Nat.reduceBEq, Nat.reduceLT, Nat.reduceEqDiff]
    first | exact fin_ret hb rfl rfl List.take_length ⟨rfl, rfl⟩ | exact fin_ret hb rfl rfl List.take_left ⟨rfl, rfl⟩
  · rw [if_neg h]
    simp -dsimp -implicitDefEqProofs only [aw, V.copy, eq_self, reduceIte, Nat.reduceBEq, Nat.reduceLT, Nat.reduceEqDiff, decide_eq_false h]
    first | exact fin_ret hb rfl rfl List.take_length ⟨rfl, rfl⟩ | exact fin_ret hb rfl rfl List.take_left ⟨rfl, rfl⟩
theorem fun_r9Print (e : Ex) (hs : esize e ≤ 1000000) (hd : edepth e ≤ 999999) (σ : List (List V)) : Fun G 8 [vex e] σ (RetV (.d (dstr (bs (if validE e = 0 then textE e else [])))) σ) := by
  have hv := fun_rvalid e hs hd
  refine fun_code Tryz.func8 k8 (by simp only [vex_eq]; rfl) fun hb hw => ?_
  delta c8 oM oV kI kS kT kF
  simp -dsimp -implicitDefEqProofs only [aw, slots0, V.copy, V.lend, V.lend1, V.cells, V.boxable, Nat.reduceLeDiff, eq_self, reduceIte, reduceCtorEq, Nat.reduceBEq, Nat.reduceLT, Nat.reduceEqDiff, Nat.reduceAdd, vex_eq]
  refine fun_ret (by simpa only [vex_eq] using hv _) ?_
  by_cases h : validE e = 0
  · rw [if_pos h]
    have he := valid_err h
    have hlen := text_len e he.1
    have hT := plain_fun e he.1 (by omega)
    generalize textE e = T at *
    simp -dsimp -implicitDefEqProofs only [aw, V.copy, V.lend, V.lend1, Nat.reduceLeDiff, eq_self, reduceIte, Nat.reduceBEq, Nat.reduceLT, Nat.reduceEqDiff, Nat.reduceAdd, decide_eq_true h]
    refine fun_ret (by simpa only [vex_eq] using hT _) ?_
    simp -dsimp -implicitDefEqProofs only [aw, V.copy, eq_self, reduceIte, Nat.reduceBEq, Nat.reduceLT, Nat.reduceEqDiff]
    first | exact fin_ret hb rfl rfl List.take_length ⟨rfl, rfl⟩ | exact fin_ret hb rfl rfl List.take_left ⟨rfl, rfl⟩
  · rw [if_neg h]
    simp -dsimp -implicitDefEqProofs only [aw, V.copy, eq_self, reduceIte, Nat.reduceBEq, Nat.reduceLT, Nat.reduceEqDiff, decide_eq_false h]
    first | exact fin_ret hb rfl rfl List.take_length ⟨rfl, rfl⟩ | exact fin_ret hb rfl rfl List.take_left ⟨rfl, rfl⟩
end Go.Proofs.YteopfpebdalcoaaGreatDoor
