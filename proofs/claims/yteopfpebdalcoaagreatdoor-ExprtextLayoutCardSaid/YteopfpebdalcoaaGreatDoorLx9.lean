/-
  The laws of this chapter: what is parsed is printed and parsed again; only tokens matter.
-/
import Derived.Test.YteopfpebdalcoaaGreatDoorLw9
import Derived.Test.YteopfpebdalcoaaGreatDoorRef7c
import Derived.Test.YteopfpebdalcoaaGreatDoorJoin7
set_option linter.unusedVariables false
set_option linter.unusedSimpArgs false
set_option linter.unusedSectionVars false
namespace Go.Proofs.YteopfpebdalcoaaGreatDoor
open Go.RowKit
theorem parseT_ok {ts : List Tok} {e : Ex} {n : Int} (h : parseT ts = (e, n, 0)) : n = 0 ∧ validE e = 0 ∧ par .W ts = .ok e [] := by
  unfold parseT at h
  generalize hp : par .W ts = x at h ⊢
  match x, hp, h with
  | .out, hp, _ => exact absurd hp (par_ne _ _)
  | .bad c r, hp, h =>
    have h3 := congrArg (fun x : Ex × Int × Int => x.2.2) h
    exact absurd h3 (par_bad hp).1
  | .ok e' [], hp, h =>
    by_cases hv : validE e' = 0
    · have h' := (if_pos hv).symm.trans h
      have h1 := congrArg (fun x : Ex × Int × Int => x.1) h'
      have h2 := congrArg (fun x : Ex × Int × Int => x.2.1) h'
      simp only at h1 h2
      subst h1
      exact ⟨h2.symm, hv, rfl⟩
    · have h' := (if_neg hv).symm.trans h
      have h3 := congrArg (fun x : Ex × Int × Int => x.2.2) h'
      exact absurd h3 hv
  | .ok e' (t :: r), hp, h =>
    have h3 := congrArg (fun x : Ex × Int × Int => x.2.2) h
    exact absurd (show (5 : Int) = 0 from h3) (by decide)
theorem parse_ok {l : Bs} {e : Ex} {n : Int} (h : parseL l = (e, n, 0)) : l.length ≤ 16384 ∧ n = 0 ∧ validE e = 0 ∧ ∃ ts, toksL l = .ok ts ∧ par .W ts = .ok e [] := by
  unfold parseL at h
  by_cases hl : 16384 < l.length
  · rw [if_pos hl] at h
    have h3 := congrArg (fun x : Ex × Int × Int => x.2.2) h
    exact absurd (show (2 : Int) = 0 from h3) (by decide)
  · rw [if_neg hl] at h
    generalize ht : toksL l = x at h ⊢
    match x, ht, h with
    | .err n' e', ht, h =>
      have h3 := congrArg (fun x : Ex × Int × Int => x.2.2) h
      exact absurd h3 (parse_err ht)
    | .ok ts, ht, h =>
      obtain ⟨h1, h2, h3⟩ := parseT_ok h
      exact ⟨by omega, h1, h2, ts, rfl, h3⟩
def one9 (t : Tok) : Tok := ⟨t.kind, t.num, t.text, 1⟩
theorem one9_same : SameTok one9 := ⟨fun _ => rfl, fun _ => rfl, fun _ => rfl⟩
theorem map_ok {x : PR} {e : Ex} (h : x.mapT one9 = .ok e []) : x = .ok e [] := by
  cases x with
  | out => cases h
  | bad c r => cases h
  | ok e' r =>
    simp only [PR.mapT, PR.ok.injEq, List.map_eq_nil_iff] at h
    rw [h.1, h.2]
theorem parse_paren {l : Bs} {e : Ex} {n : Int} (h : parseL l = (e, n, 0)) : parseL (40 :: (l ++ [10, 41])) = if 16384 < l.length + 3 then (z0, 0, 2) else (e, 0, 0) := by
  obtain ⟨-, -, hv, ts, ht, hp⟩ := parse_ok h
  obtain ⟨k, hk⟩ := toks_paren ht
  have hlen : (40 :: (l ++ [10, 41]) : Bs).length = l.length + 3 := by simp
  have h1 : par .W (ts.map one9) = .ok e [] := by rw [par_map one9_same, hp]; rfl
  have h2 := par_paren h1
  have h3 : (tm (mark1 40) :: (ts ++ [⟨4, 0, mark1 41, k⟩])).map one9 = tm (mark1 40) :: (ts.map one9 ++ [tm (mark1 41)]) := by simp [one9, tm]
  rw [← h3, par_map one9_same] at h2
  have h4 := map_ok h2
  have hT : parseT (tm (mark1 40) :: (ts ++ [⟨4, 0, mark1 41, k⟩])) = (e, 0, 0) := by
    unfold parseT
    rw [h4]
    simp only
    rw [if_pos hv]
  unfold parseL
  rw [hlen, hk]
  by_cases hl : 16384 < l.length + 3
  · rw [if_pos hl, if_pos hl]
  · rw [if_neg hl, if_neg hl]; exact hT
set_option maxHeartbeats 1000000 in
theorem canonical_fun (l : Bs) : Fun G 5 [.d (dstr (bs l))] [] (RetV (.d (.lit (.bool true))) []) := by
  refine fun_code Tryz.func5 k5 rfl fun hb hw => ?_
  delta c5 oM oV kI kS kT kF
  have h1 := fun σ => parse_fun l σ
  obtain ⟨x, hx⟩ : ∃ x, x = parseL l := ⟨_, rfl⟩
  obtain ⟨e, n, f⟩ := x
  rw [← hx] at h1
  by_cases hf : f = 0
  · subst hf
    have hll : (l.length : Int) ≤ 16384 := by have := (parse_ok hx.symm).1; omega
    have hv := (parse_ok hx.symm).2.2.1
    have h2 := fun σ => etprint_valid hv σ
    have h3 := fun σ => parse_fun (textE e) σ
    rw [parse_text hv] at h3
    have h4 := fun σ => parse_fun (40 :: (l ++ [10, 41])) σ
    rw [parse_paren hx.symm] at h4
    have hs := fun σ => rsame_fun e e σ
    rw [sameE_refl9] at hs
    have a1 : binV .add (V.d (dstr ⟨#[40]⟩)) (V.d (dstr (bs l))) = some (V.d (dstr (bs (40 :: l)))) := add_bs [40] l (by simp; omega)
    have a2 : binV .add (V.d (dstr (bs (40 :: l)))) (V.d (dstr ⟨#[10, 41]⟩)) = some (V.d (dstr (bs (40 :: (l ++ [10, 41]))))) := add_bs (40 :: l) [10, 41] (by simp; omega)
    have hw3 : IntKind.i64.wrap (((l.length : Nat) : Int) + 3) = ((l.length : Nat) : Int) + 3 := wrap_i64 (by omega) (by omega)
    simp -dsimp -implicitDefEqProofs only [aw, slots0, V.copy, V.lend, eq_self, reduceIte, reduceCtorEq, Nat.reduceBEq, Nat.reduceLT]
    refine fun_ret (h1 _) ?_
    simp -dsimp -implicitDefEqProofs only [aw, V.copy, V.lend, V.lend1, V.cells, V.boxable, over, Nat.reduceLeDiff, eq_self, reduceIte, reduceCtorEq, Nat.reduceBEq, Nat.reduceLT, Nat.reduceEqDiff, Nat.reduceAdd, triV, vex_eq, decide_true]
    refine fun_ret (by simpa only [vex_eq] using h2 _) ?_
    simp -dsimp -implicitDefEqProofs only [aw, V.copy, V.lend, eq_self, reduceIte, reduceCtorEq, Nat.reduceBEq, Nat.reduceLT, Nat.reduceEqDiff]
    refine fun_ret (h3 _) ?_
    by_cases hl : 16384 < (textE e).length
    · have hl' : (16384 : Int) < (((textE e).length : Nat) : Int) := by omega
      rw [if_pos hl]
      simp -dsimp -implicitDefEqProofs only [aw, V.copy, V.lend, V.cells, V.boxable, over, Nat.reduceLeDiff, eq_self, reduceIte, reduceCtorEq, Nat.reduceBEq, Nat.reduceLT, Nat.reduceEqDiff, Nat.reduceAdd, triV, vex_z0, a1, a2]
      refine fun_ret (h4 _) ?_
      by_cases hq : 16384 < l.length + 3
      · have hq' : (16384 : Int) < ((l.length : Nat) : Int) + 3 := by omega
        rw [if_pos hq]
        simp -dsimp -implicitDefEqProofs only [aw, V.copy, V.lend, V.cells, V.boxable, over, Nat.reduceLeDiff, cond_true, eq_self, reduceIte, reduceCtorEq, Nat.reduceBEq, Nat.reduceLT, Nat.reduceEqDiff, Nat.reduceAdd, triV, vex_z0, bs_size, decide_eq_true hl', hw3, decide_eq_true hq']
        refine fun_ret (aw9_fun _) ?_
        simp -dsimp -implicitDefEqProofs only [aw, V.copy, cond_true, eq_self, reduceIte, reduceCtorEq, Nat.reduceBEq, Nat.reduceLT, Nat.reduceEqDiff]
        first | exact fin_ret hb rfl rfl List.take_length ⟨rfl, rfl⟩ | exact fin_ret hb rfl rfl List.take_left ⟨rfl, rfl⟩
      · have hq' : ¬ (16384 : Int) < ((l.length : Nat) : Int) + 3 := by omega
        rw [if_neg hq]
        simp -dsimp -implicitDefEqProofs only [aw, V.copy, V.lend, V.lend1, V.cells, V.boxable, over, Nat.reduceLeDiff, eq_self, reduceIte, reduceCtorEq, Nat.reduceBEq, Nat.reduceLT, Nat.reduceEqDiff, Nat.reduceAdd, triV, vex_eq, bs_size, decide_eq_true hl', hw3, decide_eq_false hq', decide_true]
        refine fun_ret (by simpa only [vex_eq] using hs _) ?_
        simp -dsimp -implicitDefEqProofs only [aw, V.copy, V.lend, cond_true, cond_false, eq_self, reduceIte, reduceCtorEq, Nat.reduceLT, Nat.reduceEqDiff]
        refine fun_ret (aw9_fun _) ?_
        simp -dsimp -implicitDefEqProofs only [aw, V.copy, cond_true, eq_self, reduceIte, reduceCtorEq, Nat.reduceBEq, Nat.reduceLT, Nat.reduceEqDiff]
        first | exact fin_ret hb rfl rfl List.take_length ⟨rfl, rfl⟩ | exact fin_ret hb rfl rfl List.take_left ⟨rfl, rfl⟩
    · have hl' : ¬ (16384 : Int) < (((textE e).length : Nat) : Int) := by omega
      rw [if_neg hl]
      simp -dsimp -implicitDefEqProofs only [aw, V.copy, V.lend, V.cells, V.boxable, over, Nat.reduceLeDiff, eq_self, reduceIte, reduceCtorEq, Nat.reduceBEq, Nat.reduceLT, Nat.reduceEqDiff, Nat.reduceAdd, triV, vex_eq, a1, a2]
      refine fun_ret (h4 _) ?_
      by_cases hq : 16384 < l.length + 3
      · have hq' : (16384 : Int) < ((l.length : Nat) : Int) + 3 := by omega
        rw [if_pos hq]
        simp -dsimp -implicitDefEqProofs only [aw, V.copy, V.lend, V.lend1, V.cells, V.boxable, over, Nat.reduceLeDiff, eq_self, reduceIte, reduceCtorEq, Nat.reduceBEq, Nat.reduceLT, Nat.reduceEqDiff, Nat.reduceAdd, triV, vex_eq, bs_size, decide_eq_false hl', decide_true]
        refine fun_ret (by simpa only [vex_eq] using hs _) ?_
        simp -dsimp -implicitDefEqProofs only [aw, V.copy, V.lend, V.lend1, Nat.reduceLeDiff, cond_true, eq_self, reduceIte, reduceCtorEq, Nat.reduceLT, Nat.reduceEqDiff, Nat.reduceAdd]
        refine fun_ret (by simpa only [vex_eq] using h2 _) ?_
        simp -dsimp -implicitDefEqProofs only [aw, V.copy, V.lend, cond_true, cond_false, eq_self, reduceIte, reduceCtorEq, Nat.reduceLT, Nat.reduceEqDiff, hw3, bs_size, decide_eq_true hq', decide_true]
        refine fun_ret (aw9_fun _) ?_
        simp -dsimp -implicitDefEqProofs only [aw, V.copy, cond_true, eq_self, reduceIte, reduceCtorEq, Nat.reduceBEq, Nat.reduceLT, Nat.reduceEqDiff]
        first | exact fin_ret hb rfl rfl List.take_length ⟨rfl, rfl⟩ | exact fin_ret hb rfl rfl List.take_left ⟨rfl, rfl⟩
      · have hq' : ¬ (16384 : Int) < ((l.length : Nat) : Int) + 3 := by omega
        rw [if_neg hq]
        simp -dsimp -implicitDefEqProofs only [aw, V.copy, V.lend, V.lend1, V.cells, V.boxable, over, Nat.reduceLeDiff, eq_self, reduceIte, reduceCtorEq, Nat.reduceBEq, Nat.reduceLT, Nat.reduceEqDiff, Nat.reduceAdd, triV, vex_eq, bs_size, decide_eq_false hl', decide_true]
        refine fun_ret (by simpa only [vex_eq] using hs _) ?_
        simp -dsimp -implicitDefEqProofs only [aw, V.copy, V.lend, V.lend1, Nat.reduceLeDiff, cond_true, eq_self, reduceIte, reduceCtorEq, Nat.reduceLT, Nat.reduceEqDiff, Nat.reduceAdd]
        refine fun_ret (by simpa only [vex_eq] using h2 _) ?_
        simp -dsimp -implicitDefEqProofs only [aw, V.copy, V.lend, V.lend1, Nat.reduceLeDiff, cond_true, cond_false, eq_self, reduceIte, reduceCtorEq, Nat.reduceLT, Nat.reduceEqDiff, Nat.reduceAdd, hw3, bs_size, decide_eq_false hq', decide_true]
        refine fun_ret (by simpa only [vex_eq] using hs _) ?_
        simp -dsimp -implicitDefEqProofs only [aw, V.copy, V.lend, cond_true, cond_false, eq_self, reduceIte, reduceCtorEq, Nat.reduceLT, Nat.reduceEqDiff]
        refine fun_ret (aw9_fun _) ?_
        simp -dsimp -implicitDefEqProofs only [aw, V.copy, cond_true, eq_self, reduceIte, reduceCtorEq, Nat.reduceBEq, Nat.reduceLT, Nat.reduceEqDiff]
        first | exact fin_ret hb rfl rfl List.take_length ⟨rfl, rfl⟩ | exact fin_ret hb rfl rfl List.take_left ⟨rfl, rfl⟩
  · simp -dsimp -implicitDefEqProofs only [aw, slots0, V.copy, V.lend, eq_self, reduceIte, reduceCtorEq, Nat.reduceBEq, Nat.reduceLT]
    refine fun_ret (h1 _) ?_
    simp -dsimp -implicitDefEqProofs only [aw, V.copy, V.lend, V.cells, V.boxable, over, Nat.reduceLeDiff, eq_self, reduceIte, reduceCtorEq, Nat.reduceBEq, Nat.reduceLT, Nat.reduceEqDiff, Nat.reduceAdd, triV, vex_eq, decide_eq_false hf]
    refine fun_ret (aw9_fun _) ?_
    simp -dsimp -implicitDefEqProofs only [aw, V.copy, eq_self, reduceIte, reduceCtorEq, Nat.reduceBEq, Nat.reduceLT, Nat.reduceEqDiff]
    first | exact fin_ret hb rfl rfl List.take_length ⟨rfl, rfl⟩ | exact fin_ret hb rfl rfl List.take_left ⟨rfl, rfl⟩
theorem r7tokens_any (l : Bs) (σ : List (List V)) : Fun G 13 [.d (dstr (bs l))] σ (RetV (lexR l) σ) := by
  by_cases hbig : 16384 < l.length
  · refine fun_code Tryz.func13 k13 rfl fun hb hw => ?_
    delta c13 oM oV kI kS kT kF
    have hbig' : (16384 : Int) < ((l.length : Nat) : Int) := by omega
    simp -dsimp -implicitDefEqProofs only [aw, slots0, V.copy, V.lend, eq_self, reduceIte, reduceCtorEq, Nat.reduceBEq, Nat.reduceLT, Nat.reduceEqDiff, bs_size, decide_eq_true hbig']
    exact fin_ret hb (v := lexR l) (by unfold lexR; rw [if_pos hbig]; rfl) (by unfold lexR; rw [if_pos hbig]; rfl) List.take_length ⟨rfl, rfl⟩
  · exact r7tokens_fun l (by omega) σ
theorem parse_take (ts : List Tok) : ∃ (ea : Ex) (na fa : Int) (ec : Ex) (kc hc : Int), parseT ts = (ea, na, fa) ∧ takeT ts = (ec, kc, hc) ∧
    ((fa = 0 ∧ hc = 0 ∧ kc = (ts.length : Nat) ∧ ec = ea) ∨ (fa ≠ 0 ∧ hc = 0 ∧ fa = 5 ∧ ∃ (t : Tok) (k : Nat), kc = (k : Nat) ∧ ts[k]? = some t ∧ k < ts.length ∧ na = t.line) ∨ (fa ≠ 0 ∧ hc ≠ 0 ∧ (hc = fa ∨ fa = 5))) := by
  have hsuf := par_took .W ts
  cases hp : par .W ts with
  | out => exact absurd hp (par_ne _ _)
  | bad c r =>
    have hc := (par_bad hp).1
    exact ⟨z0, _, c, z0, _, c, by unfold parseT; rw [hp], by unfold takeT; rw [hp], .inr (.inr ⟨hc, hc, .inl rfl⟩)⟩
  | ok e r =>
    rw [hp] at hsuf
    cases r with
    | nil =>
      by_cases hv : validE e = 0
      · exact ⟨e, 0, 0, e, _, 0, by unfold parseT; rw [hp]; simp only; rw [if_pos hv], by unfold takeT; rw [hp]; simp only; rw [if_pos hv], .inl ⟨rfl, rfl, by simp, rfl⟩⟩
      · exact ⟨z0, 0, validE e, z0, 0, validE e, by unfold parseT; rw [hp]; simp only; rw [if_neg hv], by unfold takeT; rw [hp]; simp only; rw [if_neg hv], .inr (.inr ⟨hv, hv, .inl rfl⟩)⟩
    | cons t r =>
      by_cases hv : validE e = 0
      · have hsl := hsuf.1.length_le
        simp only [List.length_cons] at hsl
        have hget : ts[ts.length - (r.length + 1)]? = some t := by
          have := suf_drop hsuf.1
          simp only [List.length_cons] at this
          have h2 := congrArg (·[0]?) this
          simp only [List.getElem?_cons_zero, List.getElem?_drop, Nat.add_zero] at h2
          exact h2.symm
        exact ⟨z0, t.line, 5, e, ((ts.length - (r.length + 1) : Nat) : Int), 0, by unfold parseT; rw [hp], by unfold takeT; rw [hp]; simp only; rw [if_pos hv]; rfl, .inr (.inl ⟨by decide, rfl, rfl, t, _, rfl, hget, by omega, rfl⟩)⟩
      · exact ⟨z0, t.line, 5, z0, 0, validE e, by unfold parseT; rw [hp], by unfold takeT; rw [hp]; simp only; rw [if_neg hv], .inr (.inr ⟨by decide, hv, .inr rfl⟩)⟩
theorem parse_one (ts : List Tok) : ∃ n, parseT (ts.map one9) = ((parseT ts).1, n, (parseT ts).2.2) := by
  unfold parseT
  rw [par_map one9_same]
  cases par .W ts with
  | out => exact ⟨_, rfl⟩
  | bad c r => exact ⟨_, rfl⟩
  | ok e r =>
    cases r with
    | nil =>
      simp only [PR.mapT, List.map_nil]
      split <;> exact ⟨_, rfl⟩
    | cons t r => exact ⟨_, rfl⟩
set_option maxHeartbeats 1000000 in
theorem layout_fun (l : Bs) : Fun G 6 [.d (dstr (bs l))] [] (RetV (.d (.lit (.bool true))) []) := by
  refine fun_code Tryz.func6 k6 rfl fun hb hw => ?_
  delta c6 oM oV kI kS kT kF
  have h1 := fun σ => r7tokens_any l σ
  by_cases hbig : 16384 < l.length
  · have : lexR l = .tup [.d (.sl []), .d (dint 0), .d (dint 2)] := by unfold lexR; rw [if_pos hbig]
    rw [this] at h1
    simp -dsimp -implicitDefEqProofs only [aw, slots0, V.copy, V.lend, eq_self, reduceIte, reduceCtorEq, Nat.reduceBEq, Nat.reduceLT]
    refine fun_ret (h1 _) ?_
    simp -dsimp -implicitDefEqProofs only [aw, V.copy, V.lend, eq_self, reduceIte, reduceCtorEq, Nat.reduceBEq, Nat.reduceLT, Nat.reduceEqDiff, Int.reduceEq, decide_false]
    refine fun_ret (aw9_fun _) ?_
    simp -dsimp -implicitDefEqProofs only [aw, V.copy, V.lend, eq_self, reduceIte, reduceCtorEq, Nat.reduceBEq, Nat.reduceLT, Nat.reduceEqDiff]
    first | exact fin_ret hb rfl rfl List.take_length ⟨rfl, rfl⟩ | exact fin_ret hb rfl rfl List.take_left ⟨rfl, rfl⟩
  have hR : lexR l = lexV (toksL l) := by unfold lexR; rw [if_neg hbig]
  rw [hR] at h1
  cases hx : toksL l with
  | err n e =>
    have de := decide_eq_false (parse_err hx)
    rw [hx] at h1
    unfold lexV at h1
    simp -dsimp -implicitDefEqProofs only [aw, slots0, V.copy, V.lend, eq_self, reduceIte, reduceCtorEq, Nat.reduceBEq, Nat.reduceLT]
    refine fun_ret (h1 _) ?_
    simp -dsimp -implicitDefEqProofs only [aw, V.copy, V.lend, eq_self, reduceIte, reduceCtorEq, Nat.reduceBEq, Nat.reduceLT, Nat.reduceEqDiff, de]
    refine fun_ret (aw9_fun _) ?_
    simp -dsimp -implicitDefEqProofs only [aw, V.copy, V.lend, eq_self, reduceIte, reduceCtorEq, Nat.reduceBEq, Nat.reduceLT, Nat.reduceEqDiff]
    first | exact fin_ret hb rfl rfl List.take_length ⟨rfl, rfl⟩ | exact fin_ret hb rfl rfl List.take_left ⟨rfl, rfl⟩
  | ok ts =>
    rw [hx] at h1
    unfold lexV at h1
    obtain ⟨hgood, hlen⟩ := toks_good9 hx
    have H := tsok_of hx (by omega)
    have h2 := fun σ => r7join_fun ts (by omega) H.size σ
    have hall : ts.all vTok = true := List.all_eq_true.2 fun t ht => (hgood t ht).1
    have hj : joinV ts = .tup [.d (dstr (bs (joinL ts))), .d (dint 0)] := by unfold joinV; rw [if_pos hall]
    rw [hj] at h2
    have h3 := fun σ => parse_fun l σ
    have hP : parseL l = parseT ts := by unfold parseL; rw [if_neg hbig, hx]
    rw [hP] at h3
    have h4 := fun σ => parse_fun (joinL ts) σ
    have h5 := fun σ => ettake_fun ts H σ
    have hjt := toks_join (l := ts) (fun t ht => (hgood t ht).1)
    obtain ⟨ea, na, fa, ec, kc, hc, e1, e2, hcase⟩ := parse_take ts
    obtain ⟨nb, hb1⟩ := parse_one ts
    rw [e1] at h3 hb1
    rw [e2] at h5
    simp only at hb1
    have hB : ¬ 16384 < (joinL ts).length → parseL (joinL ts) = (ea, nb, fa) := fun hq => by
      unfold parseL
      rw [if_neg hq, hjt]
      exact hb1
    obtain ⟨⟨eb, nb', fb⟩, hBB⟩ : ∃ x, x = parseL (joinL ts) := ⟨_, rfl⟩
    rw [← hBB] at h4
    have hs := fun σ => rsame_fun ea ea σ
    rw [sameE_refl9] at hs
    generalize joinL ts = J at *
    have tail : ∀ (c : Prop) (A B : Unit → Prop) (s : Tag A) (t : Tag B), True := fun _ _ _ _ _ => trivial
    by_cases hq : 16384 < J.length
    · have hq' : ¬ ((J.length : Nat) : Int) ≤ 16384 := by omega
      simp -dsimp -implicitDefEqProofs only [aw, slots0, V.copy, V.lend, eq_self, reduceIte, reduceCtorEq, Nat.reduceBEq, Nat.reduceLT]
      refine fun_ret (h1 _) ?_
      simp -dsimp -implicitDefEqProofs only [aw, V.copy, V.lend, eq_self, reduceIte, reduceCtorEq, Nat.reduceBEq, Nat.reduceLT, Nat.reduceEqDiff, decide_true]
      refine fun_ret (h2 _) ?_
      simp -dsimp -implicitDefEqProofs only [aw, V.copy, V.lend, eq_self, reduceIte, reduceCtorEq, Nat.reduceBEq, Nat.reduceLT, Nat.reduceEqDiff]
      refine fun_ret (h3 _) ?_
      simp -dsimp -implicitDefEqProofs only [aw, V.copy, V.lend, V.cells, V.boxable, over, Nat.reduceLeDiff, eq_self, reduceIte, reduceCtorEq, Nat.reduceBEq, Nat.reduceLT, Nat.reduceEqDiff, Nat.reduceAdd, triV, vex_eq]
      refine fun_ret (h4 _) ?_
      simp -dsimp -implicitDefEqProofs only [aw, V.copy, V.lend, V.cells, V.boxable, over, Nat.reduceLeDiff, eq_self, reduceIte, Nat.reduceBEq, Nat.reduceLT, Nat.reduceEqDiff, Nat.reduceAdd, triV, vex_eq, bs_size, decide_eq_false hq']
      refine fun_ret (h5 _) ?_
      rcases hcase with ⟨rfl, rfl, rfl, rfl⟩ | ⟨hf, rfl, rfl, t, k, rfl, hk, hkl, rfl⟩ | ⟨hf, hh, hor⟩
      · simp -dsimp -implicitDefEqProofs only [aw, V.copy, V.lend, V.lend1, V.cells, V.boxable, over, Nat.reduceLeDiff, cond_true, eq_self, reduceIte, Nat.reduceBEq, Nat.reduceLT, Nat.reduceEqDiff, Nat.reduceAdd, triV, vex_eq, decide_true]
        refine fun_ret (by simpa only [vex_eq] using hs _) ?_
        simp -dsimp -implicitDefEqProofs only [aw, V.copy, V.lend, cond_true, eq_self, reduceIte, Nat.reduceLT, Nat.reduceEqDiff]
        refine fun_ret (aw9_fun _) ?_
        simp -dsimp -implicitDefEqProofs only [aw, V.copy, cond_true, eq_self, reduceIte, Nat.reduceBEq, Nat.reduceLT, Nat.reduceEqDiff]
        first | exact fin_ret hb rfl rfl List.take_length ⟨rfl, rfl⟩ | exact fin_ret hb rfl rfl List.take_left ⟨rfl, rfl⟩
      · have d1 : decide (0 ≤ ((k : Nat) : Int)) = true := by rw [decide_eq_true_eq]; omega
        have d2 : decide (((k : Nat) : Int) < ((ts.length : Nat) : Int)) = true := by rw [decide_eq_true_eq]; omega
        simp -dsimp -implicitDefEqProofs only [aw, V.copy, V.lend, V.cells, V.boxable, over, Nat.reduceLeDiff, cond_true, eq_self, reduceIte, Nat.reduceBEq, Nat.reduceLT, Nat.reduceEqDiff, Nat.reduceAdd, triV, vex_eq, Int.reduceEq, decide_true, decide_false, d1, d2, hk, tokD]
        refine fun_ret (aw9_fun _) ?_
        simp -dsimp -implicitDefEqProofs only [aw, V.copy, cond_true, eq_self, reduceIte, Nat.reduceBEq, Nat.reduceLT, Nat.reduceEqDiff]
        first | exact fin_ret hb rfl rfl List.take_length ⟨rfl, rfl⟩ | exact fin_ret hb rfl rfl List.take_left ⟨rfl, rfl⟩
      · have d1 := decide_eq_false hf
        have d2 := decide_eq_false hh
        rcases hor with rfl | rfl
        · simp -dsimp -implicitDefEqProofs only [aw, V.copy, V.lend, V.cells, V.boxable, over, Nat.reduceLeDiff, eq_self, reduceIte, Nat.reduceBEq, Nat.reduceLT, Nat.reduceEqDiff, Nat.reduceAdd, triV, vex_eq, d1, decide_true]
          refine fun_ret (aw9_fun _) ?_
          simp -dsimp -implicitDefEqProofs only [aw, V.copy, cond_true, eq_self, reduceIte, Nat.reduceBEq, Nat.reduceLT, Nat.reduceEqDiff]
          first | exact fin_ret hb rfl rfl List.take_length ⟨rfl, rfl⟩ | exact fin_ret hb rfl rfl List.take_left ⟨rfl, rfl⟩
        · by_cases h50 : hc = 5
          · subst h50
            simp -dsimp -implicitDefEqProofs only [aw, V.copy, V.lend, V.cells, V.boxable, over, Nat.reduceLeDiff, eq_self, reduceIte, Nat.reduceBEq, Nat.reduceLT, Nat.reduceEqDiff, Nat.reduceAdd, triV, vex_eq, Int.reduceEq, decide_true, decide_false]
            refine fun_ret (aw9_fun _) ?_
            simp -dsimp -implicitDefEqProofs only [aw, V.copy, cond_true, eq_self, reduceIte, Nat.reduceBEq, Nat.reduceLT, Nat.reduceEqDiff]
            first | exact fin_ret hb rfl rfl List.take_length ⟨rfl, rfl⟩ | exact fin_ret hb rfl rfl List.take_left ⟨rfl, rfl⟩
          · simp -dsimp -implicitDefEqProofs only [aw, V.copy, V.lend, V.cells, V.boxable, over, Nat.reduceLeDiff, cond_false, eq_self, reduceIte, Nat.reduceBEq, Nat.reduceLT, Nat.reduceEqDiff, Nat.reduceAdd, triV, vex_eq, Int.reduceEq, decide_true, decide_false, d2, decide_eq_false h50]
            refine fun_ret (aw9_fun _) ?_
            simp -dsimp -implicitDefEqProofs only [aw, V.copy, cond_true, eq_self, reduceIte, Nat.reduceBEq, Nat.reduceLT, Nat.reduceEqDiff]
            first | exact fin_ret hb rfl rfl List.take_length ⟨rfl, rfl⟩ | exact fin_ret hb rfl rfl List.take_left ⟨rfl, rfl⟩
    · have hq' : ((J.length : Nat) : Int) ≤ 16384 := by omega
      have := hB hq
      rw [← hBB] at this
      simp only [Prod.mk.injEq] at this
      obtain ⟨rfl, rfl, rfl⟩ := this
      simp -dsimp -implicitDefEqProofs only [aw, slots0, V.copy, V.lend, eq_self, reduceIte, reduceCtorEq, Nat.reduceBEq, Nat.reduceLT]
      refine fun_ret (h1 _) ?_
      simp -dsimp -implicitDefEqProofs only [aw, V.copy, V.lend, eq_self, reduceIte, reduceCtorEq, Nat.reduceBEq, Nat.reduceLT, Nat.reduceEqDiff, decide_true]
      refine fun_ret (h2 _) ?_
      simp -dsimp -implicitDefEqProofs only [aw, V.copy, V.lend, eq_self, reduceIte, reduceCtorEq, Nat.reduceBEq, Nat.reduceLT, Nat.reduceEqDiff]
      refine fun_ret (h3 _) ?_
      simp -dsimp -implicitDefEqProofs only [aw, V.copy, V.lend, V.cells, V.boxable, over, Nat.reduceLeDiff, eq_self, reduceIte, reduceCtorEq, Nat.reduceBEq, Nat.reduceLT, Nat.reduceEqDiff, Nat.reduceAdd, triV, vex_eq]
      refine fun_ret (h4 _) ?_
      simp -dsimp -implicitDefEqProofs only [aw, V.copy, V.lend, V.lend1, V.cells, V.boxable, over, Nat.reduceLeDiff, eq_self, reduceIte, Nat.reduceBEq, Nat.reduceLT, Nat.reduceEqDiff, Nat.reduceAdd, triV, vex_eq, bs_size, decide_eq_true hq']
      refine fun_ret (by simpa only [vex_eq] using hs _) ?_
      simp -dsimp -implicitDefEqProofs only [aw, V.copy, V.lend, cond_true, cond_false, eq_self, reduceIte, Nat.reduceBEq, Nat.reduceLT, Nat.reduceEqDiff, decide_true]
      refine fun_ret (h5 _) ?_
      rcases hcase with ⟨rfl, rfl, rfl, rfl⟩ | ⟨hf, rfl, rfl, t, k, rfl, hk, hkl, rfl⟩ | ⟨hf, hh, hor⟩
      · simp -dsimp -implicitDefEqProofs only [aw, V.copy, V.lend, V.lend1, V.cells, V.boxable, over, Nat.reduceLeDiff, cond_true, eq_self, reduceIte, Nat.reduceBEq, Nat.reduceLT, Nat.reduceEqDiff, Nat.reduceAdd, triV, vex_eq, decide_true]
        refine fun_ret (by simpa only [vex_eq] using hs _) ?_
        simp -dsimp -implicitDefEqProofs only [aw, V.copy, V.lend, cond_true, eq_self, reduceIte, Nat.reduceLT, Nat.reduceEqDiff]
        refine fun_ret (aw9_fun _) ?_
        simp -dsimp -implicitDefEqProofs only [aw, V.copy, cond_true, eq_self, reduceIte, Nat.reduceBEq, Nat.reduceLT, Nat.reduceEqDiff]
        first | exact fin_ret hb rfl rfl List.take_length ⟨rfl, rfl⟩ | exact fin_ret hb rfl rfl List.take_left ⟨rfl, rfl⟩
      · have d1 : decide (0 ≤ ((k : Nat) : Int)) = true := by rw [decide_eq_true_eq]; omega
        have d2 : decide (((k : Nat) : Int) < ((ts.length : Nat) : Int)) = true := by rw [decide_eq_true_eq]; omega
        simp -dsimp -implicitDefEqProofs only [aw, V.copy, V.lend, V.cells, V.boxable, over, Nat.reduceLeDiff, cond_true, eq_self, reduceIte, Nat.reduceBEq, Nat.reduceLT, Nat.reduceEqDiff, Nat.reduceAdd, triV, vex_eq, Int.reduceEq, decide_true, decide_false, d1, d2, hk, tokD]
        refine fun_ret (aw9_fun _) ?_
        simp -dsimp -implicitDefEqProofs only [aw, V.copy, cond_true, eq_self, reduceIte, Nat.reduceBEq, Nat.reduceLT, Nat.reduceEqDiff]
        first | exact fin_ret hb rfl rfl List.take_length ⟨rfl, rfl⟩ | exact fin_ret hb rfl rfl List.take_left ⟨rfl, rfl⟩
      · have d1 := decide_eq_false hf
        have d2 := decide_eq_false hh
        rcases hor with rfl | rfl
        · simp -dsimp -implicitDefEqProofs only [aw, V.copy, V.lend, V.cells, V.boxable, over, Nat.reduceLeDiff, eq_self, reduceIte, Nat.reduceBEq, Nat.reduceLT, Nat.reduceEqDiff, Nat.reduceAdd, triV, vex_eq, d1, decide_true]
          refine fun_ret (aw9_fun _) ?_
          simp -dsimp -implicitDefEqProofs only [aw, V.copy, cond_true, eq_self, reduceIte, Nat.reduceBEq, Nat.reduceLT, Nat.reduceEqDiff]
          first | exact fin_ret hb rfl rfl List.take_length ⟨rfl, rfl⟩ | exact fin_ret hb rfl rfl List.take_left ⟨rfl, rfl⟩
        · by_cases h50 : hc = 5
          · subst h50
            simp -dsimp -implicitDefEqProofs only [aw, V.copy, V.lend, V.cells, V.boxable, over, Nat.reduceLeDiff, eq_self, reduceIte, Nat.reduceBEq, Nat.reduceLT, Nat.reduceEqDiff, Nat.reduceAdd, triV, vex_eq, Int.reduceEq, decide_true, decide_false]
            refine fun_ret (aw9_fun _) ?_
            simp -dsimp -implicitDefEqProofs only [aw, V.copy, cond_true, eq_self, reduceIte, Nat.reduceBEq, Nat.reduceLT, Nat.reduceEqDiff]
            first | exact fin_ret hb rfl rfl List.take_length ⟨rfl, rfl⟩ | exact fin_ret hb rfl rfl List.take_left ⟨rfl, rfl⟩
          · simp -dsimp -implicitDefEqProofs only [aw, V.copy, V.lend, V.cells, V.boxable, over, Nat.reduceLeDiff, cond_false, eq_self, reduceIte, Nat.reduceBEq, Nat.reduceLT, Nat.reduceEqDiff, Nat.reduceAdd, triV, vex_eq, Int.reduceEq, decide_true, decide_false, d2, decide_eq_false h50]
            refine fun_ret (aw9_fun _) ?_
            simp -dsimp -implicitDefEqProofs only [aw, V.copy, cond_true, eq_self, reduceIte, Nat.reduceBEq, Nat.reduceLT, Nat.reduceEqDiff]
            first | exact fin_ret hb rfl rfl List.take_length ⟨rfl, rfl⟩ | exact fin_ret hb rfl rfl List.take_left ⟨rfl, rfl⟩
end Go.Proofs.YteopfpebdalcoaaGreatDoor
