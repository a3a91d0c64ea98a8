/-
  Parse and Take.
-/
import Derived.Test.YteopfpebdalcoaaGreatDoorPm10
import Derived.Test.YteopfpebdalcoaaGreatDoorJoin7
set_option linter.unusedVariables false
set_option linter.unusedSimpArgs false
set_option linter.unusedSectionVars false
namespace Go.Proofs.YteopfpebdalcoaaGreatDoor
open Go.RowKit
def z0 : Ex := .mk 0 0 ⟨#[]⟩ []
theorem vex_z0 : vex z0 = .agg [.d (dint 0), .d (dint 0), .d (dstr ⟨#[]⟩), .d (.sl [])] := by unfold z0; rw [vex_eq]; rfl
def lineAt (ts : List Tok) (n : Nat) : Int := match ts[min n (ts.length - 1)]? with | some t => t.line | none => 1
def parseT (ts : List Tok) : Ex × Int × Int := match par .W ts with
  | .bad c r => (z0, lineAt ts (ts.length - r.length), c)
  | .ok e [] => if validE e = 0 then (e, 0, 0) else (z0, 0, validE e)
  | .ok _ (t :: _) => (z0, t.line, 5)
  | .out => (z0, 0, 0)
def parseL (l : Bs) : Ex × Int × Int := if 16384 < l.length then (z0, 0, 2) else match toksL l with
  | .ok ts => parseT ts
  | .err n e => (z0, n, e)
def triV (x : Ex × Int × Int) : V := .tup [vex x.1, .d (dint x.2.1), .d (dint x.2.2)]
theorem tokens_long (l : Bs) (hl : 16384 < l.length) (σ : List (List V)) : Fun G 20 [.d (dstr (bs l))] σ (RetV (.tup [.d (.sl []), .d (dint 0), .d (dint 2)]) σ) := by
  refine fun_code Tryz.func20 k20 rfl fun hb hw => ?_
  delta c20 oM oV kI kS kT kF
  have hbig' : (16384 : Int) < ((l.length : Nat) : Int) := by omega
  simp -dsimp -implicitDefEqProofs only [aw, slots0, V.copy, V.cells, over, bldV, Nat.reduceLeDiff, eq_self, reduceIte, reduceCtorEq, Nat.reduceBEq, Nat.reduceLT, Nat.reduceEqDiff, Nat.reduceAdd, bs_size, decide_eq_true hbig']
  first | exact fin_ret hb rfl rfl List.take_length ⟨rfl, rfl⟩ | exact fin_ret hb rfl rfl List.take_left ⟨rfl, rfl⟩
theorem clip_fun (rows : List (List D)) (σ : List (List V)) : Fun G 22 [.d (.sl rows)] σ (RetV (.d (.sl rows)) σ) := by
  refine fun_code Tryz.func22 k22 rfl fun hb hw => ?_
  delta c22 oM oV kI kS kT kF
  simp -dsimp -implicitDefEqProofs only [aw, slots0, V.copy, eq_self, reduceIte, reduceCtorEq, Nat.reduceBEq, Nat.reduceLT, Nat.reduceEqDiff, and_self]
  first | exact fin_ret hb rfl rfl List.take_length ⟨rfl, rfl⟩ | exact fin_ret hb rfl rfl List.take_left ⟨rfl, rfl⟩
theorem line_fun (ts : List Tok) (n : Nat) (hts : ts.length ≤ 1000000) (hn : n ≤ ts.length) (σ : List (List V)) : Fun G 23 [.d (.sl (ts.map tokD)), .d (dint n)] σ (RetV (.d (dint (lineAt ts n))) σ) := by
  refine fun_code Tryz.func23 k23 rfl fun hb hw => ?_
  delta c23 oM oV kI kS kT kF
  by_cases h0 : ts.length = 0
  · have : ts = [] := List.eq_nil_of_length_eq_zero h0
    subst this
    have dz : decide (((0 : Nat) : Int) = 0) = true := rfl
    simp -dsimp -implicitDefEqProofs only [aw, slots0, V.copy, eq_self, reduceIte, reduceCtorEq, Nat.reduceBEq, Nat.reduceLT, Nat.reduceEqDiff, dz]
    first | exact fin_ret hb rfl rfl List.take_length ⟨rfl, rfl⟩ | exact fin_ret hb rfl rfl List.take_left ⟨rfl, rfl⟩
  · have d0 : decide (((ts.length : Nat) : Int) = 0) = false := by rw [decide_eq_false_iff_not]; omega
    have hw1 : IntKind.i64.wrap (((ts.length : Nat) : Int) - 1) = ((ts.length - 1 : Nat) : Int) := by rw [wrap_i64 (by omega) (by omega)]; omega
    have hmin : min ((n : Nat) : Int) ((ts.length - 1 : Nat) : Int) = ((min n (ts.length - 1) : Nat) : Int) := by omega
    have hlt : min n (ts.length - 1) < ts.length := by omega
    have hL : lineAt ts n = ts[min n (ts.length - 1)].line := by unfold lineAt; rw [List.getElem?_eq_getElem hlt]
    rw [hL]
    simp -dsimp -implicitDefEqProofs only [aw, slots0, V.copy, Nat.reduceLeDiff, eq_self, reduceIte, reduceCtorEq, Nat.reduceBEq, Nat.reduceLT, Nat.reduceEqDiff, Nat.reduceAdd, d0, hw1, hmin, List.getElem?_eq_getElem hlt, tokD]
    first | exact fin_ret hb rfl rfl List.take_length ⟨rfl, rfl⟩ | exact fin_ret hb rfl rfl List.take_left ⟨rfl, rfl⟩
theorem tsok_of {l : Bs} {ts : List Tok} (h : toksL l = .ok ts) (hl : l.length ≤ 16384) : TsOK ts := by
  obtain ⟨h1, h2⟩ := toks_good9 h
  exact ⟨fun t ht => by have := (h1 t ht).2; omega, by omega⟩
theorem parse_err {l : Bs} {n e : Int} (h : toksL l = .err n e) : e ≠ 0 := by
  suffices H : ∀ (k : Nat) (N : Int) (l : Bs), l.length ≤ k → toksN N l = .err n e → e ≠ 0 from H _ _ l (Nat.le_refl _) h
  intro k
  induction k with
  | zero =>
    intro N l h ht
    have : l = [] := List.eq_nil_of_length_eq_zero (by omega)
    subst this
    rw [toksN_step, skipL_nil] at ht
    cases ht
  | succ k ih =>
    intro N l h ht
    rw [toksN_step] at ht
    have hs := (skip_suffix l).length_le
    cases hsk : skipL l with
    | nil => rw [hsk] at ht; cases ht
    | cons c r =>
      rw [hsk] at ht hs
      simp only at ht
      cases hrd : readL (c :: r) with
      | err e' => rw [hrd] at ht; cases ht; exact read_err hrd
      | tok kd n' len =>
        obtain ⟨g1, g2⟩ := read_len hrd
        rw [hrd] at ht
        simp only at ht
        have hdl := List.length_drop (l := c :: r) (i := len)
        cases hq : toksN N ((c :: r).drop len) with
        | err x e' =>
          rw [hq] at ht
          cases ht
          exact ih N _ (by omega) hq
        | ok us => rw [hq] at ht; cases ht
set_option maxHeartbeats 1000000 in
theorem parse_fun (l : Bs) (σ : List (List V)) : Fun G 11 [.d (dstr (bs l))] σ (RetV (triV (parseL l)) σ) := by
  refine fun_code Tryz.func11 k11 rfl fun hb hw => ?_
  delta c11 oM oV kI kS kT kF
  have zfin : ∀ (n c : Int), triV (z0, n, c) = .tup [.agg [.d (dint 0), .d (dint 0), .d (dstr ⟨#[]⟩), .d (.sl [])], .d (dint n), .d (dint c)] := fun n c => by unfold triV; rw [vex_z0]
  by_cases hbig : 16384 < l.length
  · have hP : parseL l = (z0, 0, 2) := by unfold parseL; rw [if_pos hbig]
    rw [hP, zfin]
    simp -dsimp -implicitDefEqProofs only [aw, slots0, V.copy, V.lend, eq_self, reduceIte, reduceCtorEq, Nat.reduceBEq, Nat.reduceLT, Nat.reduceEqDiff]
    refine fun_ret (tokens_long l hbig _) ?_
    simp -dsimp -implicitDefEqProofs only [aw, V.copy, V.lend, V.cells, V.boxable, over, bldV, Nat.reduceLeDiff, eq_self, reduceIte, reduceCtorEq, Nat.reduceBEq, Nat.reduceLT, Nat.reduceEqDiff, Nat.reduceAdd, Int.reduceEq, decide_false]
    exact fin_ret hb (v := .tup [.agg [.d (dint 0), .d (dint 0), .d (dstr ⟨#[]⟩), .d (.sl [])], .d (dint 0), .d (dint 2)]) (by simp [rs11, resV, resL, res1, aw, V.copy, V.lend, V.lend1, eq_self, reduceIte, Nat.reduceEqDiff, Nat.reduceAdd]) rfl List.take_left ⟨rfl, rfl⟩
  have ht := tokens_fun l (by omega)
  have hR : lexR l = lexV (toksL l) := by unfold lexR; rw [if_neg hbig]
  rw [hR] at ht
  cases hx : toksL l with
  | err n e =>
    have hP : parseL l = (z0, n, e) := by unfold parseL; rw [if_neg hbig, hx]
    have de := decide_eq_false (parse_err hx)
    rw [hx] at ht
    unfold lexV at ht
    rw [hP, zfin]
    simp -dsimp -implicitDefEqProofs only [aw, slots0, V.copy, V.lend, eq_self, reduceIte, reduceCtorEq, Nat.reduceBEq, Nat.reduceLT, Nat.reduceEqDiff]
    refine fun_ret (ht _) ?_
    simp -dsimp -implicitDefEqProofs only [aw, V.copy, V.lend, V.cells, V.boxable, over, bldV, Nat.reduceLeDiff, eq_self, reduceIte, reduceCtorEq, Nat.reduceBEq, Nat.reduceLT, Nat.reduceEqDiff, Nat.reduceAdd, de]
    exact fin_ret hb (v := .tup [.agg [.d (dint 0), .d (dint 0), .d (dstr ⟨#[]⟩), .d (.sl [])], .d (dint n), .d (dint e)]) (by simp [rs11, resV, resL, res1, aw, V.copy, V.lend, V.lend1, eq_self, reduceIte, Nat.reduceEqDiff, Nat.reduceAdd]) rfl List.take_left ⟨rfl, rfl⟩
  | ok ts =>
    have H := tsok_of hx (by omega)
    have hL := H.len
    have hP : parseL l = parseT ts := by unfold parseL; rw [if_neg hbig, hx]
    rw [hx] at ht
    unfold lexV at ht
    have hA := fun σ => attempt_fun ts H 0 (Nat.zero_le _) σ
    rw [List.drop_zero] at hA
    have hCl := fun σ => clip_fun (ts.map tokD) σ
    rw [hP]
    cases hy : par .W ts with
    | out => exact absurd hy (par_ne _ _)
    | bad c r =>
      have hT : parseT ts = (z0, lineAt ts (ts.length - r.length), c) := by unfold parseT; rw [hy]
      obtain ⟨hc, hrl⟩ := par_bad hy
      have dc := decide_eq_false hc
      rw [hT, zfin]
      rw [hy] at hA
      simp -dsimp -implicitDefEqProofs only [aw, slots0, V.copy, V.lend, eq_self, reduceIte, reduceCtorEq, Nat.reduceBEq, Nat.reduceLT, Nat.reduceEqDiff]
      refine fun_ret (ht _) ?_
      simp -dsimp -implicitDefEqProofs only [aw, V.copy, V.lend, eq_self, reduceIte, reduceCtorEq, Nat.reduceBEq, Nat.reduceLT, Nat.reduceEqDiff, decide_true]
      refine fun_ret (hCl _) ?_
      simp -dsimp -implicitDefEqProofs only [aw, V.lend, eq_self, reduceIte, Nat.reduceLT, Nat.reduceEqDiff]
      refine fun_ret (hA _) ?_
      simp -dsimp -implicitDefEqProofs only [aw, V.copy, V.lend, V.cells, V.boxable, over, bldV, Nat.reduceLeDiff, eq_self, reduceIte, Nat.reduceBEq, Nat.reduceLT, Nat.reduceEqDiff, Nat.reduceAdd, attV, vex_eq, mk_op, mk_num, mk_name, mk_args, dc]
      refine fun_ret (line_fun ts (ts.length - r.length) hL (by omega) _) ?_
      simp -dsimp -implicitDefEqProofs only [aw, V.copy, V.cells, V.boxable, over, Nat.reduceLeDiff, eq_self, reduceIte, Nat.reduceBEq, Nat.reduceLT, Nat.reduceEqDiff, Nat.reduceAdd]
      exact fin_ret hb (v := .tup [.agg [.d (dint 0), .d (dint 0), .d (dstr ⟨#[]⟩), .d (.sl [])], .d (dint (lineAt ts (ts.length - r.length))), .d (dint c)]) (by simp [rs11, resV, resL, res1, aw, V.copy, V.lend, V.lend1, eq_self, reduceIte, Nat.reduceEqDiff, Nat.reduceAdd]) rfl List.take_left ⟨rfl, rfl⟩
    | ok e r =>
      have hsz := par_size hy
      have hv := fun_valid e (by omega) (by have := depth_le e; omega)
      have hsuf := par_took .W ts
      rw [hy] at hsuf hA
      cases r with
      | cons t r =>
        have hT : parseT ts = (z0, t.line, 5) := by unfold parseT; rw [hy]
        have hsl := hsuf.1.length_le
        simp only [List.length_cons] at hsl
        have hlt : ts.length - (r.length + 1) < ts.length := by omega
        have hget : ts[ts.length - (r.length + 1)]? = some t := by
          have := suf_drop hsuf.1
          simp only [List.length_cons] at this
          have h2 := congrArg (·[0]?) this
          simp only [List.getElem?_cons_zero, List.getElem?_drop, Nat.add_zero] at h2
          exact h2.symm
        have dl : decide (((ts.length - (r.length + 1) : Nat) : Int) < ((ts.length : Nat) : Int)) = true := by rw [decide_eq_true_eq]; omega
        rw [hT, zfin]
        simp -dsimp -implicitDefEqProofs only [aw, slots0, V.copy, V.lend, eq_self, reduceIte, reduceCtorEq, Nat.reduceBEq, Nat.reduceLT, Nat.reduceEqDiff]
        refine fun_ret (ht _) ?_
        simp -dsimp -implicitDefEqProofs only [aw, V.copy, V.lend, eq_self, reduceIte, reduceCtorEq, Nat.reduceBEq, Nat.reduceLT, Nat.reduceEqDiff, decide_true]
        refine fun_ret (hCl _) ?_
        simp -dsimp -implicitDefEqProofs only [aw, V.lend, eq_self, reduceIte, Nat.reduceLT, Nat.reduceEqDiff]
        refine fun_ret (hA _) ?_
        simp -dsimp -implicitDefEqProofs only [aw, V.copy, V.cells, V.boxable, over, bldV, Nat.reduceLeDiff, eq_self, reduceIte, Nat.reduceBEq, Nat.reduceLT, Nat.reduceEqDiff, Nat.reduceAdd, Nat.reduceSub, attV, vex_eq, dl, decide_true, hget, tokD]
        exact fin_ret hb (v := .tup [.agg [.d (dint 0), .d (dint 0), .d (dstr ⟨#[]⟩), .d (.sl [])], .d (dint t.line), .d (dint 5)]) (by simp [rs11, resV, resL, res1, aw, V.copy, V.lend, V.lend1, eq_self, reduceIte, Nat.reduceEqDiff, Nat.reduceAdd]) rfl List.take_left ⟨rfl, rfl⟩
      | nil =>
        have dl : decide (((ts.length - 0 : Nat) : Int) < ((ts.length : Nat) : Int)) = false := by rw [decide_eq_false_iff_not]; omega
        by_cases h0 : validE e = 0
        · have hT : parseT ts = (e, 0, 0) := by unfold parseT; rw [hy]; simp [h0]
          have hv0 : triV (e, 0, 0) = .tup [.agg [.d (dint e.op), .d (dint e.num), .d (dstr e.name), .d (.sl (e.args.map dex))], .d (dint 0), .d (dint 0)] := by unfold triV; rw [vex_eq]
          rw [hT, hv0]
          simp -dsimp -implicitDefEqProofs only [aw, slots0, V.copy, V.lend, eq_self, reduceIte, reduceCtorEq, Nat.reduceBEq, Nat.reduceLT, Nat.reduceEqDiff]
          refine fun_ret (ht _) ?_
          simp -dsimp -implicitDefEqProofs only [aw, V.copy, V.lend, eq_self, reduceIte, reduceCtorEq, Nat.reduceBEq, Nat.reduceLT, Nat.reduceEqDiff, decide_true]
          refine fun_ret (hCl _) ?_
          simp -dsimp -implicitDefEqProofs only [aw, V.lend, eq_self, reduceIte, Nat.reduceLT, Nat.reduceEqDiff]
          refine fun_ret (hA _) ?_
          simp -dsimp -implicitDefEqProofs only [aw, V.copy, V.lend, V.lend1, V.cells, V.boxable, over, Nat.reduceLeDiff, eq_self, reduceIte, Nat.reduceBEq, Nat.reduceLT, Nat.reduceEqDiff, Nat.reduceAdd, attV, vex_eq, dl, decide_true]
          refine fun_ret (by simpa only [vex_eq] using hv _) ?_
          simp -dsimp -implicitDefEqProofs only [aw, V.copy, V.cells, V.boxable, over, Nat.reduceLeDiff, eq_self, reduceIte, Nat.reduceBEq, Nat.reduceLT, Nat.reduceEqDiff, Nat.reduceAdd, decide_eq_true h0]
          exact fin_ret hb (v := .tup [.agg [.d (dint e.op), .d (dint e.num), .d (dstr e.name), .d (.sl (e.args.map dex))], .d (dint 0), .d (dint 0)]) (by simp [rs11, resV, resL, res1, aw, V.copy, V.lend, V.lend1, eq_self, reduceIte, Nat.reduceEqDiff, Nat.reduceAdd]) rfl List.take_left ⟨rfl, rfl⟩
        · have hT : parseT ts = (z0, 0, validE e) := by unfold parseT; rw [hy]; simp [h0]
          rw [hT, zfin]
          simp -dsimp -implicitDefEqProofs only [aw, slots0, V.copy, V.lend, eq_self, reduceIte, reduceCtorEq, Nat.reduceBEq, Nat.reduceLT, Nat.reduceEqDiff]
          refine fun_ret (ht _) ?_
          simp -dsimp -implicitDefEqProofs only [aw, V.copy, V.lend, eq_self, reduceIte, reduceCtorEq, Nat.reduceBEq, Nat.reduceLT, Nat.reduceEqDiff, decide_true]
          refine fun_ret (hCl _) ?_
          simp -dsimp -implicitDefEqProofs only [aw, V.lend, eq_self, reduceIte, Nat.reduceLT, Nat.reduceEqDiff]
          refine fun_ret (hA _) ?_
          simp -dsimp -implicitDefEqProofs only [aw, V.copy, V.lend, V.lend1, V.cells, V.boxable, over, Nat.reduceLeDiff, eq_self, reduceIte, Nat.reduceBEq, Nat.reduceLT, Nat.reduceEqDiff, Nat.reduceAdd, attV, vex_eq, dl, decide_true]
          refine fun_ret (by simpa only [vex_eq] using hv _) ?_
          simp -dsimp -implicitDefEqProofs only [aw, V.copy, V.cells, V.boxable, over, bldV, Nat.reduceLeDiff, eq_self, reduceIte, Nat.reduceBEq, Nat.reduceLT, Nat.reduceEqDiff, Nat.reduceAdd, decide_eq_false h0]
          exact fin_ret hb (v := .tup [.agg [.d (dint 0), .d (dint 0), .d (dstr ⟨#[]⟩), .d (.sl [])], .d (dint 0), .d (dint (validE e))]) (by simp [rs11, resV, resL, res1, aw, V.copy, V.lend, V.lend1, eq_self, reduceIte, Nat.reduceEqDiff, Nat.reduceAdd]) rfl List.take_left ⟨rfl, rfl⟩
end Go.Proofs.YteopfpebdalcoaaGreatDoor
