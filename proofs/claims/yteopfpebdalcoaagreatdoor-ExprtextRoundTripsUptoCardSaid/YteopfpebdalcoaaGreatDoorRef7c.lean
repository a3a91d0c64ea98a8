/-
  The program's lexer: Tokens. The reference's reader of sources, in the plain world: blanks, marks, tokens. The reference's reader of sources, in the plain world: read, Tokens, Same.
-/
import Derived.Test.YteopfpebdalcoaaGreatDoorTok7
import Derived.Test.YteopfpebdalcoaaGreatDoorNum1
set_option linter.unusedVariables false
set_option linter.unusedSimpArgs false
set_option linter.unusedSectionVars false
namespace Go.Proofs.YteopfpebdalcoaaGreatDoor
open Go.RowKit
theorem retK_ret {K P : V → List (List V) → Prop} {v : V} {σ : List (List V)} : retK K P (.ret v) σ = K v σ := rfl
def tokD (t : Tok) : List D := [dint t.kind, dint t.num, dstr t.text, dint t.line]
def lexV : Lx → V
  | .ok ts => .tup [.d (.sl (ts.map tokD)), .d (dint 0), .d (dint 0)]
  | .err n e => .tup [.d (.sl []), .d (dint n), .d (dint e)]
def lexR (l : Bs) : V := if 16384 < l.length then .tup [.d (.sl []), .d (dint 0), .d (dint 2)] else lexV (toksL l)
theorem read_err {l : Bs} {e : Int} (h : readL l = .err e) : e ≠ 0 := by
  match l with
  | [] => cases h; decide
  | c :: r =>
    simp only [readL] at h
    split at h
    · split at h <;> cases h <;> decide
    · split at h
      · split at h
        · cases h; decide
        · split at h <;> cases h <;> decide
      · split at h <;> cases h <;> decide
theorem toksN_skip (N : Int) (l : Bs) : toksN N (skipL l) = toksN N l := by rw [toksN_step, toksN_step N l, skip_idem]
theorem app_cons (x : Lx) (t : Tok) (a : List Tok) : (x.cons t).app a = x.app (a ++ [t]) := by cases x <;> simp [Lx.cons, Lx.app]
theorem app_nil (x : Lx) : x.app [] = x := by cases x <;> rfl
set_option maxHeartbeats 1000000 in
theorem tokens_fun (l : Bs) (hl : l.length ≤ 1000000) (σ : List (List V)) : Fun G 20 [.d (dstr (bs l))] σ (RetV (lexR l) σ) := by
  have hcl : l.count 10 ≤ l.length := List.count_le_length
  refine fun_code Tryz.func20 k20 rfl fun hb hw => ?_
  delta c20 oM oV kI kS kT kF
  by_cases hbig : 16384 < l.length
  · have hbig' : (16384 : Int) < ((l.length : Nat) : Int) := by omega
    simp -dsimp -implicitDefEqProofs only [aw, slots0, V.copy, V.cells, over, bldV, Nat.reduceLeDiff, eq_self, reduceIte, reduceCtorEq, Nat.reduceBEq, Nat.reduceLT, Nat.reduceEqDiff, Nat.reduceAdd, bs_size, decide_eq_true hbig']
    exact fin_ret hb (v := lexR l) (by unfold lexR; rw [if_pos hbig]; rfl) (by unfold lexR; rw [if_pos hbig]; rfl) List.take_length ⟨rfl, rfl⟩
  · have hbig' : ¬ (16384 : Int) < ((l.length : Nat) : Int) := by omega
    have hR : lexR l = lexV (toksL l) := by unfold lexR; rw [if_neg hbig]
    rw [hR]
    obtain ⟨T, hT⟩ : ∃ T : Int, T = 1 + (l.count 10 : Nat) := ⟨_, rfl⟩
    have hT0 : 0 ≤ T := by omega
    have hT1 : T ≤ 1000000000 := by omega
    have htk : toksL l = toksN T l := by rw [hT]; rfl
    have h1 : (1 : Int) = T - (l.count 10 : Nat) := by omega
    have hbox : [V.d (dstr (bs l)), V.d (dint 1)] = rdr T l := by unfold rdr rd; rw [h1]
    simp -dsimp -implicitDefEqProofs only [aw, slots0, V.copy, V.lend, V.cells, V.boxable, over, bldV, Nat.reduceLeDiff, eq_self, reduceIte, reduceCtorEq, Nat.reduceBEq, Nat.reduceLT, Nat.reduceEqDiff, Nat.reduceAdd, bs_size, decide_eq_false hbig', hbox]
    refine fun_set (skip_fun T l σ.length hl hT0 hT1 _ (box_at0 _)) ?_
    rw [set_at0]
    simp -dsimp -implicitDefEqProofs only [aw, V.copy, eq_self, reduceIte, Nat.reduceBEq, Nat.reduceLT, Nat.reduceEqDiff]
    refine awp_for (R := fun (j : Nat) ρ σ' => ∃ (acc : List Tok) (r : Bs), skipL r = r ∧ toksL l = (toksN T r).app acc ∧ r.length + j ≤ l.length ∧ acc.length ≤ j ∧ ρ = [(5, .ptr σ.length 0), (6, .own 41 4 (acc.map tokD))] ∧ σ' = σ ++ [rdr T r]) l.length ⟨[], skipL l, skip_idem l, by rw [app_nil, toksN_skip, htk], by have := (skip_suffix l).length_le; omega, by simp, rfl, rfl⟩ ?_ _
    rintro j ρ' σ' hj ⟨acc, r, hs, hr, hrl, hal, rfl, rfl⟩
    match hre : r with
    | [] =>
      simp -dsimp -implicitDefEqProofs only [aw, V.copy, Nat.reduceLeDiff, eq_self, reduceIte, Nat.reduceBEq, Nat.reduceLT, Nat.reduceEqDiff, Nat.reduceAdd, rdr, rd, nil_yes]
      refine fin_ret hb (v := lexV (toksL l)) ?_ ?_ List.take_left ⟨rfl, rfl⟩
      · rw [hr, toksN_step, skipL_nil]
        simp only [Lx.app, List.append_nil, lexV]
        rfl
      · rw [hr, toksN_step, skipL_nil]; rfl
    | c :: r' =>
      have hnil := nil_no c r'
      simp -dsimp -implicitDefEqProofs only [aw, V.copy, V.lend, Nat.reduceLeDiff, eq_self, reduceIte, Nat.reduceBEq, Nat.reduceLT, Nat.reduceEqDiff, Nat.reduceAdd, rdr, rd, hnil]
      rw [← hre] at hs hr hrl ⊢
      have hfold : [V.d (dstr (bs r)), V.d (dint (T - (r.count 10 : Nat)))] = rdr T r := rfl
      rw [hfold]
      refine fun_mono (token_fun (bestM r) T r rfl c r' hre σ.length (by omega) hT0 hT1 _ (box_at0 _)) fun o σ' hq => ?_
      unfold TokQ at hq
      have hst := toksN_step T r
      rw [hs] at hst
      cases hrd : readL r with
      | err e =>
        rw [hrd] at hq
        obtain ⟨rfl, l', rfl⟩ := hq
        have he0 := read_err hrd
        rw [set_at0]
        simp -dsimp -implicitDefEqProofs only [aw, V.copy, V.lend, V.cells, V.boxable, over, Nat.reduceLeDiff, eq_self, reduceIte, Nat.reduceBEq, Nat.reduceLT, Nat.reduceEqDiff, Nat.reduceAdd, retK_ret, tok0, tokV, decide_eq_false he0]
        have hv : toksL l = .err (T - (r.count 10 : Nat)) e := by
          rw [hr, hst]
          rw [hre] at hrd ⊢
          simp only [hrd, Lx.app]
        exact fin_ret hb (v := lexV (toksL l)) (by rw [hv]; rfl) (by rw [hv]; rfl) List.take_left ⟨rfl, rfl⟩
      | tok kd n len =>
        rw [hrd] at hq
        obtain ⟨rfl, rfl⟩ := hq
        obtain ⟨g1, g2⟩ := read_len hrd
        rw [set_at0]
        simp -dsimp -implicitDefEqProofs only [aw, V.copy, V.lend, V.cells, V.boxable, over, rowsOf, plains, V.plain, Nat.reduceLeDiff, eq_self, reduceIte, Nat.reduceBEq, Nat.reduceLT, Nat.reduceEqDiff, Nat.reduceAdd, retK_ret, tokV, decide_true]
        refine onT_intro (by omega) ?_
        simp -dsimp -implicitDefEqProofs only [aw, V.copy, V.lend, eq_self, reduceIte, Nat.reduceBEq, Nat.reduceLT, Nat.reduceEqDiff]
        refine fun_set (skip_fun T (r.drop len) σ.length (by rw [List.length_drop]; omega) hT0 hT1 _ (box_at0 _)) ?_
        rw [set_at0]
        simp -dsimp -implicitDefEqProofs only [aw, V.copy, eq_self, reduceIte, Nat.reduceBEq, Nat.reduceLT, Nat.reduceEqDiff]
        have hsl := (skip_suffix (r.drop len)).length_le
        rw [List.length_drop] at hsl
        have hv : toksL l = (toksN T (skipL (r.drop len))).app (acc ++ [cutTok T r kd n len]) := by
          rw [hr, hst, toksN_skip, ← app_cons]
          rw [hre] at hrd ⊢
          simp only [hrd]
        have ha2 : ∀ a b : List V, σ ++ [a, b] = (σ ++ [a]) ++ [b] := fun a b => by simp
        rw [ha2]
        refine ⟨by omega, Nxt.drop (by simp) (boxesBelow_app hb rfl) (by simp [slotsBelow, V.under]) ⟨acc ++ [cutTok T r kd n len], skipL (r.drop len), skip_idem _, hv, by omega, by simp; omega, ?_, rfl⟩⟩
        simp only [List.map_append, List.map_cons, List.map_nil]
        rfl
end Go.Proofs.YteopfpebdalcoaaGreatDoor
namespace Go.Proofs.YteopfpebdalcoaaGreatDoor
open Go.RowKit
end Go.Proofs.YteopfpebdalcoaaGreatDoor
namespace Go.Proofs.YteopfpebdalcoaaGreatDoor
open Go.RowKit
theorem fin_box {σ : List (List V)} {ρ : Slots} {rs : List RV} {v : V} {l : List (List V)} (hb : boxesBelow σ.length σ = true) (h : resV (σ ++ l) ρ rs = some v) (hv : V.under σ.length v = true) : fin σ.length rs (RetV v σ) .ret ρ (σ ++ l) :=
  fin_ret hb h hv List.take_left ⟨rfl, rfl⟩
end Go.Proofs.YteopfpebdalcoaaGreatDoor
