/-
  The reference's reader of sources, in the plain world: read, Tokens, Same.
-/
import Derived.Test.YteopfpebdalcoaaGreatDoorRef7b
set_option linter.unusedVariables false
set_option linter.unusedSimpArgs false
set_option linter.unusedSectionVars false
namespace Go.Proofs.YteopfpebdalcoaaGreatDoor
open Go.RowKit
def readV (r : Bs) : Rd → V
  | .err e => .tup [tok0, .d (dint e)]
  | .tok k n len => .tup [tokV k n (r.take len) 0, .d (dint 0)]
theorem take_tw {q : UInt8 → Bool} (r : Bs) : r.take (r.takeWhile q).length = r.takeWhile q := (List.prefix_iff_eq_take.1 (List.takeWhile_prefix _)).symm
theorem fin_box {σ : List (List V)} {ρ : Slots} {rs : List RV} {v : V} {l : List (List V)} (hb : boxesBelow σ.length σ = true) (h : resV (σ ++ l) ρ rs = some v) (hv : V.under σ.length v = true) : fin σ.length rs (RetV v σ) .ret ρ (σ ++ l) :=
  fin_ret hb h hv List.take_left ⟨rfl, rfl⟩
set_option maxHeartbeats 1000000 in
theorem r7read_fun (n : Nat) (l r : Bs) (c : UInt8) (s : Bs) (a : Nat) (hr : l.drop a = r) (hc : r = c :: s) (hn : bestM r = n) (hl : l.length ≤ 1000000) (σ : List (List V)) : Fun G 25 [.d (dstr (bs l)), .d (dint a)] σ (RetV (readV r (readL r)) σ) := by
  have hal : a < l.length := by
    rcases Nat.lt_or_ge a l.length with h | h
    · exact h
    · rw [List.drop_eq_nil_of_le h] at hr; rw [← hr] at hc; cases hc
  have hla : l[a]? = some c := by
    have := List.getElem?_drop (xs := l) (i := a) (j := 0)
    rw [hr, hc] at this; simpa using this.symm
  have hrl : r.length ≤ l.length - a := by rw [← hr, List.length_drop]; exact Nat.le_refl _
  have hbh := r7behind_fun l a (by omega) hl
  rw [hr] at hbh
  have hw1 := tw_len (q := inn) r
  have hsub : subV true 0 (V.d (dstr (bs l))) (some (V.d (dint (a : Int)))) (some (V.d (dint ((a + (r.takeWhile inn).length : Nat) : Int)))) = some (V.d (dstr (bs (r.takeWhile inn)))) := by
    rw [sub_bs l a _ (by omega), hr, take_tw]
  refine fun_code Tryz.func25 k25 rfl fun hb hw => ?_
  delta c25 oM oV kI kS kT kF
  simp -dsimp -implicitDefEqProofs only [aw, slots0, V.copy, V.lend, eq_self, reduceIte, reduceCtorEq, Nat.reduceBEq, Nat.reduceLT, Nat.reduceEqDiff, bs_list, hla]
  refine fun_ret (r7small_fun _ _) ?_
  cases hlow : lowB c.toNat with
  | true =>
    have hrd : readL r = if 16 < (r.takeWhile inn).length then .err 2 else .tok (if inB (bs (r.takeWhile inn)) kwList = true then 2 else 1) 0 (r.takeWhile inn).length := by
      rw [hc]; simp only [readL, hlow, if_true]; rfl
    rw [hrd]
    have htk := take_tw (q := inn) r
    generalize r.takeWhile inn = t at *
    simp -dsimp -implicitDefEqProofs only [aw, V.copy, V.lend, eq_self, reduceIte, reduceCtorEq, Nat.reduceBEq, Nat.reduceLT, Nat.reduceEqDiff]
    refine fun_ret (hbh _) ?_
    simp -dsimp -implicitDefEqProofs only [aw, V.copy, V.lend, eq_self, reduceIte, reduceCtorEq, Nat.reduceBEq, Nat.reduceLT, Nat.reduceEqDiff, hsub, bs_size]
    by_cases h16 : 16 < t.length
    · have h16' : (16 : Int) < (t.length : Nat) := by omega
      simp -dsimp -implicitDefEqProofs only [aw, V.copy, V.lend, V.cells, V.boxable, over, bldV, Nat.reduceLeDiff, eq_self, reduceIte, Nat.reduceBEq, Nat.reduceLT, Nat.reduceEqDiff, Nat.reduceAdd, decide_eq_true h16']
      rw [if_pos h16]
      exact fin_box hb (by simp [rs25, resV, resL, res1, readV, tok0, tokV, bs_nil, aw, V.copy, V.lend, V.lend1, eq_self, reduceIte, Nat.reduceEqDiff, Nat.reduceAdd]) rfl
    · have h16' : ¬ (16 : Int) < (t.length : Nat) := by omega
      simp -dsimp -implicitDefEqProofs only [aw, V.copy, V.lend, eq_self, reduceIte, Nat.reduceLT, Nat.reduceEqDiff, decide_eq_false h16']
      rw [if_neg h16]
      refine fun_ret (r7iskw_fun _ _) ?_
      cases hkw : inB (bs t) kwList with
      | true =>
        simp -dsimp -implicitDefEqProofs only [aw, V.copy, V.cells, V.boxable, over, bldV, Nat.reduceLeDiff, eq_self, reduceIte, Nat.reduceBEq, Nat.reduceLT, Nat.reduceEqDiff, Nat.reduceAdd]
        exact fin_box hb (by simp [rs25, resV, resL, res1, readV, tokV, htk, aw, V.copy, V.lend, V.lend1, eq_self, reduceIte, Nat.reduceEqDiff, Nat.reduceAdd]) rfl
      | false =>
        simp -dsimp -implicitDefEqProofs only [aw, V.copy, V.cells, V.boxable, over, bldV, Nat.reduceLeDiff, eq_self, reduceIte, Nat.reduceBEq, Nat.reduceLT, Nat.reduceEqDiff, Nat.reduceAdd]
        exact fin_box hb (by simp [rs25, resV, resL, res1, readV, tokV, htk, aw, V.copy, V.lend, V.lend1, eq_self, reduceIte, Nat.reduceEqDiff, Nat.reduceAdd]) rfl
  | false =>
    simp -dsimp -implicitDefEqProofs only [aw, V.copy, V.lend, eq_self, reduceIte, reduceCtorEq, Nat.reduceBEq, Nat.reduceLT, Nat.reduceEqDiff, bs_list, hla]
    refine fun_ret (r7digit_fun _ _) ?_
    cases hdig : digB c.toNat with
    | true =>
      have hrd : readL r = if ((r.takeWhile inn).all fun x => digB x.toNat) = false ∨ (1 < (r.takeWhile inn).length ∧ c = 48) then .err 5 else if 2147483647 < decN (r.takeWhile inn) then .err 3 else .tok 3 (decN (r.takeWhile inn)) (r.takeWhile inn).length := by
        rw [hc]; simp only [readL, hlow, hdig, if_true, Bool.false_eq_true, if_false]
      rw [hrd]
      have htk := take_tw (q := inn) r
      have htc : r.takeWhile inn = c :: s.takeWhile inn := by rw [hc]; exact List.takeWhile_cons_of_pos (dig_inn hdig)
      generalize r.takeWhile inn = t at *
      simp -dsimp -implicitDefEqProofs only [aw, V.copy, V.lend, eq_self, reduceIte, reduceCtorEq, Nat.reduceBEq, Nat.reduceLT, Nat.reduceEqDiff]
      refine fun_ret (hbh _) ?_
      simp -dsimp -implicitDefEqProofs only [aw, V.copy, V.lend, eq_self, reduceIte, reduceCtorEq, Nat.reduceBEq, Nat.reduceLT, Nat.reduceEqDiff, hsub]
      refine fun_ret (r1Parse_fun c _ t htc hdig (by omega) _) ?_
      unfold parseR
      by_cases h5 : t.all dig = false ∨ (1 < t.length ∧ c = 48)
      · rw [if_pos h5, if_pos (show (t.all fun x => digB x.toNat) = false ∨ (1 < t.length ∧ c = 48) from h5)]
        simp -dsimp -implicitDefEqProofs only [aw, V.copy, V.lend, V.cells, V.boxable, over, bldV, Nat.reduceLeDiff, eq_self, reduceIte, Nat.reduceBEq, Nat.reduceLT, Nat.reduceEqDiff, Nat.reduceAdd, decide_true]
        exact fin_box hb (by simp [rs25, resV, resL, res1, readV, tok0, tokV, bs_nil, aw, V.copy, V.lend, V.lend1, eq_self, reduceIte, Nat.reduceEqDiff, Nat.reduceAdd]) rfl
      · rw [if_neg h5, if_neg (show ¬ ((t.all fun x => digB x.toNat) = false ∨ (1 < t.length ∧ c = 48)) from h5)]
        by_cases h9 : 9223372036854775807 < decN t
        · rw [if_pos h9, if_pos (by omega)]
          simp -dsimp -implicitDefEqProofs only [aw, V.copy, V.lend, V.cells, V.boxable, over, bldV, Nat.reduceLeDiff, eq_self, reduceIte, Nat.reduceBEq, Nat.reduceLT, Nat.reduceEqDiff, Nat.reduceAdd, Int.reduceEq, decide_false]
          exact fin_box hb (by simp [rs25, resV, resL, res1, readV, tok0, tokV, bs_nil, aw, V.copy, V.lend, V.lend1, eq_self, reduceIte, Nat.reduceEqDiff, Nat.reduceAdd]) rfl
        · rw [if_neg h9]
          by_cases h3 : 2147483647 < decN t
          · have h3' : (2147483647 : Int) < ((decN t : Nat) : Int) := by omega
            rw [if_pos h3]
            simp -dsimp -implicitDefEqProofs only [aw, V.copy, V.lend, V.cells, V.boxable, over, bldV, Nat.reduceLeDiff, cond_false, eq_self, reduceIte, Nat.reduceBEq, Nat.reduceLT, Nat.reduceEqDiff, Nat.reduceAdd, Int.reduceEq, decide_eq_true h3', decide_true, decide_false]
            exact fin_box hb (by simp [rs25, resV, resL, res1, readV, tok0, tokV, bs_nil, aw, V.copy, V.lend, V.lend1, eq_self, reduceIte, Nat.reduceEqDiff, Nat.reduceAdd]) rfl
          · have h3' : ¬ (2147483647 : Int) < ((decN t : Nat) : Int) := by omega
            rw [if_neg h3]
            simp -dsimp -implicitDefEqProofs only [aw, V.copy, V.lend, V.cells, V.boxable, over, bldV, Nat.reduceLeDiff, cond_false, eq_self, reduceIte, Nat.reduceBEq, Nat.reduceLT, Nat.reduceEqDiff, Nat.reduceAdd, Int.reduceEq, decide_eq_false h3', decide_true, decide_false]
            exact fin_box hb (by simp [rs25, resV, resL, res1, readV, tokV, htk, aw, V.copy, V.lend, V.lend1, eq_self, reduceIte, Nat.reduceEqDiff, Nat.reduceAdd]) rfl
    | false =>
      have hrd : readL r = if n = 0 then .err 5 else .tok 4 0 n := by rw [← hn, hc]; exact readL_mark c s hlow hdig
      rw [hrd]
      have hbl := (best_le r).1
      rw [hn] at hbl
      simp -dsimp -implicitDefEqProofs only [aw, V.copy, V.lend, eq_self, reduceIte, reduceCtorEq, Nat.reduceBEq, Nat.reduceLT, Nat.reduceEqDiff]
      refine fun_ret (r7longest_fun n l a (by rw [hr]; exact hn) (by omega) hl _) ?_
      rw [hr]
      by_cases hz : n = 0
      · have e0 : decide (bs (r.take n) = (⟨#[]⟩ : ByteArray)) = true := by rw [hz]; rfl
        simp -dsimp -implicitDefEqProofs only [aw, V.copy, V.cells, V.boxable, over, bldV, Nat.reduceLeDiff, eq_self, reduceIte, reduceCtorEq, Nat.reduceBEq, Nat.reduceLT, Nat.reduceEqDiff, Nat.reduceAdd, e0]
        rw [if_pos hz]
        exact fin_box hb (by simp [rs25, resV, resL, res1, readV, tok0, tokV, bs_nil, aw, V.copy, V.lend, V.lend1, eq_self, reduceIte, Nat.reduceEqDiff, Nat.reduceAdd]) rfl
      · have e0 : decide (bs (r.take n) = (⟨#[]⟩ : ByteArray)) = false := by
          rw [decide_eq_false_iff_not]
          intro h
          have h2 := bs_inj.1 (h : bs (r.take n) = bs [])
          have h3 := congrArg List.length h2
          rw [List.length_take, List.length_nil] at h3
          omega
        simp -dsimp -implicitDefEqProofs only [aw, V.copy, V.cells, V.boxable, over, bldV, Nat.reduceLeDiff, eq_self, reduceIte, reduceCtorEq, Nat.reduceBEq, Nat.reduceLT, Nat.reduceEqDiff, Nat.reduceAdd, e0]
        rw [if_neg hz]
        exact fin_box hb (by simp [rs25, resV, resL, res1, readV, tokV, aw, V.copy, V.lend, V.lend1, eq_self, reduceIte, Nat.reduceEqDiff, Nat.reduceAdd]) rfl
set_option maxHeartbeats 1000000 in
theorem r7tokens_fun (l : Bs) (hl : l.length ≤ 1000000) (σ : List (List V)) : Fun G 13 [.d (dstr (bs l))] σ (RetV (lexR l) σ) := by
  refine fun_code Tryz.func13 k13 rfl fun hb hw => ?_
  delta c13 oM oV kI kS kT kF
  by_cases hbig : 16384 < l.length
  · have hbig' : (16384 : Int) < ((l.length : Nat) : Int) := by omega
    simp -dsimp -implicitDefEqProofs only [aw, slots0, V.copy, V.lend, eq_self, reduceIte, reduceCtorEq, Nat.reduceBEq, Nat.reduceLT, Nat.reduceEqDiff, bs_size, decide_eq_true hbig']
    exact fin_ret hb (v := lexR l) (by unfold lexR; rw [if_pos hbig]; rfl) (by unfold lexR; rw [if_pos hbig]; rfl) List.take_length ⟨rfl, rfl⟩
  · have hbig' : ¬ (16384 : Int) < ((l.length : Nat) : Int) := by omega
    have hR : lexR l = lexV (toksL l) := by unfold lexR; rw [if_neg hbig]
    rw [hR]
    obtain ⟨T, hT⟩ : ∃ T : Int, T = 1 + (l.count 10 : Nat) := ⟨_, rfl⟩
    have htk : toksL l = toksN T l := by rw [hT]; rfl
    have hline : ∀ a, 1 + (((l.take a).count 10 : Nat) : Int) = T - (((l.drop a).count 10 : Nat) : Int) := fun a => by
      have : l.count 10 = (l.take a).count 10 + (l.drop a).count 10 := by rw [← List.count_append, List.take_append_drop]
      omega
    have hsuf : ∀ a, a ≤ l.length → l.drop (l.length - (skipL (l.drop a)).length) = skipL (l.drop a) ∧ a ≤ l.length - (skipL (l.drop a)).length := fun a ha => by
      have h1 : skipL (l.drop a) <:+ l := (skip_suffix _).trans (List.drop_suffix _ _)
      have h2 := (skip_suffix (l.drop a)).length_le
      rw [List.length_drop] at h2
      exact ⟨(List.suffix_iff_eq_drop.1 h1).symm, by omega⟩
    simp -dsimp -implicitDefEqProofs only [aw, slots0, V.copy, V.lend, eq_self, reduceIte, reduceCtorEq, Nat.reduceBEq, Nat.reduceLT, Nat.reduceEqDiff, bs_size, decide_eq_false hbig']
    refine fun_ret (r7blank_fun l 0 (by omega) hl _) ?_
    simp -dsimp -implicitDefEqProofs only [aw, V.copy, eq_self, reduceIte, reduceCtorEq, Nat.reduceBEq, Nat.reduceLT, Nat.reduceEqDiff]
    have hs0 := hsuf 0 (by omega)
    rw [List.drop_zero] at hs0
    refine awp_forK [0, 5, 6] (R := fun (j : Nat) ρ σ' => ∃ (acc : List Tok) (a : Nat), a ≤ l.length ∧ j ≤ a ∧ skipL (l.drop a) = l.drop a ∧ toksL l = (toksN T (l.drop a)).app acc ∧ acc.length ≤ j ∧ ρ = [(0, .d (dstr (bs l))), (5, .own 41 4 (acc.map tokD)), (6, vint .i64 (a : Nat))] ∧ σ' = σ) l.length ⟨[], l.length - (skipL l).length, by omega, by omega, by rw [hs0.1, skip_idem], by rw [app_nil, hs0.1, toksN_skip, htk], by simp, rfl, rfl⟩ ?_ _
    rintro j ρ' σ' hj ⟨acc, a, hal, hja, hs, hr, hacc, rfl, rfl⟩
    obtain ⟨r, hre⟩ : ∃ r, r = l.drop a := ⟨_, rfl⟩
    rw [← hre] at hs hr
    by_cases hlt : a < l.length
    · obtain ⟨c, s, hcs⟩ : ∃ c s, r = c :: s := ⟨_, _, hre.trans (List.drop_eq_getElem_cons hlt)⟩
      have hst := toksN_step T r
      rw [hs] at hst
      have hln := hline a
      rw [← hre] at hln
      have hrl : r.length = l.length - a := by rw [hre, List.length_drop]
      simp -dsimp -implicitDefEqProofs only [aw, V.copy, V.lend, eq_self, reduceIte, reduceCtorEq, Nat.reduceBEq, Nat.reduceLT, Nat.reduceEqDiff, bs_size, Int.ofNat_lt, hlt, decide_true]
      refine fun_ret (r7read_fun (bestM r) l r c s a hre.symm hcs rfl hl _) ?_
      cases hrd : readL r with
      | err e =>
        have he0 := read_err hrd
        simp -dsimp -implicitDefEqProofs only [aw, V.copy, V.lend, V.cells, V.boxable, over, Nat.reduceLeDiff, eq_self, reduceIte, reduceCtorEq, Nat.reduceBEq, Nat.reduceLT, Nat.reduceEqDiff, Nat.reduceAdd, readV, tok0, tokV, decide_eq_false he0]
        refine fun_ret (r7line_fun l a hal hl _) ?_
        rw [hln]
        simp -dsimp -implicitDefEqProofs only [aw, V.copy, V.lend, eq_self, reduceIte, reduceCtorEq, Nat.reduceBEq, Nat.reduceLT, Nat.reduceEqDiff]
        have hv : toksL l = .err (T - (r.count 10 : Nat)) e := by
          rw [hr, hst]
          rw [hcs] at hrd ⊢
          simp only [hrd, Lx.app]
        exact fin_box hb (by rw [hv]; rfl) (by rw [hv]; rfl)
      | tok kd n len =>
        obtain ⟨g1, g2⟩ := read_len hrd
        simp -dsimp -implicitDefEqProofs only [aw, V.copy, V.lend, V.cells, V.boxable, over, Nat.reduceLeDiff, eq_self, reduceIte, reduceCtorEq, Nat.reduceBEq, Nat.reduceLT, Nat.reduceEqDiff, Nat.reduceAdd, readV, tokV, decide_true]
        refine fun_ret (r7line_fun l a hal hl _) ?_
        rw [hln]
        have hlt2 : (r.take len).length = len := by rw [List.length_take]; omega
        have wa : IntKind.i64.wrap ((a : Int) + (len : Nat)) = ((a + len : Nat) : Int) := by rw [wrap_i64 (by omega) (by omega)]; omega
        simp -dsimp -implicitDefEqProofs only [aw, V.copy, V.lend, V.cells, V.boxable, over, rowsOf, plains, V.plain, Nat.reduceLeDiff, eq_self, reduceIte, reduceCtorEq, Nat.reduceBEq, Nat.reduceLT, Nat.reduceEqDiff, Nat.reduceAdd]
        refine onT_intro (by omega) ?_
        simp -dsimp -implicitDefEqProofs only [aw, V.copy, V.lend, Nat.reduceLeDiff, eq_self, reduceIte, reduceCtorEq, Nat.reduceBEq, Nat.reduceLT, Nat.reduceEqDiff, Nat.reduceAdd, bs_size, hlt2, wa]
        refine fun_ret (r7blank_fun l (a + len) (by omega) hl _) ?_
        simp -dsimp -implicitDefEqProofs only [aw, V.copy, eq_self, reduceIte, reduceCtorEq, Nat.reduceBEq, Nat.reduceLT, Nat.reduceEqDiff]
        obtain ⟨k1, k2⟩ := hsuf (a + len) (by omega)
        have hdd : l.drop (a + len) = r.drop len := by rw [hre, List.drop_drop]
        have hv : toksL l = (toksN T (skipL (l.drop (a + len)))).app (acc ++ [cutTok T r kd n len]) := by
          rw [hr, hst, toksN_skip, ← app_cons, hdd]
          rw [hcs] at hrd ⊢
          simp only [hrd]
        refine ⟨by omega, Nxt.drop (Nat.le_refl _) hb rfl ⟨acc ++ [cutTok T r kd n len], l.length - (skipL (l.drop (a + len))).length, by omega, by omega, by rw [k1, skip_idem], by rw [k1]; exact hv, by simp; omega, ?_, rfl⟩⟩
        simp only [List.map_append, List.map_cons, List.map_nil]
        rfl
    · have hae : a = l.length := by omega
      have hrn : r = [] := by rw [hre, hae, List.drop_length]
      rw [hrn, toksN_step, skipL_nil] at hr
      simp -dsimp -implicitDefEqProofs only [aw, V.copy, V.lend, eq_self, reduceIte, reduceCtorEq, Nat.reduceBEq, Nat.reduceLT, Nat.reduceEqDiff, bs_size, Int.ofNat_lt, hlt, decide_false]
      refine fin_ret hb (v := lexV (toksL l)) ?_ ?_ List.take_length ⟨rfl, rfl⟩
      · rw [hr]
        simp only [Lx.app, List.append_nil, lexV]
        rfl
      · rw [hr]; rfl
end Go.Proofs.YteopfpebdalcoaaGreatDoor
