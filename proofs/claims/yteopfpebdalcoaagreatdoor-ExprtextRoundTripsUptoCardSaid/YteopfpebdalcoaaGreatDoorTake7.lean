/-
  The reader of the program's lexer: take and skip.
-/
import Derived.Test.YteopfpebdalcoaaGreatDoorRune7
set_option linter.unusedVariables false
set_option linter.unusedSimpArgs false
set_option linter.unusedSectionVars false
namespace Go.Proofs.YteopfpebdalcoaaGreatDoor
open Go.RowKit
theorem sub_hi (l : Bs) (n : Nat) (h : n ≤ l.length) : subV true 0 (V.d (dstr (bs l))) none (some (V.d (dint n))) = some (V.d (dstr (bs (l.take n)))) := by
  simp [subV, boundV, vstr, bs_size, h, bs_take]
theorem sub_lo (l : Bs) (n : Nat) (h : n ≤ l.length) : subV true 0 (V.d (dstr (bs l))) (some (V.d (dint n))) none = some (V.d (dstr (bs (l.drop n)))) := by
  have := bs_drop l n
  rw [bs_size] at this
  simp [subV, boundV, vstr, bs_size, h, this]
theorem nil_yes : decide (bs [] = ({ data := #[] } : ByteArray)) = true := by rw [decide_eq_true_eq]; rfl
theorem nil_no (c : UInt8) (r : Bs) : decide (bs (c :: r) = ({ data := #[] } : ByteArray)) = false := by
  rw [decide_eq_false_iff_not]; intro h; have h2 := bs_inj.1 (h : bs (c :: r) = bs []); cases h2
theorem ix_head (c : UInt8) (r : Bs) : ixV (V.d (dstr (bs (c :: r)))) (V.d (.lit (.int .i64 0))) = some (vint .u8 c.toNat) := by simp [ixV, bs_list]
theorem wrap32 (n : Nat) (h : n < 256) : IntKind.i32.wrap (n : Int) = n := by
  simp [IntKind.wrap, IntKind.bits, IntKind.signed]
  split <;> omega
theorem blank_nat (c : UInt8) : (c.toNat == 32 || c.toNat == 9 || c.toNat == 10) = blankB c := by
  rw [Bool.eq_iff_iff]; simp [blankB, ← UInt8.toNat_inj]
theorem drop_tw (q : UInt8 → Bool) : ∀ l : Bs, l.drop (l.takeWhile q).length = l.dropWhile q
  | [] => rfl
  | a :: r => by
    by_cases h : q a = true
    · rw [List.takeWhile_cons_of_pos h, List.dropWhile_cons_of_pos h, List.length_cons, List.drop_succ_cons, drop_tw q r]
    · rw [List.takeWhile_cons_of_neg h, List.dropWhile_cons_of_neg h]; rfl
def rd (l : Bs) (n : Int) : List V := [.d (dstr (bs l)), .d (dint n)]
theorem below_set {k : Nat} {σ : List (List V)} {cs : List V} {i : Nat} (h : boxesBelow k σ = true) (hc : V.unders k cs = true) : boxesBelow k (σ.set i cs) = true := by
  unfold boxesBelow at h ⊢
  rw [List.all_eq_true] at h ⊢
  intro x hx
  rcases List.mem_or_eq_of_mem_set hx with h1 | rfl
  · exact h x h1
  · exact hc
theorem fin_set {σ σ' τ : List (List V)} {ρ : Slots} {rs : List RV} {Q : Out → List (List V) → Prop} (hb : boxesBelow σ.length τ = true) {v : V} (h : resV σ' ρ rs = some v) (hv : V.under σ.length v = true) (hσ : σ'.take σ.length = τ) (hq : Q (.ret v) τ) : fin σ.length rs Q .ret ρ σ' :=
  ⟨ρ, σ', .refl _ _ _, v, h, σ.length, Nat.le_refl _, by rw [hσ]; exact hb, hv, by rw [hσ]; exact hq⟩
theorem fun_set {C : Cx} {f : FuncId} {args : List V} {σ τ : List (List V)} {v : V} {K P : V → List (List V) → Prop} {s : Tag K} {t : Tag P} (h : Fun C f args σ fun o σ' => o = .ret v ∧ σ' = τ) (hk : K v τ) : FunT C f args σ K P s t :=
  h.mono fun o σ' ⟨e1, e2⟩ => by subst e1; subst e2; exact hk
def rdr (T : Int) (l : Bs) : List V := rd l (T - (l.count 10 : Nat))
theorem take_fun (T : Int) (l : Bs) (n i : Nat) (hn : n ≤ l.length) (hl : l.length ≤ 1000000) (h0 : 0 ≤ T) (h1 : T ≤ 1000000000) (σ : List (List V)) (hi : σ[i]? = some (rdr T l)) :
    Fun G 77 [.ptr i 0, .d (dint n)] σ fun o σ' => o = .ret (.d (dstr (bs (l.take n)))) ∧ σ' = σ.set i (rdr T (l.drop n)) := by
  have hlt : i < σ.length := (List.getElem?_eq_some_iff.1 hi).1
  have hcl : (l.count 10 : Nat) = (l.take n).count 10 + (l.drop n).count 10 := by rw [← List.count_append, List.take_append_drop]
  have hc2 : l.count 10 ≤ l.length := List.count_le_length
  refine fun_code Tryz.func77 k77 rfl fun hb hw => ?_
  delta c77 oM oV kI kS kT kF
  unfold rdr rd at hi
  have hi' : (σ.set i [.d (dstr (bs (l.drop n))), .d (dint (T - (l.count 10 : Nat)))])[i]? = some [.d (dstr (bs (l.drop n))), .d (dint (T - (l.count 10 : Nat)))] := by simp [hlt]
  simp -dsimp -implicitDefEqProofs only [aw, slots0, V.copy, V.lend, V.cells, V.boxable, over, Nat.reduceLeDiff, eq_self, reduceIte, reduceCtorEq, Nat.reduceBEq, Nat.reduceLT, Nat.reduceEqDiff, Nat.reduceAdd, hi, sub_hi l n hn, sub_lo l n hn, hi']
  refine calm_ret (fun_count _ (by rw [List.length_take]; omega) _) ?_
  simp -dsimp -implicitDefEqProofs only [aw, V.copy, V.cells, V.boxable, over, Nat.reduceLeDiff, eq_self, reduceIte, reduceCtorEq, Nat.reduceBEq, Nat.reduceLT, Nat.reduceEqDiff, Nat.reduceAdd, hi']
  rw [wrap_i64 (by omega) (by omega), List.set_set, show T - (l.count 10 : Nat) + ((l.take n).count 10 : Nat) = T - ((l.drop n).count 10 : Nat) by omega]
  exact fin_set (τ := σ.set i (rdr T (l.drop n))) (below_set hb rfl) rfl rfl (by rw [List.take_of_length_le (by rw [List.length_set]; exact Nat.le_refl _)]; rfl) ⟨rfl, rfl⟩
theorem isblank_fun (c : Nat) (hc : c < 256) (σ : List (List V)) : Fun G 80 [.d (dstr ⟨#[32, 9, 10]⟩), .d (.lit (.int .i32 c))] σ (RetV (.d (.lit (.bool (c == 32 || c == 9 || c == 10)))) σ) :=
  fun_lit2 Tryz.func80 (by kernel_rfl) (by kernel_rfl) trivial fun pr w _ => by
    by_cases h : c < 128
    · have := same_ext (Tryz.strings_ContainsRune_ascii ⟨#[32, 9, 10]⟩ c w (by omega) (by omega))
      rw [← blank_low c h]
      exact this
    · have e : (c == 32 || c == 9 || c == 10) = false := by simp; omega
      rw [e]
      exact containsrune_high c (by omega) hc w
theorem skip_fun (T : Int) (l : Bs) (i : Nat) (hl : l.length ≤ 1000000) (h0 : 0 ≤ T) (h1 : T ≤ 1000000000) (σ : List (List V)) (hi : σ[i]? = some (rdr T l)) :
    Fun G 45 [.ptr i 0] σ fun o σ' => o = .ret (.tup []) ∧ σ' = σ.set i (rdr T (skipL l)) := by
  have hlt : i < σ.length := (List.getElem?_eq_some_iff.1 hi).1
  have hset : ∀ X : List V, (σ.set i X)[i]? = some X := fun X => by simp [hlt]
  have hself : σ.set i (rdr T l) = σ := by rw [← List.getElem?_eq_some_iff.1 hi |>.2]; exact List.set_getElem_self hlt
  refine fun_code Tryz.func45 k45 rfl fun hb hw => ?_
  delta c45 oM oV kI kS kT kF
  simp -dsimp -implicitDefEqProofs only [aw, slots0]
  refine awp_for (R := fun (j : Nat) ρ σ' => ∃ r : Bs, skipL r = skipL l ∧ r.length + j ≤ l.length ∧ ρ = [(0, .ptr i 0)] ∧ σ' = σ.set i (rdr T r)) (l.length + 1) ⟨l, rfl, by omega, rfl, hself.symm⟩ ?_ _
  rintro j ρ' σ' hj ⟨r, hr, hrl, rfl, rfl⟩
  have hset' := hset (rdr T r)
  have hset2 := hset'
  unfold rdr rd at hset2
  simp -dsimp -implicitDefEqProofs only [aw, V.copy, V.lend, Nat.reduceLeDiff, eq_self, reduceIte, reduceCtorEq, Nat.reduceLT, Nat.reduceEqDiff, Nat.reduceAdd, hset2, rdr, rd]
  refine fun_ret (fun_hasprefix r [47, 47] _) ?_
  have next : ∀ r2 : Bs, skipL r2 = skipL l → r2.length < r.length → j < l.length + 1 ∧ Nxt σ.length (fun ρ σ' => ∃ r, skipL r = skipL l ∧ r.length + (j + 1) ≤ l.length ∧ ρ = [(0, V.ptr i 0)] ∧ σ' = σ.set i (rdr T r)) [(0, .ptr i 0)] (σ.set i (rdr T r2)) .mk := fun r2 h2 h3 =>
    ⟨by omega, Nxt.same (by simp) (by rw [List.length_set]; exact below_set hb rfl) (by simp [slotsBelow, V.under, hlt]) ⟨r2, h2, by omega, rfl, rfl⟩⟩
  cases hpre : ([47, 47] : Bs).isPrefixOf r with
  | true =>
    obtain ⟨r2, hr2⟩ := List.isPrefixOf_iff_prefix.1 hpre
    have hdw : r.drop (r.takeWhile (· != 10)).length = r.dropWhile (· != 10) := drop_tw _ r
    have hsk : skipL r = skipL (r.dropWhile (· != 10)) := by
      subst hr2
      rw [List.cons_append, skipL_cons, if_neg (by decide), if_pos ⟨rfl, rfl⟩]
    have htw : (r.takeWhile (· != 10)).length ≤ r.length := (List.takeWhile_prefix _).length_le
    have htp : 1 ≤ (r.takeWhile (· != 10)).length := by
      subst hr2; rw [List.cons_append, List.takeWhile_cons_of_pos (by decide)]; simp
    simp -dsimp -implicitDefEqProofs only [aw, V.copy, V.lend, Nat.reduceLeDiff, eq_self, reduceIte, reduceCtorEq, Nat.reduceBEq, Nat.reduceLT, Nat.reduceEqDiff, Nat.reduceAdd, hset2]
    refine fun_ret (span_line r (by omega) _) ?_
    simp -dsimp -implicitDefEqProofs only [aw, V.lend, eq_self, reduceIte, reduceCtorEq, Nat.reduceLT, Nat.reduceEqDiff]
    refine fun_set (take_fun T r _ i htw (by omega) h0 h1 _ hset2) ?_
    rw [List.set_set]
    simp -dsimp -implicitDefEqProofs only [aw, eq_self, reduceIte, reduceCtorEq, Nat.reduceBEq, Nat.reduceLT, Nat.reduceEqDiff]
    exact next _ (by rw [hdw, ← hsk, hr]) (by rw [List.length_drop]; omega)
  | false =>
    match r with
    | [] =>
      simp -dsimp -implicitDefEqProofs only [aw, V.copy, Nat.reduceLeDiff, eq_self, reduceIte, reduceCtorEq, Nat.reduceBEq, Nat.reduceLT, Nat.reduceEqDiff, Nat.reduceAdd, hset2, nil_yes]
      rw [skipL_nil] at hr
      exact fin_set (τ := σ.set i (rdr T [])) (below_set hb rfl) rfl rfl (by rw [List.take_of_length_le (by rw [List.length_set]; exact Nat.le_refl _)]; rfl) ⟨rfl, by rw [← hr]⟩
    | c :: r2 =>
      simp -dsimp -implicitDefEqProofs only [aw, V.copy, V.lend, Nat.reduceLeDiff, eq_self, reduceIte, reduceCtorEq, Nat.reduceBEq, Nat.reduceLT, Nat.reduceEqDiff, Nat.reduceAdd, hset2, nil_no, ix_head]
      have hc : c.toNat < 256 := c.toNat_lt
      rw [wrap32 _ hc]
      refine fun_ret (isblank_fun c.toNat hc _) ?_
      rw [blank_nat]
      cases hbl : blankB c with
      | true =>
        simp -dsimp -implicitDefEqProofs only [aw, V.copy, V.lend, cond_true, eq_self, reduceIte, reduceCtorEq, Nat.reduceBEq, Nat.reduceLT, Nat.reduceEqDiff]
        refine fun_set (take_fun T (c :: r2) 1 i (by simp) (by omega) h0 h1 _ hset2) ?_
        rw [List.set_set]
        simp -dsimp -implicitDefEqProofs only [aw, eq_self, reduceIte, reduceCtorEq, Nat.reduceBEq, Nat.reduceLT, Nat.reduceEqDiff]
        exact next r2 (by rw [← hr, skipL_cons, if_pos hbl]) (by simp)
      | false =>
        simp -dsimp -implicitDefEqProofs only [aw, V.copy, cond_true, eq_self, reduceIte, reduceCtorEq, Nat.reduceBEq, Nat.reduceLT, Nat.reduceEqDiff]
        have hs : skipL (c :: r2) = c :: r2 := by
          rw [skipL_cons, if_neg (by rw [hbl]; decide), if_neg]
          rintro ⟨rfl, h⟩
          match r2, h with
          | d :: r3, h =>
            simp only [List.head?_cons, Option.some.injEq] at h
            subst h
            simp at hpre
        exact fin_set (τ := σ.set i (rdr T (c :: r2))) (below_set hb rfl) rfl rfl (by rw [List.take_of_length_le (by rw [List.length_set]; exact Nat.le_refl _)]; rfl) ⟨rfl, by rw [← hr, hs]⟩
end Go.Proofs.YteopfpebdalcoaaGreatDoor
