/-
  tseq.node, check, Valid.
-/
import Derived.Test.YtbhippphcmkjnaaGreatDoorTShape
set_option linter.unusedVariables false
set_option linter.unusedSimpArgs false
namespace Go.Proofs.YtbhippphcmkjnaaGreatDoor
open Go.RowKit

theorem fun_index8 (l : List ByteArray) (s : ByteArray) (hl : l.length ≤ 1000000) (σ : List (List V)) : Fun G 73 [.d (dstrs l), .d (dstr s)] σ (RetV (.d (.lit (.bool (inB s l)))) σ) :=
  fun_of2 Tryz.func73 (by kernel_rfl) (by kernel_rfl) trivial fun M bm w v v' hG hM h1 h2 => by
    cases h2 with
    | d h2 => cases h2 with
      | lit _ h => exact (contains_any l s v w (strsval_of hM h1)).mono fun e w' ⟨h3, h4⟩ => by subst h4; exact ⟨h3, Ext.refl _⟩
theorem indexf_fun (l : List ByteArray) (p : ByteArray → Bool) (f : FuncId) (cap : List V) (hl : l.length ≤ 1000000) (σ : List (List V)) (hc : V.unders σ.length cap = true) (hf : ∀ s, s ∈ l → Fun G f (.d (dstr s) :: cap) σ (RetV (vbool (p s)) σ)) :
    Fun G 98 [.d (.sl (l.map fun s => [dstr s])), .fn f cap] σ fun o σ' => ∃ i : Int, o = .ret (.d (dint i)) ∧ σ' = σ ∧ decide (0 ≤ i) = l.any p := by
  refine fun_code Tryz.func98 k98 rfl fun hb hw => ?_
  unfold c98
  simp -dsimp -implicitDefEqProofs only [aw, slots0, V.copy, V.lend, V.lend1, V.cells, V.boxable, over, bldV, boundV, rowsOf, plains, V.plain, Nat.reduceLeDiff, cond_true, cond_false, implies_true, eq_self, ne_eq, reduceIte, reduceCtorEq, Nat.reduceBEq, Nat.reduceLT, Nat.reduceEqDiff, Nat.reduceAdd, Nat.reduceSub, Nat.reduceMul]
  refine awp_forK [0, 1, 7, 8] (R := fun (j : Nat) ρ σ' => ρ = [(0, .d (.sl (l.map fun s => [dstr s]))), (1, .fn f cap), (7, vint .i64 l.length), (8, vint .i64 j)] ∧ σ' = σ ∧ l.any p = (l.drop j).any p) l.length ⟨rfl, rfl, by simp⟩ ?_ _
  rintro j ρ' σ' hj ⟨rfl, rfl, hr⟩
  by_cases hlt : j < l.length
  · have hd : (l.drop j).any p = (p l[j] || (l.drop (j + 1)).any p) := by rw [List.drop_eq_getElem_cons hlt]; rfl
    simp -dsimp -implicitDefEqProofs only [aw, slots0, V.copy, V.lend, V.lend1, V.cells, V.boxable, over, bldV, boundV, rowsOf, plains, V.plain, Nat.reduceLeDiff, cond_true, cond_false, implies_true, eq_self, ne_eq, reduceIte, reduceCtorEq, Nat.reduceBEq, Nat.reduceLT, Nat.reduceEqDiff, Nat.reduceAdd, Nat.reduceSub, Nat.reduceMul, Int.ofNat_lt, hlt, decide_true, List.getElem?_eq_getElem hlt]
    refine fun_ret (hf l[j] (List.getElem_mem hlt)) ?_
    rw [hd] at hr
    cases hp : p l[j] with
    | true =>
      rw [hp] at hr
      simp -dsimp -implicitDefEqProofs only [aw, slots0, V.copy, V.lend, V.lend1, V.cells, V.boxable, over, bldV, boundV, rowsOf, plains, V.plain, Nat.reduceLeDiff, cond_true, cond_false, implies_true, eq_self, ne_eq, reduceIte, reduceCtorEq, Nat.reduceBEq, Nat.reduceLT, Nat.reduceEqDiff, Nat.reduceAdd, Nat.reduceSub, Nat.reduceMul]
      exact fin_ret hb rfl rfl List.take_length ⟨j, rfl, rfl, by rw [hr, decide_eq_true (by omega)]; rfl⟩
    | false =>
      rw [hp, Bool.false_or] at hr
      simp -dsimp -implicitDefEqProofs only [aw, slots0, V.copy, V.lend, V.lend1, V.cells, V.boxable, over, bldV, boundV, rowsOf, plains, V.plain, Nat.reduceLeDiff, cond_true, cond_false, implies_true, eq_self, ne_eq, reduceIte, reduceCtorEq, Nat.reduceBEq, Nat.reduceLT, Nat.reduceEqDiff, Nat.reduceAdd, Nat.reduceSub, Nat.reduceMul, wrap_nat hlt (show l.length ≤ 9223372036854775807 by omega)]
      exact ⟨hlt, Nxt.same (Nat.le_refl _) hb (by simp [slotsBelow, V.under, V.unders, hc]) ⟨rfl, rfl, hr⟩⟩
  · simp -dsimp -implicitDefEqProofs only [aw, slots0, V.copy, V.lend, V.lend1, V.cells, V.boxable, over, bldV, boundV, rowsOf, plains, V.plain, Nat.reduceLeDiff, cond_true, cond_false, implies_true, eq_self, ne_eq, reduceIte, reduceCtorEq, Nat.reduceBEq, Nat.reduceLT, Nat.reduceEqDiff, Nat.reduceAdd, Nat.reduceSub, Nat.reduceMul, Int.ofNat_lt, hlt, decide_false]
    rw [List.drop_eq_nil_of_le (by omega)] at hr
    exact fin_ret hb rfl rfl List.take_length ⟨-1, rfl, rfl, by rw [hr]; rfl⟩
theorem retK_r (K P : V → List (List V) → Prop) (v : V) (σ : List (List V)) : retK K P (.ret v) σ = K v σ := rfl
theorem containsf_fun (l : List ByteArray) (p : ByteArray → Bool) (f : FuncId) (cap : List V) (hl : l.length ≤ 1000000) (σ : List (List V)) (hc : V.unders σ.length cap = true) (hf : ∀ s, s ∈ l → Fun G f (.d (dstr s) :: cap) σ (RetV (vbool (p s)) σ)) :
    Fun G 70 [.d (.sl (l.map fun s => [dstr s])), .fn f cap] σ (RetV (vbool (l.any p)) σ) := by
  refine fun_code Tryz.func70 k70 rfl fun hb hw => ?_
  unfold c70
  simp -dsimp -implicitDefEqProofs only [aw, slots0, V.copy, V.lend, V.lend1, V.cells, V.boxable, over, bldV, boundV, rowsOf, plains, V.plain, Nat.reduceLeDiff, cond_true, cond_false, implies_true, eq_self, ne_eq, reduceIte, reduceCtorEq, Nat.reduceBEq, Nat.reduceLT, Nat.reduceEqDiff, Nat.reduceAdd, Nat.reduceSub, Nat.reduceMul]
  refine fun_mono (indexf_fun l p f cap hl _ hc hf) fun o σ' ⟨i, h1, h2, h3⟩ => ?_
  subst h1; subst h2
  simp -dsimp -implicitDefEqProofs only [aw, slots0, V.copy, V.lend, V.lend1, V.cells, V.boxable, over, bldV, boundV, rowsOf, plains, V.plain, Nat.reduceLeDiff, cond_true, cond_false, implies_true, eq_self, ne_eq, reduceIte, reduceCtorEq, Nat.reduceBEq, Nat.reduceLT, Nat.reduceEqDiff, Nat.reduceAdd, Nat.reduceSub, Nat.reduceMul, retK_r, h3]
  first | exact fin_ret hb rfl rfl List.take_length ⟨rfl, rfl⟩ | exact fin_ret hb rfl rfl List.take_left ⟨rfl, rfl⟩ | (trace_state; fail "fin")
theorem nodec_fun (l : List ByteArray) (hl : l.length ≤ 1000000) (s : ByteArray) (σ : List (List V)) (i : Nat) (hi : σ[i]? = some [.d (dstrs l)]) : Fun G 72 [.d (dstr s), .ptr i 0] σ (RetV (vbool (inB s l)) σ) := by
  refine fun_code Tryz.func72 k72 rfl fun hb hw => ?_
  unfold c72
  simp -dsimp -implicitDefEqProofs only [aw, slots0, V.copy, V.lend, V.lend1, V.cells, V.boxable, over, bldV, boundV, rowsOf, plains, V.plain, Nat.reduceLeDiff, cond_true, cond_false, implies_true, eq_self, ne_eq, reduceIte, reduceCtorEq, Nat.reduceBEq, Nat.reduceLT, Nat.reduceEqDiff, Nat.reduceAdd, Nat.reduceSub, Nat.reduceMul, hi]
  refine fun_ret (fun_index8 l s hl _) ?_
  simp -dsimp -implicitDefEqProofs only [aw, slots0, V.copy, V.lend, V.lend1, V.cells, V.boxable, over, bldV, boundV, rowsOf, plains, V.plain, Nat.reduceLeDiff, cond_true, cond_false, implies_true, eq_self, ne_eq, reduceIte, reduceCtorEq, Nat.reduceBEq, Nat.reduceLT, Nat.reduceEqDiff, Nat.reduceAdd, Nat.reduceSub, Nat.reduceMul]
  first | exact fin_ret hb rfl rfl List.take_length ⟨rfl, rfl⟩ | exact fin_ret hb rfl rfl List.take_left ⟨rfl, rfl⟩ | (trace_state; fail "fin")

def Ts.arg0 (s : Ts) : Ts := (s.args.head?).getD s
/-- The error of a node. -/
def nodeT (s : Ts) (below : Bool) : Int :=
  if (!shapeB s || ((!writtenB s.op && !zeroB s.ex) || (decide (s.op ≠ 6) && decide (s.name ≠ ⟨#[]⟩)))) = true then 1
  else if (decide (s.op = 6) && !nameB s.name) = true then 7
  else if writtenB s.op = true ∧ validE s.ex ≠ 0 then validE s.ex
  else if (decide (s.op = 6) && below) = true then 13
  else if s.op = 7 ∧ ((namesOf [2] s.ex).any fun n => inB n (tnm s.arg0)) = true then 13
  else 0
theorem nodeT_bd (s : Ts) (b : Bool) : 0 ≤ nodeT s b ∧ nodeT s b ≤ 13 := by
  have h : 0 ≤ validE s.ex ∧ validE s.ex ≤ 7 := by
    have := errE_bd s.ex
    unfold validE
    split <;> omega
  unfold nodeT
  repeat' split
  all_goals omega
theorem addName_len (ops : List Int) (l : List ByteArray) (o : Int) (s : ByteArray) : (addName ops l o s).length ≤ l.length + 1 := by
  unfold addName; split <;> simp
theorem names_len (ops : List Int) (e : Ex) : ∀ x : List ByteArray, (walkE (nextName ops) e x).1.length ≤ x.length + esize e := by
  induction e using Ex.ind with
  | h o n s l ih =>
    intro x
    have H : ∀ (r : List Ex), (∀ a, a ∈ r → a ∈ l) → ∀ x : List ByteArray, (walkL (nextName ops) r x).1.length ≤ x.length + esizes r := by
      intro r
      induction r with
      | nil => intro _ x; simp [walkL, esizes]
      | cons a r ihr =>
        intro hr x
        rw [walkL, if_pos (nameWalk_true _ a x)]
        have h1 := ih a (hr a (by simp)) x
        have h2 := ihr (fun y hy => hr y (by simp [hy])) (walkE (nextName ops) a x).1
        simp only [esizes]; omega
    rw [walkE, if_pos (show (nextName ops x (Ex.mk o n s l)).2 = true from rfl)]
    have h1 := H l (fun _ h => h) (nextName ops x (Ex.mk o n s l)).1
    have h2 : (nextName ops x (Ex.mk o n s l)).1.length ≤ x.length + 1 := addName_len ..
    simp only [esize]; omega
theorem names_le (e : Ex) : (namesOf [2] e).length ≤ esize e := by
  have := names_len [2] e []
  simpa [namesOf] using this
theorem tnode_fun (s : Ts) (below : Bool) (hs : tbig s ≤ 1000000) (σ : List (List V)) : Fun G 49 [vts s, .d (.lit (.bool below))] σ (RetV (.d (dint (nodeT s below))) σ) := by
  have hsz := tbig_eq s
  have hln := tbig_len s
  have hq : nodeT s below = nodeT s below := rfl
  conv at hq => rhs; unfold nodeT
  refine fun_code Tryz.func49 k49 (by simp only [vts_eq]; rfl) fun hb hw => ?_
  unfold c49
  simp -dsimp -implicitDefEqProofs only [aw, slots0, V.copy, V.lend, V.lend1, V.cells, V.boxable, over, bldV, boundV, rowsOf, plains, V.plain, Nat.reduceLeDiff, cond_true, cond_false, implies_true, eq_self, ne_eq, reduceIte, reduceCtorEq, Nat.reduceBEq, Nat.reduceLT, Nat.reduceEqDiff, Nat.reduceAdd, Nat.reduceSub, Nat.reduceMul, vts_eq]
  refine fun_ret (by simpa only [vts_eq] using shape_fun s (by omega) _) ?_
  have out : ∀ (n : Int) (l : List (List V)), nodeT s below = n → fin σ.length rs49 (RetV (.d (dint (nodeT s below))) σ) .ret [(4, .d (.lit (.int .i64 n)))] (σ ++ l) := fun n l h => by
    rw [h]; exact fin_ret hb rfl rfl List.take_left ⟨rfl, rfl⟩
  cases h1 : shapeB s with
  | false =>
    simp -dsimp -implicitDefEqProofs only [aw, slots0, V.copy, V.lend, V.lend1, V.cells, V.boxable, over, bldV, boundV, rowsOf, plains, V.plain, Nat.reduceLeDiff, cond_true, cond_false, implies_true, eq_self, ne_eq, reduceIte, reduceCtorEq, Nat.reduceBEq, Nat.reduceLT, Nat.reduceEqDiff, Nat.reduceAdd, Nat.reduceSub, Nat.reduceMul]
    exact out 1 _ (by rw [hq, h1]; rfl)
  | true =>
  have hv : ∀ σ, Fun G 69 [vex s.ex] σ (RetV (.d (dint (validE s.ex))) σ) := fun_valid s.ex (by omega) (by have := edepth_le s.ex; omega)
  by_cases o6 : s.op = 6
  · have w6 : writtenB s.op = true := by rw [o6]; rfl
    rw [h1, w6, if_neg (by simp [o6]), decide_eq_true o6] at hq
    simp -dsimp -implicitDefEqProofs only [aw, slots0, V.copy, V.lend, V.lend1, V.cells, V.boxable, over, bldV, boundV, rowsOf, plains, V.plain, Nat.reduceLeDiff, cond_true, cond_false, implies_true, eq_self, ne_eq, reduceIte, reduceCtorEq, Nat.reduceBEq, Nat.reduceLT, Nat.reduceEqDiff, Nat.reduceAdd, Nat.reduceSub, Nat.reduceMul, o6, Int.reduceEq, decide_true, decide_false]
    refine fun_ret (written_fun 6 _) ?_
    have w6' : writtenB 6 = true := rfl
    simp -dsimp -implicitDefEqProofs only [aw, slots0, V.copy, V.lend, V.lend1, V.cells, V.boxable, over, bldV, boundV, rowsOf, plains, V.plain, Nat.reduceLeDiff, cond_true, cond_false, implies_true, eq_self, ne_eq, reduceIte, reduceCtorEq, Nat.reduceBEq, Nat.reduceLT, Nat.reduceEqDiff, Nat.reduceAdd, Nat.reduceSub, Nat.reduceMul, w6', Int.reduceEq, decide_true, decide_false]
    refine fun_ret (fun_isname8 s.name _) ?_
    cases h2 : nameB s.name with
    | false =>
      rw [h2, if_pos (show (true && !false) = true from rfl)] at hq
      simp -dsimp -implicitDefEqProofs only [aw, slots0, V.copy, V.lend, V.lend1, V.cells, V.boxable, over, bldV, boundV, rowsOf, plains, V.plain, Nat.reduceLeDiff, cond_true, cond_false, implies_true, eq_self, ne_eq, reduceIte, reduceCtorEq, Nat.reduceBEq, Nat.reduceLT, Nat.reduceEqDiff, Nat.reduceAdd, Nat.reduceSub, Nat.reduceMul]
      exact out 7 _ hq
    | true =>
      rw [h2, if_neg (by simp)] at hq
      simp -dsimp -implicitDefEqProofs only [aw, slots0, V.copy, V.lend, V.lend1, V.cells, V.boxable, over, bldV, boundV, rowsOf, plains, V.plain, Nat.reduceLeDiff, cond_true, cond_false, implies_true, eq_self, ne_eq, reduceIte, reduceCtorEq, Nat.reduceBEq, Nat.reduceLT, Nat.reduceEqDiff, Nat.reduceAdd, Nat.reduceSub, Nat.reduceMul]
      refine fun_ret (written_fun 6 _) ?_
      simp -dsimp -implicitDefEqProofs only [aw, slots0, V.copy, V.lend, V.lend1, V.cells, V.boxable, over, bldV, boundV, rowsOf, plains, V.plain, Nat.reduceLeDiff, cond_true, cond_false, implies_true, eq_self, ne_eq, reduceIte, reduceCtorEq, Nat.reduceBEq, Nat.reduceLT, Nat.reduceEqDiff, Nat.reduceAdd, Nat.reduceSub, Nat.reduceMul, w6']
      refine fun_ret (by simpa only [vex_eq] using hv _) ?_
      by_cases h3 : validE s.ex = 0
      · rw [if_neg (by simp [h3])] at hq
        simp -dsimp -implicitDefEqProofs only [aw, slots0, V.copy, V.lend, V.lend1, V.cells, V.boxable, over, bldV, boundV, rowsOf, plains, V.plain, Nat.reduceLeDiff, cond_true, cond_false, implies_true, eq_self, ne_eq, reduceIte, reduceCtorEq, Nat.reduceBEq, Nat.reduceLT, Nat.reduceEqDiff, Nat.reduceAdd, Nat.reduceSub, Nat.reduceMul, h3, Int.reduceEq, decide_true, decide_false]
        cases below with
        | true =>
          simp -dsimp -implicitDefEqProofs only [aw, slots0, V.copy, V.lend, V.lend1, V.cells, V.boxable, over, bldV, boundV, rowsOf, plains, V.plain, Nat.reduceLeDiff, cond_true, cond_false, implies_true, eq_self, ne_eq, reduceIte, reduceCtorEq, Nat.reduceBEq, Nat.reduceLT, Nat.reduceEqDiff, Nat.reduceAdd, Nat.reduceSub, Nat.reduceMul]
          exact out 13 _ hq
        | false =>
          simp -dsimp -implicitDefEqProofs only [aw, slots0, V.copy, V.lend, V.lend1, V.cells, V.boxable, over, bldV, boundV, rowsOf, plains, V.plain, Nat.reduceLeDiff, cond_true, cond_false, implies_true, eq_self, ne_eq, reduceIte, reduceCtorEq, Nat.reduceBEq, Nat.reduceLT, Nat.reduceEqDiff, Nat.reduceAdd, Nat.reduceSub, Nat.reduceMul, Int.reduceEq, decide_false]
          exact out 0 _ (by rw [hq, if_neg (by simp), if_neg (by simp [o6])])
      · rw [if_pos ⟨rfl, h3⟩] at hq
        simp -dsimp -implicitDefEqProofs only [aw, slots0, V.copy, V.lend, V.lend1, V.cells, V.boxable, over, bldV, boundV, rowsOf, plains, V.plain, Nat.reduceLeDiff, cond_true, cond_false, implies_true, eq_self, ne_eq, reduceIte, reduceCtorEq, Nat.reduceBEq, Nat.reduceLT, Nat.reduceEqDiff, Nat.reduceAdd, Nat.reduceSub, Nat.reduceMul, decide_eq_false h3]
        exact out _ _ hq
  · have q6 := decide_eq_false o6
    have n6 : decide (s.op ≠ 6) = true := decide_eq_true o6
    by_cases hn : s.name = ⟨#[]⟩
    · have nn : decide (s.name ≠ ⟨#[]⟩) = false := decide_eq_false (fun h => h hn)
      have kn : decide (s.name = ⟨#[]⟩) = true := decide_eq_true hn
      rw [h1, n6, nn, q6] at hq
      by_cases o7 : s.op = 7
      · have w7 : writtenB s.op = true := by rw [o7]; rfl
        have q7 := decide_eq_true o7
        have hlen : s.args.length = 1 := by
          unfold shapeB at h1
          rw [if_neg (by omega), if_neg (by omega), if_neg (by omega), if_neg (by omega), if_pos (.inr o7), Bool.and_eq_true] at h1
          simpa using h1.1
        obtain ⟨a, ha⟩ := List.length_eq_one_iff.1 hlen
        have hba : tbig a ≤ 1000000 := by have := tbig_arg (s := s) (a := a) (by rw [ha]; simp); omega
        have ha0 : s.arg0 = a := by unfold Ts.arg0; rw [ha]; rfl
        rw [w7, if_neg (by simp), if_neg (by simp)] at hq
        simp -dsimp -implicitDefEqProofs only [aw, slots0, V.copy, V.lend, V.lend1, V.cells, V.boxable, over, bldV, boundV, rowsOf, plains, V.plain, Nat.reduceLeDiff, cond_true, cond_false, implies_true, eq_self, ne_eq, reduceIte, reduceCtorEq, Nat.reduceBEq, Nat.reduceLT, Nat.reduceEqDiff, Nat.reduceAdd, Nat.reduceSub, Nat.reduceMul, q6, n6]
        refine fun_ret (written_fun s.op _) ?_
        simp -dsimp -implicitDefEqProofs only [aw, slots0, V.copy, V.lend, V.lend1, V.cells, V.boxable, over, bldV, boundV, rowsOf, plains, V.plain, Nat.reduceLeDiff, cond_true, cond_false, implies_true, eq_self, ne_eq, reduceIte, reduceCtorEq, Nat.reduceBEq, Nat.reduceLT, Nat.reduceEqDiff, Nat.reduceAdd, Nat.reduceSub, Nat.reduceMul, w7, q6, kn]
        refine fun_ret (written_fun s.op _) ?_
        simp -dsimp -implicitDefEqProofs only [aw, slots0, V.copy, V.lend, V.lend1, V.cells, V.boxable, over, bldV, boundV, rowsOf, plains, V.plain, Nat.reduceLeDiff, cond_true, cond_false, implies_true, eq_self, ne_eq, reduceIte, reduceCtorEq, Nat.reduceBEq, Nat.reduceLT, Nat.reduceEqDiff, Nat.reduceAdd, Nat.reduceSub, Nat.reduceMul, w7]
        refine fun_ret (by simpa only [vex_eq] using hv _) ?_
        by_cases h3 : validE s.ex = 0
        · have hnm : (namesOf [2] s.ex).length ≤ 1000000 := by have := names_le s.ex; omega
          have hidx : iaV 9 (.d (.sl (s.args.map dts))) (V.d (D.lit (Value.int IntKind.i64 0))) = some (.row (dts a) 0) := by rw [ha]; simp [iaV, rowsV, dts_len]
          have htn : (tnm a).length ≤ 1000000 := by have := tnm_len a; have := tsz_le a; omega
          rw [if_neg (by simp [h3]), if_neg (by simp)] at hq
          simp -dsimp -implicitDefEqProofs only [aw, slots0, V.copy, V.lend, V.lend1, V.cells, V.boxable, over, bldV, boundV, rowsOf, plains, V.plain, Nat.reduceLeDiff, cond_true, cond_false, implies_true, eq_self, ne_eq, reduceIte, reduceCtorEq, Nat.reduceBEq, Nat.reduceLT, Nat.reduceEqDiff, Nat.reduceAdd, Nat.reduceSub, Nat.reduceMul, h3, Int.reduceEq, decide_true, decide_false, q6, q7, hidx, dts_eq a]
          refine fun_ret (by simpa only [vts_eq] using tnm_fun a hba _) ?_
          simp -dsimp -implicitDefEqProofs only [aw, slots0, V.copy, V.lend, V.lend1, V.cells, V.boxable, over, bldV, boundV, rowsOf, plains, V.plain, Nat.reduceLeDiff, cond_true, cond_false, implies_true, eq_self, ne_eq, reduceIte, reduceCtorEq, Nat.reduceBEq, Nat.reduceLT, Nat.reduceEqDiff, Nat.reduceAdd, Nat.reduceSub, Nat.reduceMul]
          refine fun_ret (by simpa only [vex_eq] using fun_names s.ex (by omega) _) ?_
          simp -dsimp -implicitDefEqProofs only [aw, slots0, V.copy, V.lend, V.lend1, V.cells, V.boxable, over, bldV, boundV, rowsOf, plains, V.plain, Nat.reduceLeDiff, cond_true, cond_false, implies_true, eq_self, ne_eq, reduceIte, reduceCtorEq, Nat.reduceBEq, Nat.reduceLT, Nat.reduceEqDiff, Nat.reduceAdd, Nat.reduceSub, Nat.reduceMul, dstrs]
          refine fun_ret (containsf_fun (namesOf [2] s.ex) (fun n => inB n (tnm a)) 72 _ hnm _ (by simp [V.unders, V.under]) (fun n hn' => nodec_fun (tnm a) htn n _ _ (by simp [dstrs]))) ?_
          rw [ha0] at hq
          cases h4 : ((namesOf [2] s.ex).any fun n => inB n (tnm a)) with
          | true =>
            simp -dsimp -implicitDefEqProofs only [aw, slots0, V.copy, V.lend, V.lend1, V.cells, V.boxable, over, bldV, boundV, rowsOf, plains, V.plain, Nat.reduceLeDiff, cond_true, cond_false, implies_true, eq_self, ne_eq, reduceIte, reduceCtorEq, Nat.reduceBEq, Nat.reduceLT, Nat.reduceEqDiff, Nat.reduceAdd, Nat.reduceSub, Nat.reduceMul]
            exact out 13 _ (by rw [hq, if_pos ⟨o7, h4⟩])
          | false =>
            simp -dsimp -implicitDefEqProofs only [aw, slots0, V.copy, V.lend, V.lend1, V.cells, V.boxable, over, bldV, boundV, rowsOf, plains, V.plain, Nat.reduceLeDiff, cond_true, cond_false, implies_true, eq_self, ne_eq, reduceIte, reduceCtorEq, Nat.reduceBEq, Nat.reduceLT, Nat.reduceEqDiff, Nat.reduceAdd, Nat.reduceSub, Nat.reduceMul]
            exact out 0 _ (by rw [hq, if_neg (by simp only [h4]; simp)])
        · rw [if_pos ⟨rfl, h3⟩] at hq
          simp -dsimp -implicitDefEqProofs only [aw, slots0, V.copy, V.lend, V.lend1, V.cells, V.boxable, over, bldV, boundV, rowsOf, plains, V.plain, Nat.reduceLeDiff, cond_true, cond_false, implies_true, eq_self, ne_eq, reduceIte, reduceCtorEq, Nat.reduceBEq, Nat.reduceLT, Nat.reduceEqDiff, Nat.reduceAdd, Nat.reduceSub, Nat.reduceMul, decide_eq_false h3]
          exact out _ _ hq
      · have q7 := decide_eq_false o7
        cases hw1 : writtenB s.op with
        | true =>
          rw [hw1, if_neg (by simp), if_neg (by simp)] at hq
          simp -dsimp -implicitDefEqProofs only [aw, slots0, V.copy, V.lend, V.lend1, V.cells, V.boxable, over, bldV, boundV, rowsOf, plains, V.plain, Nat.reduceLeDiff, cond_true, cond_false, implies_true, eq_self, ne_eq, reduceIte, reduceCtorEq, Nat.reduceBEq, Nat.reduceLT, Nat.reduceEqDiff, Nat.reduceAdd, Nat.reduceSub, Nat.reduceMul, q6, n6]
          refine fun_ret (written_fun s.op _) ?_
          simp -dsimp -implicitDefEqProofs only [aw, slots0, V.copy, V.lend, V.lend1, V.cells, V.boxable, over, bldV, boundV, rowsOf, plains, V.plain, Nat.reduceLeDiff, cond_true, cond_false, implies_true, eq_self, ne_eq, reduceIte, reduceCtorEq, Nat.reduceBEq, Nat.reduceLT, Nat.reduceEqDiff, Nat.reduceAdd, Nat.reduceSub, Nat.reduceMul, hw1, q6, kn]
          refine fun_ret (written_fun s.op _) ?_
          simp -dsimp -implicitDefEqProofs only [aw, slots0, V.copy, V.lend, V.lend1, V.cells, V.boxable, over, bldV, boundV, rowsOf, plains, V.plain, Nat.reduceLeDiff, cond_true, cond_false, implies_true, eq_self, ne_eq, reduceIte, reduceCtorEq, Nat.reduceBEq, Nat.reduceLT, Nat.reduceEqDiff, Nat.reduceAdd, Nat.reduceSub, Nat.reduceMul, hw1]
          refine fun_ret (by simpa only [vex_eq] using hv _) ?_
          by_cases h3 : validE s.ex = 0
          · rw [if_neg (by simp [h3]), if_neg (by simp), if_neg (by simp [o7])] at hq
            simp -dsimp -implicitDefEqProofs only [aw, slots0, V.copy, V.lend, V.lend1, V.cells, V.boxable, over, bldV, boundV, rowsOf, plains, V.plain, Nat.reduceLeDiff, cond_true, cond_false, implies_true, eq_self, ne_eq, reduceIte, reduceCtorEq, Nat.reduceBEq, Nat.reduceLT, Nat.reduceEqDiff, Nat.reduceAdd, Nat.reduceSub, Nat.reduceMul, h3, Int.reduceEq, decide_true, decide_false, q6, q7]
            exact out 0 _ hq
          · rw [if_pos ⟨rfl, h3⟩] at hq
            simp -dsimp -implicitDefEqProofs only [aw, slots0, V.copy, V.lend, V.lend1, V.cells, V.boxable, over, bldV, boundV, rowsOf, plains, V.plain, Nat.reduceLeDiff, cond_true, cond_false, implies_true, eq_self, ne_eq, reduceIte, reduceCtorEq, Nat.reduceBEq, Nat.reduceLT, Nat.reduceEqDiff, Nat.reduceAdd, Nat.reduceSub, Nat.reduceMul, decide_eq_false h3]
            exact out _ _ hq
        | false =>
          simp -dsimp -implicitDefEqProofs only [aw, slots0, V.copy, V.lend, V.lend1, V.cells, V.boxable, over, bldV, boundV, rowsOf, plains, V.plain, Nat.reduceLeDiff, cond_true, cond_false, implies_true, eq_self, ne_eq, reduceIte, reduceCtorEq, Nat.reduceBEq, Nat.reduceLT, Nat.reduceEqDiff, Nat.reduceAdd, Nat.reduceSub, Nat.reduceMul, q6, n6]
          refine fun_ret (written_fun s.op _) ?_
          simp -dsimp -implicitDefEqProofs only [aw, slots0, V.copy, V.lend, V.lend1, V.cells, V.boxable, over, bldV, boundV, rowsOf, plains, V.plain, Nat.reduceLeDiff, cond_true, cond_false, implies_true, eq_self, ne_eq, reduceIte, reduceCtorEq, Nat.reduceBEq, Nat.reduceLT, Nat.reduceEqDiff, Nat.reduceAdd, Nat.reduceSub, Nat.reduceMul, hw1, q6, kn]
          refine fun_ret (by simpa only [vex_eq] using zero_fun s.ex _) ?_
          cases hz : zeroB s.ex with
          | false =>
            rw [hw1, hz, if_pos (by rfl)] at hq
            simp -dsimp -implicitDefEqProofs only [aw, slots0, V.copy, V.lend, V.lend1, V.cells, V.boxable, over, bldV, boundV, rowsOf, plains, V.plain, Nat.reduceLeDiff, cond_true, cond_false, implies_true, eq_self, ne_eq, reduceIte, reduceCtorEq, Nat.reduceBEq, Nat.reduceLT, Nat.reduceEqDiff, Nat.reduceAdd, Nat.reduceSub, Nat.reduceMul]
            exact out 1 _ hq
          | true =>
            rw [hw1, hz, if_neg (by simp), if_neg (by simp), if_neg (by simp), if_neg (by simp), if_neg (by simp [o7])] at hq
            simp -dsimp -implicitDefEqProofs only [aw, slots0, V.copy, V.lend, V.lend1, V.cells, V.boxable, over, bldV, boundV, rowsOf, plains, V.plain, Nat.reduceLeDiff, cond_true, cond_false, implies_true, eq_self, ne_eq, reduceIte, reduceCtorEq, Nat.reduceBEq, Nat.reduceLT, Nat.reduceEqDiff, Nat.reduceAdd, Nat.reduceSub, Nat.reduceMul, q6, kn]
            refine fun_ret (written_fun s.op _) ?_
            simp -dsimp -implicitDefEqProofs only [aw, slots0, V.copy, V.lend, V.lend1, V.cells, V.boxable, over, bldV, boundV, rowsOf, plains, V.plain, Nat.reduceLeDiff, cond_true, cond_false, implies_true, eq_self, ne_eq, reduceIte, reduceCtorEq, Nat.reduceBEq, Nat.reduceLT, Nat.reduceEqDiff, Nat.reduceAdd, Nat.reduceSub, Nat.reduceMul, hw1, q6, q7]
            exact out 0 _ hq
    · have kn : decide (s.name = ⟨#[]⟩) = false := decide_eq_false hn
      have nn : decide (s.name ≠ ⟨#[]⟩) = true := decide_eq_true hn
      rw [h1, n6, nn, if_pos (by simp)] at hq
      simp -dsimp -implicitDefEqProofs only [aw, slots0, V.copy, V.lend, V.lend1, V.cells, V.boxable, over, bldV, boundV, rowsOf, plains, V.plain, Nat.reduceLeDiff, cond_true, cond_false, implies_true, eq_self, ne_eq, reduceIte, reduceCtorEq, Nat.reduceBEq, Nat.reduceLT, Nat.reduceEqDiff, Nat.reduceAdd, Nat.reduceSub, Nat.reduceMul, q6, n6]
      refine fun_ret (written_fun s.op _) ?_
      cases hw1 : writtenB s.op with
      | true =>
        simp -dsimp -implicitDefEqProofs only [aw, slots0, V.copy, V.lend, V.lend1, V.cells, V.boxable, over, bldV, boundV, rowsOf, plains, V.plain, Nat.reduceLeDiff, cond_true, cond_false, implies_true, eq_self, ne_eq, reduceIte, reduceCtorEq, Nat.reduceBEq, Nat.reduceLT, Nat.reduceEqDiff, Nat.reduceAdd, Nat.reduceSub, Nat.reduceMul, q6, kn]
        exact out 1 _ hq
      | false =>
        simp -dsimp -implicitDefEqProofs only [aw, slots0, V.copy, V.lend, V.lend1, V.cells, V.boxable, over, bldV, boundV, rowsOf, plains, V.plain, Nat.reduceLeDiff, cond_true, cond_false, implies_true, eq_self, ne_eq, reduceIte, reduceCtorEq, Nat.reduceBEq, Nat.reduceLT, Nat.reduceEqDiff, Nat.reduceAdd, Nat.reduceSub, Nat.reduceMul]
        refine fun_ret (by simpa only [vex_eq] using zero_fun s.ex _) ?_
        cases hz : zeroB s.ex with
        | false =>
          simp -dsimp -implicitDefEqProofs only [aw, slots0, V.copy, V.lend, V.lend1, V.cells, V.boxable, over, bldV, boundV, rowsOf, plains, V.plain, Nat.reduceLeDiff, cond_true, cond_false, implies_true, eq_self, ne_eq, reduceIte, reduceCtorEq, Nat.reduceBEq, Nat.reduceLT, Nat.reduceEqDiff, Nat.reduceAdd, Nat.reduceSub, Nat.reduceMul]
          exact out 1 _ hq
        | true =>
          simp -dsimp -implicitDefEqProofs only [aw, slots0, V.copy, V.lend, V.lend1, V.cells, V.boxable, over, bldV, boundV, rowsOf, plains, V.plain, Nat.reduceLeDiff, cond_true, cond_false, implies_true, eq_self, ne_eq, reduceIte, reduceCtorEq, Nat.reduceBEq, Nat.reduceLT, Nat.reduceEqDiff, Nat.reduceAdd, Nat.reduceSub, Nat.reduceMul, q6, kn]
          exact out 1 _ hq
end Go.Proofs.YtbhippphcmkjnaaGreatDoor
