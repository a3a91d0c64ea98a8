/-
  The parser of expressions: primary.
-/
import Derived.Test.YteopfpebdalcoaaGreatDoorPmR
set_option linter.unusedVariables false
set_option linter.unusedSimpArgs false
set_option linter.unusedSectionVars false
namespace Go.Proofs.YteopfpebdalcoaaGreatDoor
open Go.RowKit
theorem next_num (ts : List Tok) (a : Nat) : ∃ (kd nm : Int) (tx : ByteArray) (ln : Int) (ok : Bool), nextV ts a = .tup [.agg [.d (dint kd), .d (dint nm), .d (dstr tx), .d (dint ln)], vbool ok] ∧ ((ok = true ∧ kd = 3 ∧ ∃ n, numP (ts.drop a) = some (n, ts.drop (a + 1))) ∨ (numP (ts.drop a) = none ∧ (ok = false ∨ ok = true ∧ kd ≠ 3))) := by
  unfold nextV
  by_cases hla : a < ts.length
  · rw [List.getElem?_eq_getElem hla, numP_lt hla]
    simp only
    by_cases hv : vTok ts[a] = true
    · rw [if_pos hv]
      refine ⟨_, _, _, _, _, rfl, ?_⟩
      by_cases hk : ts[a].kind = 3
      · exact .inl ⟨rfl, hk, _, if_pos ⟨hv, hk⟩⟩
      · exact .inr ⟨if_neg (fun h => hk h.2), .inr ⟨rfl, hk⟩⟩
    · rw [if_neg hv]
      exact ⟨_, _, _, _, _, rfl, .inr ⟨if_neg (fun h => hv h.1), .inl rfl⟩⟩
  · rw [List.getElem?_eq_none (by omega), List.drop_eq_nil_of_le (by omega)]
    exact ⟨_, _, _, _, _, rfl, .inr ⟨rfl, .inl rfl⟩⟩
theorem nameP_size {ts : List Tok} {a : Nat} (H : TsOK ts) {s : ByteArray} {r : List Tok} (h : nameP (ts.drop a) = some (s, r)) : s.size ≤ 1000 := by
  by_cases hla : a < ts.length
  · rw [nameP_lt hla] at h
    split at h
    · cases h; exact H.size _ (List.getElem_mem hla)
    · cases h
  · rw [List.drop_eq_nil_of_le (by omega)] at h; cases h
theorem numP_dec {ts : List Tok} {a : Nat} (H : TsOK ts) {n : Int} {r : List Tok} (h : numP (ts.drop a) = some (n, r)) (hn : ¬ 65535 < n) : 0 ≤ n ∧ (Lib.decDigits n.toNat).length ≤ 5 := by
  by_cases hla : a < ts.length
  · rw [numP_lt hla] at h
    split at h
    · rename_i hv
      cases h
      have := hv.1
      unfold vTok at this
      rw [if_pos hv.2] at this
      simp only [Bool.and_eq_true, decide_eq_true_eq] at this
      exact ⟨this.1.1, dec_five _ (by omega)⟩
    · cases h
  · rw [List.drop_eq_nil_of_le (by omega)] at h; cases h
theorem elem_bs (x : Bs) (n : Int) : elemName (bs x) n = bs (x ++ 91 :: (Lib.decDigits n.toNat ++ [93])) := by
  unfold elemName
  rw [show mark1 91 = bs [91] from rfl, show mark1 93 = bs [93] from rfl, show decS n = bs (Lib.decDigits n.toNat) from rfl, bs_append, bs_append, bs_append]
  simp
set_option maxHeartbeats 4000000 in
theorem primary_fun (ts : List Tok) (a i : Nat) (H : TsOK ts) (ha : a ≤ ts.length)
    (hW : ∀ b, a < b → b ≤ ts.length → ∀ σ : List (List V), σ[i]? = some (pb ts b) → Fun G 48 [.ptr i 0] σ (PQ ts i σ (par .W (ts.drop b))))
    (σ : List (List V)) (hi : σ[i]? = some (pb ts a)) : Fun G 152 [.ptr i 0] σ (PQ ts i σ (par .P (ts.drop a))) := by
  refine fun_code Tryz.func152 k152 rfl fun hb hw => ?_
  have S := St.init hi hb
  have hpar : par .P (ts.drop a) = primP par (ts.drop a) := par_eq .P (ts.drop a)
  unfold primP at hpar
  rw [acc_sees] at hpar
  delta c152 oM oV kI kS kT kF
  simp -dsimp -implicitDefEqProofs only [aw, slots0, V.copy, V.lend, eq_self, reduceIte, reduceCtorEq, Nat.reduceBEq, Nat.reduceLT, Nat.reduceEqDiff]
  refine c_accept H (m := mark1 40) S ha (fun hs ha1 σ1 S1 hl1 => ?_) (fun hs => ?_)
  · rw [hs, if_pos rfl] at hpar
    simp only at hpar
    rw [← hl1]
    simp -dsimp -implicitDefEqProofs only [aw, V.copy, V.lend, eq_self, reduceIte, reduceCtorEq, Nat.reduceBEq, Nat.reduceLT, Nat.reduceEqDiff]
    refine c_par H S1 ha1 (hW _ (by omega) ha1 _ (box_old S1.at_ _)) (fun e a2 hx h1 h2 h3 σ2 S2 hl2 => ?_) (fun c r b hx σ2 S2 hl2 => ?_)
    · rw [hx, PR.bind, acc_sees] at hpar
      rw [← hl2]
      simp -dsimp -implicitDefEqProofs only [aw, V.copy, V.lend, V.cells, V.boxable, over, Nat.reduceLeDiff, eq_self, reduceIte, reduceCtorEq, Nat.reduceBEq, Nat.reduceLT, Nat.reduceEqDiff, Nat.reduceAdd, vex_eq]
      refine c_expect H (m := mark1 41) S2 h2 (fun hs3 ha3 σ3 S3 hl3 => ?_) (fun hs3 => ?_)
      · rw [hs3, if_pos rfl] at hpar
        rw [← hl3]
        simp -dsimp -implicitDefEqProofs only [aw, V.copy, V.lend, V.cells, V.boxable, over, Nat.reduceLeDiff, eq_self, reduceIte, reduceCtorEq, Nat.reduceBEq, Nat.reduceLT, Nat.reduceEqDiff, Nat.reduceAdd]
        exact pq_ret S3 ha3 hpar (by rw [vex_eq]; simp [rs152, resV, res1, aw, V.copy, V.lend, V.lend1, eq_self, reduceIte, Nat.reduceAdd])
      · rw [hs3, if_neg (by decide)] at hpar
        simp -dsimp -implicitDefEqProofs only [aw, V.copy, V.lend, eq_self, reduceIte, reduceCtorEq, Nat.reduceBEq, Nat.reduceLT, Nat.reduceEqDiff]
        exact pq_fail S2 h2 hpar
    · rw [hx, PR.bind] at hpar
      rw [← hl2]
      simp -dsimp -implicitDefEqProofs only [aw, V.copy, V.lend, eq_self, reduceIte, Nat.reduceBEq]
      exact pq_pan S2 hpar rfl
  rw [hs, if_neg (by decide)] at hpar
  simp only at hpar
  simp -dsimp -implicitDefEqProofs only [aw, V.copy, V.lend, eq_self, reduceIte, reduceCtorEq, Nat.reduceBEq, Nat.reduceLT, Nat.reduceEqDiff]
  refine fun_ret (next_fun ts a i H.size ha _ (box_old hi _)) ?_
  obtain ⟨kd, nm, tx, ln, ok, hnv, hcase⟩ := next_num ts a
  rw [hnv]
  rcases hcase with ⟨rfl, rfl, n, hnum⟩ | ⟨hnum, hok⟩
  · rw [hnum] at hpar
    simp only at hpar
    simp -dsimp -implicitDefEqProofs only [aw, V.copy, V.lend, V.cells, V.boxable, over, Nat.reduceLeDiff, cond_true, eq_self, reduceIte, reduceCtorEq, Nat.reduceBEq, Nat.reduceLT, Nat.reduceEqDiff, Nat.reduceAdd, decide_true]
    refine c_num H S ha (fun n' hn hle ha1 σ1 S1 hl1 => ?_) (fun n' hn hbig => ?_) (fun hn => by rw [hnum] at hn; cases hn)
    · rw [hnum] at hn
      cases hn
      rw [if_neg hle] at hpar
      rw [← hl1]
      simp -dsimp -implicitDefEqProofs only [aw, V.copy, V.lend, V.cells, V.boxable, over, bldV, Nat.reduceLeDiff, eq_self, reduceIte, reduceCtorEq, Nat.reduceBEq, Nat.reduceLT, Nat.reduceEqDiff, Nat.reduceAdd]
      exact pq_ret S1 ha1 hpar (by rw [vex_eq]; simp [rs152, resV, res1, mk_op, mk_num, mk_name, mk_args, aw, V.copy, V.lend, V.lend1, eq_self, reduceIte, Nat.reduceAdd])
    · rw [hnum] at hn
      cases hn
      rw [if_pos hbig] at hpar
      simp -dsimp -implicitDefEqProofs only [aw, V.copy, V.lend, eq_self, reduceIte, Nat.reduceBEq]
      exact pq_pan S hpar (len_drop ts a ha).symm
  rw [hnum] at hpar
  simp only at hpar
  rcases hok with rfl | ⟨rfl, hk⟩
  case' inl => simp -dsimp -implicitDefEqProofs only [aw, V.copy, V.lend, V.cells, V.boxable, over, Nat.reduceLeDiff, eq_self, reduceIte, reduceCtorEq, Nat.reduceBEq, Nat.reduceLT, Nat.reduceEqDiff, Nat.reduceAdd]
  case' inr => simp -dsimp -implicitDefEqProofs only [aw, V.copy, V.lend, V.cells, V.boxable, over, Nat.reduceLeDiff, cond_true, eq_self, reduceIte, reduceCtorEq, Nat.reduceBEq, Nat.reduceLT, Nat.reduceEqDiff, Nat.reduceAdd, decide_eq_false hk]
  all_goals
    refine c_name H S ha (fun s hs1 ha1 σ1 S1 hl1 => ?_) (fun hs1 => ?_)
    case refine_2 =>
      rw [hs1] at hpar
      simp -dsimp -implicitDefEqProofs only [aw, V.copy, eq_self, reduceIte, reduceCtorEq, Nat.reduceBEq, Nat.reduceLT, Nat.reduceEqDiff]
      exact pq_fail S ha hpar
    rw [hs1] at hpar
    simp only at hpar
    rw [← hl1]
    by_cases hsum : s = sumW
    · have hd : decide (s = (⟨#[115, 117, 109]⟩ : ByteArray)) = true := decide_eq_true hsum
      have hones : ¬ s = onesW := by rw [hsum]; decide
      have hd2 : decide (s = (⟨#[111, 110, 101, 115]⟩ : ByteArray)) = false := decide_eq_false hones
      rw [if_pos hsum, acc_sees] at hpar
      simp -dsimp -implicitDefEqProofs only [aw, V.copy, V.lend, eq_self, reduceIte, reduceCtorEq, Nat.reduceBEq, Nat.reduceLT, Nat.reduceEqDiff, hd]
      refine c_accept H (m := mark1 40) S1 ha1 (fun h40 ha2 σ2 S2 hl2 => ?_) (fun h40 => ?_)
      · rw [h40, if_pos rfl] at hpar
        simp only at hpar
        rw [← hl2]
        simp -dsimp -implicitDefEqProofs only [aw, V.copy, V.lend, V.cells, over, bldV, Nat.reduceLeDiff, cond_true, eq_self, reduceIte, reduceCtorEq, Nat.reduceBEq, Nat.reduceLT, Nat.reduceEqDiff, Nat.reduceAdd]
        refine c_name H S2 ha2 (fun s2 hs2 ha3 σ3 S3 hl3 => ?_) (fun hs2 => ?_)
        · rw [hs2] at hpar
          simp only [acc_sees] at hpar
          rw [← hl3]
          simp -dsimp -implicitDefEqProofs only [aw, V.copy, V.lend, V.cells, over, bldV, Nat.reduceLeDiff, eq_self, reduceIte, reduceCtorEq, Nat.reduceBEq, Nat.reduceLT, Nat.reduceEqDiff, Nat.reduceAdd]
          refine c_expect H (m := mark1 41) S3 ha3 (fun hs3 ha4 σ4 S4 hl4 => ?_) (fun hs3 => ?_)
          · rw [hs3, if_pos rfl] at hpar
            rw [← hl4]
            simp -dsimp -implicitDefEqProofs only [aw, V.copy, V.cells, V.boxable, over, bldV, Nat.reduceLeDiff, eq_self, reduceIte, reduceCtorEq, Nat.reduceBEq, Nat.reduceLT, Nat.reduceEqDiff, Nat.reduceAdd]
            exact pq_ret S4 ha4 hpar (by rw [vex_eq]; simp [rs152, resV, res1, mk_op, mk_num, mk_name, mk_args, aw, V.copy, V.lend, V.lend1, eq_self, reduceIte, Nat.reduceAdd])
          · rw [hs3, if_neg (by decide)] at hpar
            simp -dsimp -implicitDefEqProofs only [aw, V.copy, V.cells, over, bldV, Nat.reduceLeDiff, eq_self, reduceIte, reduceCtorEq, Nat.reduceBEq, Nat.reduceLT, Nat.reduceEqDiff, Nat.reduceAdd]
            exact pq_fail S3 ha3 hpar
        · rw [hs2] at hpar
          simp -dsimp -implicitDefEqProofs only [aw, V.copy, V.lend, V.cells, over, bldV, Nat.reduceLeDiff, eq_self, reduceIte, Nat.reduceBEq, Nat.reduceAdd]
          exact pq_fail S2 ha2 hpar
      rw [h40, if_neg (by decide), if_neg hones] at hpar
      simp only [acc_sees] at hpar
      simp -dsimp -implicitDefEqProofs only [aw, V.copy, V.lend, V.cells, over, bldV, Nat.reduceLeDiff, cond_true, eq_self, reduceIte, reduceCtorEq, Nat.reduceBEq, Nat.reduceLT, Nat.reduceEqDiff, Nat.reduceAdd, hd2]
      refine c_accept H (m := mark1 91) S1 ha1 (fun h91 ha2 σ2 S2 hl2 => ?_) (fun h91 => ?_)
      · rw [h91, if_pos rfl] at hpar
        simp only at hpar
        rw [← hl2]
        simp -dsimp -implicitDefEqProofs only [aw, V.copy, V.lend, V.cells, over, bldV, Nat.reduceLeDiff, eq_self, reduceIte, reduceCtorEq, Nat.reduceBEq, Nat.reduceLT, Nat.reduceEqDiff, Nat.reduceAdd]
        refine c_par H S2 ha2 (hW _ (by omega) ha2 _ (box_old S2.at_ _)) (fun e a3 hx h1 h2 h3 σ3 S3 hl3 => ?_) (fun c r b hx σ3 S3 hl3 => ?_)
        · rw [hx, PR.bind, acc_sees] at hpar
          rw [← hl3]
          simp -dsimp -implicitDefEqProofs only [aw, V.copy, V.lend, V.cells, V.boxable, over, bldV, Nat.reduceLeDiff, eq_self, reduceIte, reduceCtorEq, Nat.reduceBEq, Nat.reduceLT, Nat.reduceEqDiff, Nat.reduceAdd, vex_eq]
          refine c_expect H (m := mark1 93) S3 h2 (fun hs3 ha4 σ4 S4 hl4 => ?_) (fun hs3 => ?_)
          · rw [hs3, if_pos rfl] at hpar
            rw [← hl4]
            simp -dsimp -implicitDefEqProofs only [aw, V.copy, V.cells, V.boxable, over, bldV, rowsOf, plains, V.plain, Nat.reduceLeDiff, eq_self, reduceIte, reduceCtorEq, Nat.reduceBEq, Nat.reduceLT, Nat.reduceEqDiff, Nat.reduceAdd]
            exact pq_ret S4 ha4 hpar (by rw [vex_eq]; simp [rs152, resV, res1, mk_op, mk_num, mk_name, mk_args, dex_eq, aw, V.copy, V.lend, V.lend1, eq_self, reduceIte, Nat.reduceAdd])
          · rw [hs3, if_neg (by decide)] at hpar
            simp -dsimp -implicitDefEqProofs only [aw, V.copy, V.cells, over, bldV, Nat.reduceLeDiff, eq_self, reduceIte, reduceCtorEq, Nat.reduceBEq, Nat.reduceLT, Nat.reduceEqDiff, Nat.reduceAdd]
            exact pq_fail S3 h2 hpar
        · rw [hx, PR.bind] at hpar
          rw [← hl3]
          simp -dsimp -implicitDefEqProofs only [aw, V.copy, V.lend, V.cells, over, bldV, Nat.reduceLeDiff, eq_self, reduceIte, Nat.reduceBEq, Nat.reduceAdd]
          exact pq_pan S3 hpar rfl
      rw [h91, if_neg (by decide)] at hpar
      simp only at hpar
      simp -dsimp -implicitDefEqProofs only [aw, V.copy, V.lend, V.cells, over, bldV, Nat.reduceLeDiff, eq_self, reduceIte, reduceCtorEq, Nat.reduceBEq, Nat.reduceLT, Nat.reduceEqDiff, Nat.reduceAdd]
      refine c_accept H (m := mark1 64) S1 ha1 (fun h64 ha2 σ2 S2 hl2 => ?_) (fun h64 => ?_)
      · rw [h64, if_pos rfl] at hpar
        simp only at hpar
        rw [← hl2]
        have hsz := nameP_size H hs1
        obtain ⟨x, rfl⟩ : ∃ x, s = bs x := ⟨_, (bs_self s).symm⟩
        rw [bs_size] at hsz
        have a1 : binV .add (V.d (dstr (bs x))) (V.d (dstr ⟨#[91]⟩)) = some (V.d (dstr (bs (x ++ [91])))) := add_bs x [91] (by simp; omega)
        simp -dsimp -implicitDefEqProofs only [aw, V.copy, V.lend, V.cells, over, bldV, Nat.reduceLeDiff, eq_self, reduceIte, reduceCtorEq, Nat.reduceBEq, Nat.reduceLT, Nat.reduceEqDiff, Nat.reduceAdd, a1]
        refine c_num H S2 ha2 (fun n hn hle ha3 σ3 S3 hl3 => ?_) (fun n hn hbig => ?_) (fun hn => ?_)
        · obtain ⟨h0, h5⟩ := numP_dec H hn hle
          have a2 : binV .add (V.d (dstr (bs (x ++ [91])))) (V.d (dstr (bs (Lib.decDigits n.toNat)))) = some (V.d (dstr (bs (x ++ 91 :: Lib.decDigits n.toNat)))) := by
            rw [show x ++ 91 :: Lib.decDigits n.toNat = (x ++ [91]) ++ Lib.decDigits n.toNat by simp]
            exact add_bs (x ++ [91]) _ (by simp; omega)
          have a3 : binV .add (V.d (dstr (bs (x ++ 91 :: Lib.decDigits n.toNat)))) (V.d (dstr ⟨#[93]⟩)) = some (V.d (dstr (bs (x ++ 91 :: (Lib.decDigits n.toNat ++ [93]))))) := by
            rw [show x ++ 91 :: (Lib.decDigits n.toNat ++ [93]) = (x ++ 91 :: Lib.decDigits n.toNat) ++ [93] by simp]
            exact add_bs (x ++ 91 :: Lib.decDigits n.toNat) [93] (by simp; omega)
          rw [hn] at hpar
          simp only at hpar
          rw [if_neg hle, elem_bs] at hpar
          rw [← hl3]
          simp -dsimp -implicitDefEqProofs only [aw, V.lend, eq_self, reduceIte, reduceCtorEq, Nat.reduceLT, Nat.reduceEqDiff]
          refine fun_ret (numFormat_fun n h0 (by omega) _) ?_
          simp -dsimp -implicitDefEqProofs only [aw, V.copy, V.cells, V.boxable, over, bldV, Nat.reduceLeDiff, eq_self, reduceIte, reduceCtorEq, Nat.reduceBEq, Nat.reduceLT, Nat.reduceEqDiff, Nat.reduceAdd, a2, a3]
          exact pq_ret S3 ha3 hpar (by rw [vex_eq]; simp [rs152, resV, res1, mk_op, mk_num, mk_name, mk_args, aw, V.copy, V.lend, V.lend1, eq_self, reduceIte, Nat.reduceAdd])
        · rw [hn] at hpar
          simp only at hpar
          rw [if_pos hbig] at hpar
          simp -dsimp -implicitDefEqProofs only [aw, V.copy, V.cells, over, bldV, Nat.reduceLeDiff, eq_self, reduceIte, Nat.reduceBEq, Nat.reduceAdd]
          exact pq_pan S2 hpar (len_drop ts _ ha2).symm
        · rw [hn] at hpar
          simp -dsimp -implicitDefEqProofs only [aw, V.copy, V.cells, over, bldV, Nat.reduceLeDiff, eq_self, reduceIte, Nat.reduceBEq, Nat.reduceAdd]
          exact pq_fail S2 ha2 hpar
      rw [h64, if_neg (by decide)] at hpar
      simp only at hpar
      simp -dsimp -implicitDefEqProofs only [aw, V.copy, V.cells, V.boxable, over, bldV, Nat.reduceLeDiff, eq_self, reduceIte, reduceCtorEq, Nat.reduceBEq, Nat.reduceLT, Nat.reduceEqDiff, Nat.reduceAdd]
      exact pq_ret S1 ha1 hpar (by rw [vex_eq]; simp [rs152, resV, res1, mk_op, mk_num, mk_name, mk_args, aw, V.copy, V.lend, V.lend1, eq_self, reduceIte, Nat.reduceAdd])
    have hd : decide (s = (⟨#[115, 117, 109]⟩ : ByteArray)) = false := decide_eq_false hsum
    rw [if_neg hsum] at hpar
    simp only at hpar
    by_cases hones : s = onesW
    · have hd2 : decide (s = (⟨#[111, 110, 101, 115]⟩ : ByteArray)) = true := decide_eq_true hones
      rw [if_pos hones, acc_sees] at hpar
      simp -dsimp -implicitDefEqProofs only [aw, V.copy, V.lend, V.cells, over, bldV, Nat.reduceLeDiff, eq_self, reduceIte, reduceCtorEq, Nat.reduceBEq, Nat.reduceLT, Nat.reduceEqDiff, Nat.reduceAdd, hd, hd2]
      refine c_accept H (m := mark1 40) S1 ha1 (fun h40 ha2 σ2 S2 hl2 => ?_) (fun h40 => ?_)
      · rw [h40, if_pos rfl] at hpar
        simp only at hpar
        rw [← hl2]
        simp -dsimp -implicitDefEqProofs only [aw, V.copy, V.lend, V.cells, over, bldV, Nat.reduceLeDiff, cond_true, eq_self, reduceIte, reduceCtorEq, Nat.reduceBEq, Nat.reduceLT, Nat.reduceEqDiff, Nat.reduceAdd]
        refine c_par H S2 ha2 (hW _ (by omega) ha2 _ (box_old S2.at_ _)) (fun e a3 hx h1 h2 h3 σ3 S3 hl3 => ?_) (fun c r b hx σ3 S3 hl3 => ?_)
        · rw [hx, PR.bind, acc_sees] at hpar
          rw [← hl3]
          simp -dsimp -implicitDefEqProofs only [aw, V.copy, V.lend, V.cells, V.boxable, over, bldV, Nat.reduceLeDiff, eq_self, reduceIte, reduceCtorEq, Nat.reduceBEq, Nat.reduceLT, Nat.reduceEqDiff, Nat.reduceAdd, vex_eq]
          refine c_expect H (m := mark1 41) S3 h2 (fun hs3 ha4 σ4 S4 hl4 => ?_) (fun hs3 => ?_)
          · rw [hs3, if_pos rfl] at hpar
            rw [← hl4]
            have hNd := node_fun 25 [e]
            simp -dsimp -implicitDefEqProofs only [aw, V.copy, V.lend, V.cells, over, bldV, rowsOf, plains, V.plain, Nat.reduceLeDiff, eq_self, reduceIte, reduceCtorEq, Nat.reduceBEq, Nat.reduceLT, Nat.reduceEqDiff, Nat.reduceAdd]
            refine fun_ret (by simpa only [List.map_cons, List.map_nil, dex_eq] using hNd _) ?_
            simp -dsimp -implicitDefEqProofs only [aw, V.copy, V.cells, V.boxable, over, bldV, Nat.reduceLeDiff, eq_self, reduceIte, Nat.reduceBEq, Nat.reduceLT, Nat.reduceEqDiff, Nat.reduceAdd, vex_eq, nodeE, mk_op, mk_num, mk_name, mk_args]
            exact pq_ret S4 ha4 hpar (by rw [vex_eq]; simp [rs152, resV, res1, nodeE, mk_op, mk_num, mk_name, mk_args, dex_eq, aw, V.copy, V.lend, V.lend1, eq_self, reduceIte, Nat.reduceAdd])
          · rw [hs3, if_neg (by decide)] at hpar
            simp -dsimp -implicitDefEqProofs only [aw, V.copy, V.cells, over, bldV, Nat.reduceLeDiff, eq_self, reduceIte, reduceCtorEq, Nat.reduceBEq, Nat.reduceLT, Nat.reduceEqDiff, Nat.reduceAdd]
            exact pq_fail S3 h2 hpar
        · rw [hx, PR.bind] at hpar
          rw [← hl3]
          simp -dsimp -implicitDefEqProofs only [aw, V.copy, V.lend, V.cells, over, bldV, Nat.reduceLeDiff, eq_self, reduceIte, Nat.reduceBEq, Nat.reduceAdd]
          exact pq_pan S3 hpar rfl
      rw [h40, if_neg (by decide)] at hpar
      simp only [acc_sees] at hpar
      simp -dsimp -implicitDefEqProofs only [aw, V.copy, V.lend, V.cells, over, bldV, Nat.reduceLeDiff, cond_true, eq_self, reduceIte, reduceCtorEq, Nat.reduceBEq, Nat.reduceLT, Nat.reduceEqDiff, Nat.reduceAdd]
      refine c_accept H (m := mark1 91) S1 ha1 (fun h91 ha2 σ2 S2 hl2 => ?_) (fun h91 => ?_)
      · rw [h91, if_pos rfl] at hpar
        simp only at hpar
        rw [← hl2]
        simp -dsimp -implicitDefEqProofs only [aw, V.copy, V.lend, V.cells, over, bldV, Nat.reduceLeDiff, eq_self, reduceIte, reduceCtorEq, Nat.reduceBEq, Nat.reduceLT, Nat.reduceEqDiff, Nat.reduceAdd]
        refine c_par H S2 ha2 (hW _ (by omega) ha2 _ (box_old S2.at_ _)) (fun e a3 hx h1 h2 h3 σ3 S3 hl3 => ?_) (fun c r b hx σ3 S3 hl3 => ?_)
        · rw [hx, PR.bind, acc_sees] at hpar
          rw [← hl3]
          simp -dsimp -implicitDefEqProofs only [aw, V.copy, V.lend, V.cells, V.boxable, over, bldV, Nat.reduceLeDiff, eq_self, reduceIte, reduceCtorEq, Nat.reduceBEq, Nat.reduceLT, Nat.reduceEqDiff, Nat.reduceAdd, vex_eq]
          refine c_expect H (m := mark1 93) S3 h2 (fun hs3 ha4 σ4 S4 hl4 => ?_) (fun hs3 => ?_)
          · rw [hs3, if_pos rfl] at hpar
            rw [← hl4]
            simp -dsimp -implicitDefEqProofs only [aw, V.copy, V.cells, V.boxable, over, bldV, rowsOf, plains, V.plain, Nat.reduceLeDiff, eq_self, reduceIte, reduceCtorEq, Nat.reduceBEq, Nat.reduceLT, Nat.reduceEqDiff, Nat.reduceAdd]
            exact pq_ret S4 ha4 hpar (by rw [vex_eq]; simp [rs152, resV, res1, mk_op, mk_num, mk_name, mk_args, dex_eq, aw, V.copy, V.lend, V.lend1, eq_self, reduceIte, Nat.reduceAdd])
          · rw [hs3, if_neg (by decide)] at hpar
            simp -dsimp -implicitDefEqProofs only [aw, V.copy, V.cells, over, bldV, Nat.reduceLeDiff, eq_self, reduceIte, reduceCtorEq, Nat.reduceBEq, Nat.reduceLT, Nat.reduceEqDiff, Nat.reduceAdd]
            exact pq_fail S3 h2 hpar
        · rw [hx, PR.bind] at hpar
          rw [← hl3]
          simp -dsimp -implicitDefEqProofs only [aw, V.copy, V.lend, V.cells, over, bldV, Nat.reduceLeDiff, eq_self, reduceIte, Nat.reduceBEq, Nat.reduceAdd]
          exact pq_pan S3 hpar rfl
      rw [h91, if_neg (by decide)] at hpar
      simp only at hpar
      simp -dsimp -implicitDefEqProofs only [aw, V.copy, V.lend, V.cells, over, bldV, Nat.reduceLeDiff, eq_self, reduceIte, reduceCtorEq, Nat.reduceBEq, Nat.reduceLT, Nat.reduceEqDiff, Nat.reduceAdd]
      refine c_accept H (m := mark1 64) S1 ha1 (fun h64 ha2 σ2 S2 hl2 => ?_) (fun h64 => ?_)
      · rw [h64, if_pos rfl] at hpar
        simp only at hpar
        rw [← hl2]
        have hsz := nameP_size H hs1
        obtain ⟨x, rfl⟩ : ∃ x, s = bs x := ⟨_, (bs_self s).symm⟩
        rw [bs_size] at hsz
        have a1 : binV .add (V.d (dstr (bs x))) (V.d (dstr ⟨#[91]⟩)) = some (V.d (dstr (bs (x ++ [91])))) := add_bs x [91] (by simp; omega)
        simp -dsimp -implicitDefEqProofs only [aw, V.copy, V.lend, V.cells, over, bldV, Nat.reduceLeDiff, eq_self, reduceIte, reduceCtorEq, Nat.reduceBEq, Nat.reduceLT, Nat.reduceEqDiff, Nat.reduceAdd, a1]
        refine c_num H S2 ha2 (fun n hn hle ha3 σ3 S3 hl3 => ?_) (fun n hn hbig => ?_) (fun hn => ?_)
        · obtain ⟨h0, h5⟩ := numP_dec H hn hle
          have a2 : binV .add (V.d (dstr (bs (x ++ [91])))) (V.d (dstr (bs (Lib.decDigits n.toNat)))) = some (V.d (dstr (bs (x ++ 91 :: Lib.decDigits n.toNat)))) := by
            rw [show x ++ 91 :: Lib.decDigits n.toNat = (x ++ [91]) ++ Lib.decDigits n.toNat by simp]
            exact add_bs (x ++ [91]) _ (by simp; omega)
          have a3 : binV .add (V.d (dstr (bs (x ++ 91 :: Lib.decDigits n.toNat)))) (V.d (dstr ⟨#[93]⟩)) = some (V.d (dstr (bs (x ++ 91 :: (Lib.decDigits n.toNat ++ [93]))))) := by
            rw [show x ++ 91 :: (Lib.decDigits n.toNat ++ [93]) = (x ++ 91 :: Lib.decDigits n.toNat) ++ [93] by simp]
            exact add_bs (x ++ 91 :: Lib.decDigits n.toNat) [93] (by simp; omega)
          rw [hn] at hpar
          simp only at hpar
          rw [if_neg hle, elem_bs] at hpar
          rw [← hl3]
          simp -dsimp -implicitDefEqProofs only [aw, V.lend, eq_self, reduceIte, reduceCtorEq, Nat.reduceLT, Nat.reduceEqDiff]
          refine fun_ret (numFormat_fun n h0 (by omega) _) ?_
          simp -dsimp -implicitDefEqProofs only [aw, V.copy, V.cells, V.boxable, over, bldV, Nat.reduceLeDiff, eq_self, reduceIte, reduceCtorEq, Nat.reduceBEq, Nat.reduceLT, Nat.reduceEqDiff, Nat.reduceAdd, a2, a3]
          exact pq_ret S3 ha3 hpar (by rw [vex_eq]; simp [rs152, resV, res1, mk_op, mk_num, mk_name, mk_args, aw, V.copy, V.lend, V.lend1, eq_self, reduceIte, Nat.reduceAdd])
        · rw [hn] at hpar
          simp only at hpar
          rw [if_pos hbig] at hpar
          simp -dsimp -implicitDefEqProofs only [aw, V.copy, V.cells, over, bldV, Nat.reduceLeDiff, eq_self, reduceIte, Nat.reduceBEq, Nat.reduceAdd]
          exact pq_pan S2 hpar (len_drop ts _ ha2).symm
        · rw [hn] at hpar
          simp -dsimp -implicitDefEqProofs only [aw, V.copy, V.cells, over, bldV, Nat.reduceLeDiff, eq_self, reduceIte, Nat.reduceBEq, Nat.reduceAdd]
          exact pq_fail S2 ha2 hpar
      rw [h64, if_neg (by decide)] at hpar
      simp only at hpar
      simp -dsimp -implicitDefEqProofs only [aw, V.copy, V.cells, V.boxable, over, bldV, Nat.reduceLeDiff, eq_self, reduceIte, reduceCtorEq, Nat.reduceBEq, Nat.reduceLT, Nat.reduceEqDiff, Nat.reduceAdd]
      exact pq_ret S1 ha1 hpar (by rw [vex_eq]; simp [rs152, resV, res1, mk_op, mk_num, mk_name, mk_args, aw, V.copy, V.lend, V.lend1, eq_self, reduceIte, Nat.reduceAdd])
    have hd2 : decide (s = (⟨#[111, 110, 101, 115]⟩ : ByteArray)) = false := decide_eq_false hones
    rw [if_neg hones] at hpar
    simp only [acc_sees] at hpar
    simp -dsimp -implicitDefEqProofs only [aw, V.copy, V.lend, V.cells, over, bldV, Nat.reduceLeDiff, eq_self, reduceIte, reduceCtorEq, Nat.reduceBEq, Nat.reduceLT, Nat.reduceEqDiff, Nat.reduceAdd, hd, hd2]
    refine c_accept H (m := mark1 91) S1 ha1 (fun h91 ha2 σ2 S2 hl2 => ?_) (fun h91 => ?_)
    · rw [h91, if_pos rfl] at hpar
      simp only at hpar
      rw [← hl2]
      simp -dsimp -implicitDefEqProofs only [aw, V.copy, V.lend, V.cells, over, bldV, Nat.reduceLeDiff, eq_self, reduceIte, reduceCtorEq, Nat.reduceBEq, Nat.reduceLT, Nat.reduceEqDiff, Nat.reduceAdd]
      refine c_par H S2 ha2 (hW _ (by omega) ha2 _ (box_old S2.at_ _)) (fun e a3 hx h1 h2 h3 σ3 S3 hl3 => ?_) (fun c r b hx σ3 S3 hl3 => ?_)
      · rw [hx, PR.bind, acc_sees] at hpar
        rw [← hl3]
        simp -dsimp -implicitDefEqProofs only [aw, V.copy, V.lend, V.cells, V.boxable, over, bldV, Nat.reduceLeDiff, eq_self, reduceIte, reduceCtorEq, Nat.reduceBEq, Nat.reduceLT, Nat.reduceEqDiff, Nat.reduceAdd, vex_eq]
        refine c_expect H (m := mark1 93) S3 h2 (fun hs3 ha4 σ4 S4 hl4 => ?_) (fun hs3 => ?_)
        · rw [hs3, if_pos rfl] at hpar
          rw [← hl4]
          simp -dsimp -implicitDefEqProofs only [aw, V.copy, V.cells, V.boxable, over, bldV, rowsOf, plains, V.plain, Nat.reduceLeDiff, eq_self, reduceIte, reduceCtorEq, Nat.reduceBEq, Nat.reduceLT, Nat.reduceEqDiff, Nat.reduceAdd]
          exact pq_ret S4 ha4 hpar (by rw [vex_eq]; simp [rs152, resV, res1, mk_op, mk_num, mk_name, mk_args, dex_eq, aw, V.copy, V.lend, V.lend1, eq_self, reduceIte, Nat.reduceAdd])
        · rw [hs3, if_neg (by decide)] at hpar
          simp -dsimp -implicitDefEqProofs only [aw, V.copy, V.cells, over, bldV, Nat.reduceLeDiff, eq_self, reduceIte, reduceCtorEq, Nat.reduceBEq, Nat.reduceLT, Nat.reduceEqDiff, Nat.reduceAdd]
          exact pq_fail S3 h2 hpar
      · rw [hx, PR.bind] at hpar
        rw [← hl3]
        simp -dsimp -implicitDefEqProofs only [aw, V.copy, V.lend, V.cells, over, bldV, Nat.reduceLeDiff, eq_self, reduceIte, Nat.reduceBEq, Nat.reduceAdd]
        exact pq_pan S3 hpar rfl
    rw [h91, if_neg (by decide)] at hpar
    simp only at hpar
    simp -dsimp -implicitDefEqProofs only [aw, V.copy, V.lend, V.cells, over, bldV, Nat.reduceLeDiff, eq_self, reduceIte, reduceCtorEq, Nat.reduceBEq, Nat.reduceLT, Nat.reduceEqDiff, Nat.reduceAdd]
    refine c_accept H (m := mark1 64) S1 ha1 (fun h64 ha2 σ2 S2 hl2 => ?_) (fun h64 => ?_)
    · rw [h64, if_pos rfl] at hpar
      simp only at hpar
      rw [← hl2]
      have hsz := nameP_size H hs1
      obtain ⟨x, rfl⟩ : ∃ x, s = bs x := ⟨_, (bs_self s).symm⟩
      rw [bs_size] at hsz
      have a1 : binV .add (V.d (dstr (bs x))) (V.d (dstr ⟨#[91]⟩)) = some (V.d (dstr (bs (x ++ [91])))) := add_bs x [91] (by simp; omega)
      simp -dsimp -implicitDefEqProofs only [aw, V.copy, V.lend, V.cells, over, bldV, Nat.reduceLeDiff, eq_self, reduceIte, reduceCtorEq, Nat.reduceBEq, Nat.reduceLT, Nat.reduceEqDiff, Nat.reduceAdd, a1]
      refine c_num H S2 ha2 (fun n hn hle ha3 σ3 S3 hl3 => ?_) (fun n hn hbig => ?_) (fun hn => ?_)
      · obtain ⟨h0, h5⟩ := numP_dec H hn hle
        have a2 : binV .add (V.d (dstr (bs (x ++ [91])))) (V.d (dstr (bs (Lib.decDigits n.toNat)))) = some (V.d (dstr (bs (x ++ 91 :: Lib.decDigits n.toNat)))) := by
          rw [show x ++ 91 :: Lib.decDigits n.toNat = (x ++ [91]) ++ Lib.decDigits n.toNat by simp]
          exact add_bs (x ++ [91]) _ (by simp; omega)
        have a3 : binV .add (V.d (dstr (bs (x ++ 91 :: Lib.decDigits n.toNat)))) (V.d (dstr ⟨#[93]⟩)) = some (V.d (dstr (bs (x ++ 91 :: (Lib.decDigits n.toNat ++ [93]))))) := by
          rw [show x ++ 91 :: (Lib.decDigits n.toNat ++ [93]) = (x ++ 91 :: Lib.decDigits n.toNat) ++ [93] by simp]
          exact add_bs (x ++ 91 :: Lib.decDigits n.toNat) [93] (by simp; omega)
        rw [hn] at hpar
        simp only at hpar
        rw [if_neg hle, elem_bs] at hpar
        rw [← hl3]
        simp -dsimp -implicitDefEqProofs only [aw, V.lend, eq_self, reduceIte, reduceCtorEq, Nat.reduceLT, Nat.reduceEqDiff]
        refine fun_ret (numFormat_fun n h0 (by omega) _) ?_
        simp -dsimp -implicitDefEqProofs only [aw, V.copy, V.cells, V.boxable, over, bldV, Nat.reduceLeDiff, eq_self, reduceIte, reduceCtorEq, Nat.reduceBEq, Nat.reduceLT, Nat.reduceEqDiff, Nat.reduceAdd, a2, a3]
        exact pq_ret S3 ha3 hpar (by rw [vex_eq]; simp [rs152, resV, res1, mk_op, mk_num, mk_name, mk_args, aw, V.copy, V.lend, V.lend1, eq_self, reduceIte, Nat.reduceAdd])
      · rw [hn] at hpar
        simp only at hpar
        rw [if_pos hbig] at hpar
        simp -dsimp -implicitDefEqProofs only [aw, V.copy, V.cells, over, bldV, Nat.reduceLeDiff, eq_self, reduceIte, Nat.reduceBEq, Nat.reduceAdd]
        exact pq_pan S2 hpar (len_drop ts _ ha2).symm
      · rw [hn] at hpar
        simp -dsimp -implicitDefEqProofs only [aw, V.copy, V.cells, over, bldV, Nat.reduceLeDiff, eq_self, reduceIte, Nat.reduceBEq, Nat.reduceAdd]
        exact pq_fail S2 ha2 hpar
    rw [h64, if_neg (by decide)] at hpar
    simp only at hpar
    simp -dsimp -implicitDefEqProofs only [aw, V.copy, V.cells, V.boxable, over, bldV, Nat.reduceLeDiff, eq_self, reduceIte, reduceCtorEq, Nat.reduceBEq, Nat.reduceLT, Nat.reduceEqDiff, Nat.reduceAdd]
    exact pq_ret S1 ha1 hpar (by rw [vex_eq]; simp [rs152, resV, res1, mk_op, mk_num, mk_name, mk_args, aw, V.copy, V.lend, V.lend1, eq_self, reduceIte, Nat.reduceAdd])
end Go.Proofs.YteopfpebdalcoaaGreatDoor
