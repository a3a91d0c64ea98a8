/-
  The reference of sequences: Locals.
-/
import Derived.Test.YtbhippphcmkjnaaGreatDoorTRef3
import Derived.Test.YtbhippphcmkjnaaGreatDoorTMin
import Derived.Sort.Walk0
set_option linter.unusedVariables false
set_option linter.unusedSimpArgs false
namespace Go.Proofs.YtbhippphcmkjnaaGreatDoor
open Go.RowKit

theorem nonempty_names (s : Ts) : ∀ b, checkT s b = 0 → ∀ x, x ∈ tnm s → x ≠ ⟨#[]⟩ := by
  induction s using Ts.ind with
  | h s ih =>
  intro b h x hx
  rw [checkT_eq] at h
  split at h
  · rename_i h0
    rw [tnm_eq] at hx
    rcases List.mem_append.1 hx with e | e
    · obtain ⟨l, hl, hxl⟩ := List.mem_flatten.1 e
      obtain ⟨a, ha, rfl⟩ := List.mem_map.1 hl
      exact ih a ha _ (checkTs_zero h a ha) x hxl
    · split at e
      · rename_i o6
        rw [List.mem_singleton.1 e]
        intro hn
        rw [nodeT_ref] at h0
        split at h0
        · cases h0
        · split at h0
          · cases h0
          · rename_i h1
            refine h1 ⟨o6, ?_⟩
            rw [hn]; decide +kernel
      · cases e
  · rename_i h0; exact absurd h h0
theorem less_eq (a b : ByteArray) : Op.bytesLess a.toList b.toList = decide (byts a < byts b) := by
  rw [ByteArray.toList_eq, ByteArray.toList_eq, bytesLess_eq]
theorem not_take {l : List ByteArray} {j : Nat} (hj : j < (srtS l).length) : (srtS l)[j] ∉ (srtS l).take j := fun h => by
  obtain ⟨i, hi, e⟩ := List.getElem_of_mem h
  rw [List.getElem_take] at e
  have hi' : i < j := by rw [List.length_take] at hi; omega
  have := srt_lt l hi' hj
  rw [e] at this
  exact List.lt_irrefl _ this
theorem least_srt {l l' : List ByteArray} (hm : ∀ x, x ∈ srtS l ↔ x ∈ l') {j : Nat} {m : ByteArray} (h1 : m ∈ l') (h2 : m ∉ (srtS l).take j) (h3 : ∀ x, x ∈ l' → x ∉ (srtS l).take j → ¬ byts x < byts m) : ∃ h : j < (srtS l).length, (srtS l)[j] = m := by
  obtain ⟨k, hk, rfl⟩ := List.getElem_of_mem ((hm m).2 h1)
  have hjk : j ≤ k := by
    rcases Nat.lt_or_ge k j with h | h
    · refine absurd ?_ h2
      have : k < ((srtS l).take j).length := by rw [List.length_take]; omega
      have e : ((srtS l).take j)[k] = (srtS l)[k] := List.getElem_take
      rw [← e]; exact List.getElem_mem this
    · exact h
  have hj : j < (srtS l).length := by omega
  refine ⟨hj, ?_⟩
  rcases Nat.lt_or_ge j k with h | h
  · exact absurd (srt_lt l h hk) (h3 _ ((hm _).1 (List.getElem_mem hj)) (not_take hj))
  · have : j = k := by omega
    subst this; rfl
theorem none_srt {l l' : List ByteArray} (hm : ∀ x, x ∈ srtS l ↔ x ∈ l') {j : Nat} (h : ∀ x, x ∈ l' → x ∈ (srtS l).take j) : (srtS l).length ≤ j := by
  rcases Nat.lt_or_ge j (srtS l).length with hj | hj
  · exact absurd (h _ ((hm _).1 (List.getElem_mem hj))) (not_take hj)
  · exact hj
/-- The least of those that are not in the list yet; the empty string if there is none. -/
def LeastP (l out : List ByteArray) (m : ByteArray) : Prop := (m = ⟨#[]⟩ ∧ ∀ x, x ∈ l → x ∈ out) ∨ (m ≠ ⟨#[]⟩ ∧ m ∈ l ∧ m ∉ out ∧ ∀ x, x ∈ l → x ∉ out → ¬ byts x < byts m)
theorem LeastP.step {l out : List ByteArray} {m : ByteArray} {i : Nat} (hi : i < l.length) (hne : l[i] ≠ ⟨#[]⟩) (h : LeastP (l.take i) out m) :
    LeastP (l.take (i + 1)) out (if inB l[i] out = false ∧ (m = ⟨#[]⟩ ∨ byts l[i] < byts m) then l[i] else m) := by
  have ht : l.take (i + 1) = l.take i ++ [l[i]] := by rw [List.take_add_one, List.getElem?_eq_getElem hi]; rfl
  rw [ht]
  generalize l[i] = x at *
  generalize l.take i = p at *
  have hin : inB x out = false ↔ x ∉ out := by rw [← inB_iff, Bool.not_eq_true]
  split
  · rename_i hc
    obtain ⟨h1, h2⟩ := hc
    rw [hin] at h1
    refine .inr ⟨hne, by simp, h1, fun y hy hyo => ?_⟩
    rcases List.mem_append.1 hy with e | e
    · rcases h with ⟨rfl, hall⟩ | ⟨h3, h4, h5, h6⟩
      · exact absurd (hall y e) hyo
      · rcases h2 with h2 | h2
        · exact absurd h2 h3
        · exact fun hlt => h6 y e hyo (List.lt_trans hlt h2)
    · rw [List.mem_singleton.1 e]; exact List.lt_irrefl _
  · rename_i hc
    rcases h with ⟨rfl, hall⟩ | ⟨h3, h4, h5, h6⟩
    · refine .inl ⟨rfl, fun y hy => ?_⟩
      rcases List.mem_append.1 hy with e | e
      · exact hall y e
      · rw [List.mem_singleton.1 e]
        exact Classical.byContradiction fun hno => hc ⟨hin.2 hno, .inl rfl⟩
    · refine .inr ⟨h3, List.mem_append_left _ h4, h5, fun y hy hyo => ?_⟩
      rcases List.mem_append.1 hy with e | e
      · exact h6 y e hyo
      · rw [List.mem_singleton.1 e] at hyo ⊢
        exact fun hlt => hc ⟨hin.2 hyo, .inr hlt⟩
set_option maxHeartbeats 1000000 in
theorem rlocals_fun (s : Ts) (hs : tbig s ≤ 1000000) (σ : List (List V)) : Fun G 15 [vts s] σ (RetV (.d (dstrs (locT s))) σ) := by
  have hq : locT s = if validT s = 0 then srtS (tnm s) else [] := rfl
  refine fun_code Tryz.func15 k15 (by simp only [vts_eq]; rfl) fun hb hw => ?_
  unfold c15
  simp -dsimp -implicitDefEqProofs only [aw, slots0, V.copy, V.lend, V.lend1, V.cells, V.boxable, over, bldV, boundV, rowsOf, plains, V.plain, Nat.reduceLeDiff, cond_true, cond_false, implies_true, eq_self, ne_eq, reduceIte, reduceCtorEq, Nat.reduceBEq, Nat.reduceLT, Nat.reduceEqDiff, Nat.reduceAdd, Nat.reduceSub, Nat.reduceMul, vts_eq]
  refine fun_ret (by simpa only [vts_eq] using rvalid39_fun s hs _) ?_
  by_cases h0 : validT s = 0
  · rw [if_pos h0] at hq
    have hg : tdp s ≤ 8 ∧ tsz s ≤ 100 ∧ checkT s false = 0 := by
      unfold validT at h0
      split at h0
      · cases h0
      · exact ⟨by omega, by omega, h0⟩
    have hne : ∀ x, x ∈ tpre s → x ≠ ⟨#[]⟩ := fun x hx => nonempty_names s false hg.2.2 x (((tpre_perm s).2 x).1 hx)
    have hmm : ∀ x, x ∈ srtS (tnm s) ↔ x ∈ tpre s := fun x => by rw [srt_mem]; exact ((tpre_perm s).2 x).symm
    have hlen : (srtS (tnm s)).length ≤ (tpre s).length := by rw [(tpre_perm s).1]; exact srt_len _
    have hpl := tpre_len s
    simp -dsimp -implicitDefEqProofs only [aw, slots0, V.copy, V.lend, V.lend1, V.cells, V.boxable, over, bldV, boundV, rowsOf, plains, V.plain, Nat.reduceLeDiff, cond_true, cond_false, implies_true, eq_self, ne_eq, reduceIte, reduceCtorEq, Nat.reduceBEq, Nat.reduceLT, Nat.reduceEqDiff, Nat.reduceAdd, Nat.reduceSub, Nat.reduceMul, h0, Int.reduceEq, decide_true, decide_false]
    refine fun_ret (by simpa only [vts_eq] using sets_nil s hs hg.2.1 hg.1 _) ?_
    simp -dsimp -implicitDefEqProofs only [aw, slots0, V.copy, V.lend, V.lend1, V.cells, V.boxable, over, bldV, boundV, rowsOf, plains, V.plain, Nat.reduceLeDiff, cond_true, cond_false, implies_true, eq_self, ne_eq, reduceIte, reduceCtorEq, Nat.reduceBEq, Nat.reduceLT, Nat.reduceEqDiff, Nat.reduceAdd, Nat.reduceSub, Nat.reduceMul, dstrs]
    obtain ⟨l, hl⟩ : ∃ l, l = tpre s := ⟨_, rfl⟩
    rw [← hl] at hne hmm hlen hpl ⊢
    obtain ⟨S, hS⟩ : ∃ S, S = srtS (tnm s) := ⟨_, rfl⟩
    have hls := @least_srt (tnm s) l hmm
    have hns := @none_srt (tnm s) l hmm
    rw [← hS] at hls hns hlen hq
    refine awp_forK [3, 4] (R := fun (j : Nat) ρ σ' => ρ = [(3, .d (.sl (l.map fun s => [dstr s]))), (4, ownS (S.take j))] ∧ σ' = σ ++ [boxT s]) S.length ⟨rfl, rfl⟩ ?_ _
    rintro j ρ' σ' hj ⟨rfl, rfl⟩
    have htl : (S.take j).length = j := by rw [List.length_take]; omega
    by_cases hlt : j < l.length
    · simp -dsimp -implicitDefEqProofs only [aw, slots0, V.copy, V.lend, V.lend1, V.cells, V.boxable, over, bldV, boundV, rowsOf, plains, V.plain, Nat.reduceLeDiff, cond_true, cond_false, implies_true, eq_self, ne_eq, reduceIte, reduceCtorEq, Nat.reduceBEq, Nat.reduceLT, Nat.reduceEqDiff, Nat.reduceAdd, Nat.reduceSub, Nat.reduceMul, htl, Int.ofNat_lt, hlt, decide_true]
      refine awp_forK [3, 4, 5, 6] (R := fun (i : Nat) ρ σ' => (∃ m, ρ = [(3, .d (.sl (l.map fun s => [dstr s]))), (4, ownS (S.take j)), (5, .d (dstr m)), (6, vint .i64 i)] ∧ LeastP (l.take i) (S.take j) m) ∧ σ' = σ ++ [boxT s]) l.length ⟨⟨_, rfl, .inl ⟨rfl, by simp⟩⟩, rfl⟩ ?_ _
      rintro i ρ' σ' hi ⟨⟨m, rfl, hm⟩, rfl⟩
      by_cases hil : i < l.length
      · have hst := hm.step hil (hne _ (List.getElem_mem hil))
        have hw1 := wrap_nat hil (show l.length ≤ 9223372036854775807 by omega)
        simp -dsimp -implicitDefEqProofs only [aw, slots0, V.copy, V.lend, V.lend1, V.cells, V.boxable, over, bldV, boundV, rowsOf, plains, V.plain, Nat.reduceLeDiff, cond_true, cond_false, implies_true, eq_self, ne_eq, reduceIte, reduceCtorEq, Nat.reduceBEq, Nat.reduceLT, Nat.reduceEqDiff, Nat.reduceAdd, Nat.reduceSub, Nat.reduceMul, Int.ofNat_lt, hil, decide_true, List.getElem?_eq_getElem hil]
        refine fun_ret (rhas_fun (S.take j) l[i] (by omega) _) ?_
        cases hx : inB l[i] (S.take j) with
        | true =>
          rw [if_neg (by rw [hx]; simp)] at hst
          simp -dsimp -implicitDefEqProofs only [aw, slots0, V.copy, V.lend, V.lend1, V.cells, V.boxable, over, bldV, boundV, rowsOf, plains, V.plain, Nat.reduceLeDiff, cond_true, cond_false, implies_true, eq_self, ne_eq, reduceIte, reduceCtorEq, Nat.reduceBEq, Nat.reduceLT, Nat.reduceEqDiff, Nat.reduceAdd, Nat.reduceSub, Nat.reduceMul, hw1]
          exact ⟨hil, Nxt.same (by simp) (boxesBelow_app hb rfl) (by simp [slotsBelow, V.under]) ⟨⟨m, rfl, hst⟩, rfl⟩⟩
        | false =>
          rw [hx] at hst
          by_cases hme : m = ⟨#[]⟩
          · rw [if_pos ⟨rfl, .inl hme⟩] at hst
            simp -dsimp -implicitDefEqProofs only [aw, slots0, V.copy, V.lend, V.lend1, V.cells, V.boxable, over, bldV, boundV, rowsOf, plains, V.plain, Nat.reduceLeDiff, cond_true, cond_false, implies_true, eq_self, ne_eq, reduceIte, reduceCtorEq, Nat.reduceBEq, Nat.reduceLT, Nat.reduceEqDiff, Nat.reduceAdd, Nat.reduceSub, Nat.reduceMul, decide_eq_true hme, List.getElem?_eq_getElem hil, hw1]
            exact ⟨hil, Nxt.same (by simp) (boxesBelow_app hb rfl) (by simp [slotsBelow, V.under]) ⟨⟨_, rfl, hst⟩, rfl⟩⟩
          · by_cases hlm : byts l[i] < byts m
            · rw [if_pos ⟨rfl, .inr hlm⟩] at hst
              simp -dsimp -implicitDefEqProofs only [aw, slots0, V.copy, V.lend, V.lend1, V.cells, V.boxable, over, bldV, boundV, rowsOf, plains, V.plain, Nat.reduceLeDiff, cond_true, cond_false, implies_true, eq_self, ne_eq, reduceIte, reduceCtorEq, Nat.reduceBEq, Nat.reduceLT, Nat.reduceEqDiff, Nat.reduceAdd, Nat.reduceSub, Nat.reduceMul, decide_eq_false hme, List.getElem?_eq_getElem hil, less_eq, decide_eq_true hlm, hw1]
              exact ⟨hil, Nxt.same (by simp) (boxesBelow_app hb rfl) (by simp [slotsBelow, V.under]) ⟨⟨_, rfl, hst⟩, rfl⟩⟩
            · rw [if_neg (fun h => h.2.elim hme hlm)] at hst
              simp -dsimp -implicitDefEqProofs only [aw, slots0, V.copy, V.lend, V.lend1, V.cells, V.boxable, over, bldV, boundV, rowsOf, plains, V.plain, Nat.reduceLeDiff, cond_true, cond_false, implies_true, eq_self, ne_eq, reduceIte, reduceCtorEq, Nat.reduceBEq, Nat.reduceLT, Nat.reduceEqDiff, Nat.reduceAdd, Nat.reduceSub, Nat.reduceMul, decide_eq_false hme, List.getElem?_eq_getElem hil, less_eq, decide_eq_false hlm, hw1]
              exact ⟨hil, Nxt.same (by simp) (boxesBelow_app hb rfl) (by simp [slotsBelow, V.under]) ⟨⟨_, rfl, hst⟩, rfl⟩⟩
      · simp -dsimp -implicitDefEqProofs only [aw, slots0, V.copy, V.lend, V.lend1, V.cells, V.boxable, over, bldV, boundV, rowsOf, plains, V.plain, Nat.reduceLeDiff, cond_true, cond_false, implies_true, eq_self, ne_eq, reduceIte, reduceCtorEq, Nat.reduceBEq, Nat.reduceLT, Nat.reduceEqDiff, Nat.reduceAdd, Nat.reduceSub, Nat.reduceMul, Int.ofNat_lt, hil, decide_false]
        rw [List.take_of_length_le (show l.length ≤ i by omega)] at hm
        rcases hm with ⟨rfl, hall⟩ | ⟨h1, h2, h3, h4⟩
        · have hge := hns hall
          simp -dsimp -implicitDefEqProofs only [aw, slots0, V.copy, V.lend, V.lend1, V.cells, V.boxable, over, bldV, boundV, rowsOf, plains, V.plain, Nat.reduceLeDiff, cond_true, cond_false, implies_true, eq_self, ne_eq, reduceIte, reduceCtorEq, Nat.reduceBEq, Nat.reduceLT, Nat.reduceEqDiff, Nat.reduceAdd, Nat.reduceSub, Nat.reduceMul, decide_true]
          rw [List.take_of_length_le hge, ← hq]
          first | exact fin_ret hb rfl rfl List.take_length ⟨rfl, rfl⟩ | exact fin_ret hb rfl rfl List.take_left ⟨rfl, rfl⟩ | (trace_state; fail "fin")
        · obtain ⟨hjs, hjm⟩ := hls h2 h3 h4
          have ht : S.take (j + 1) = S.take j ++ [m] := by rw [List.take_add_one, List.getElem?_eq_getElem hjs, hjm]; rfl
          simp -dsimp -implicitDefEqProofs only [aw, slots0, V.copy, V.lend, V.lend1, V.cells, V.boxable, over, bldV, boundV, rowsOf, plains, V.plain, Nat.reduceLeDiff, cond_true, cond_false, implies_true, eq_self, ne_eq, reduceIte, reduceCtorEq, Nat.reduceBEq, Nat.reduceLT, Nat.reduceEqDiff, Nat.reduceAdd, Nat.reduceSub, Nat.reduceMul, decide_eq_false h1]
          refine onT_intro (by first | omega | (simp only [List.length_map, htl]; omega)) ?_
          simp -dsimp -implicitDefEqProofs only [aw, slots0, V.copy, V.lend, V.lend1, V.cells, V.boxable, over, bldV, boundV, rowsOf, plains, V.plain, Nat.reduceLeDiff, cond_true, cond_false, implies_true, eq_self, ne_eq, reduceIte, reduceCtorEq, Nat.reduceBEq, Nat.reduceLT, Nat.reduceEqDiff, Nat.reduceAdd, Nat.reduceSub, Nat.reduceMul]
          refine ⟨hjs, Nxt.same (by simp) (boxesBelow_app hb rfl) (by simp [slotsBelow, V.under]) ⟨?_, rfl⟩⟩
          rw [ht]; simp [ownS]
    · simp -dsimp -implicitDefEqProofs only [aw, slots0, V.copy, V.lend, V.lend1, V.cells, V.boxable, over, bldV, boundV, rowsOf, plains, V.plain, Nat.reduceLeDiff, cond_true, cond_false, implies_true, eq_self, ne_eq, reduceIte, reduceCtorEq, Nat.reduceBEq, Nat.reduceLT, Nat.reduceEqDiff, Nat.reduceAdd, Nat.reduceSub, Nat.reduceMul, htl, Int.ofNat_lt, hlt, decide_false]
      have hge : S.length ≤ j := by omega
      rw [List.take_of_length_le hge, ← hq]
      first | exact fin_ret hb rfl rfl List.take_length ⟨rfl, rfl⟩ | exact fin_ret hb rfl rfl List.take_left ⟨rfl, rfl⟩ | (trace_state; fail "fin")
  · rw [if_neg h0] at hq
    simp -dsimp -implicitDefEqProofs only [aw, slots0, V.copy, V.lend, V.lend1, V.cells, V.boxable, over, bldV, boundV, rowsOf, plains, V.plain, Nat.reduceLeDiff, cond_true, cond_false, implies_true, eq_self, ne_eq, reduceIte, reduceCtorEq, Nat.reduceBEq, Nat.reduceLT, Nat.reduceEqDiff, Nat.reduceAdd, Nat.reduceSub, Nat.reduceMul, decide_eq_false h0]
    exact fin_ret hb rfl rfl List.take_left ⟨by rw [hq]; rfl, rfl⟩
end Go.Proofs.YtbhippphcmkjnaaGreatDoor
