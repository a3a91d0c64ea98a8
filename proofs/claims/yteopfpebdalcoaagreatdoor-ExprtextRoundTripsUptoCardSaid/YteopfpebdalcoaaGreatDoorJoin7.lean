/-
  The tokens that the lexer finds: all are valid; and those of a source in parentheses. No program is in sight here. Valid tokens by the reference; joined tokens.
-/
import Derived.Test.YteopfpebdalcoaaGreatDoorPu
import Derived.Test.YteopfpebdalcoaaGreatDoorBs
import Derived.Test.YteopfpebdalcoaaGreatDoorVal7
set_option linter.unusedVariables false
set_option linter.unusedSimpArgs false
set_option linter.unusedSectionVars false
namespace Go.Proofs.YteopfpebdalcoaaGreatDoor
open Go.RowKit
theorem decN_snoc (l : Bs) (d : UInt8) : decN (l ++ [d]) = 10 * decN l + (d.toNat - 48) := by
  unfold decN; rw [List.foldl_append]; rfl
theorem decN_ge : ∀ (l : Bs) (n : Nat), n ≤ l.foldl (fun n c => 10 * n + (c.toNat - 48)) n
  | [], n => Nat.le_refl _
  | c :: l, n => Nat.le_trans (by omega) (decN_ge l (10 * n + (c.toNat - 48)))
theorem dec_back : ∀ (k : Nat) (l : Bs), l.length = k + 1 → (∀ x, x ∈ l → digB x.toNat = true) → (1 < l.length → l.head? ≠ some 48) → Lib.decDigits (decN l) = l := by
  intro k
  induction k with
  | zero =>
    intro l hl hd _
    match l, hl with
    | [d], _ =>
      have := hd d (by simp)
      simp only [digB, Bool.and_eq_true, decide_eq_true_eq] at this
      have e : decN [d] = d.toNat - 48 := by simp [decN]
      rw [e, Lib.decDigits, dif_pos (by omega)]
      congr 1
      rw [← UInt8.toNat_inj, dig_byte _ (by omega)]
      omega
  | succ k ih =>
    intro l hl hd hz
    obtain ⟨x, d, rfl⟩ : ∃ x d, l = x ++ [d] := by
      rcases List.eq_nil_or_concat l with h | ⟨x, d, h⟩
      · rw [h] at hl; simp at hl
      · exact ⟨x, d, by rw [h]; simp⟩
    have hxl : x.length = k + 1 := by simpa using hl
    have hdd := hd d (by simp)
    simp only [digB, Bool.and_eq_true, decide_eq_true_eq] at hdd
    have hx := ih x hxl (fun y hy => hd y (by simp [hy])) (fun h1 h2 => hz (by simp; omega) (by
      cases x with
      | nil => simp at hxl
      | cons a x => simpa using h2))
    have hpos : 1 ≤ decN x := by
      match x, hxl with
      | a :: r, _ =>
        have ha := hd a (by simp)
        simp only [digB, Bool.and_eq_true, decide_eq_true_eq] at ha
        have hne : a ≠ 48 := fun e => hz (by simp) (by simp [e])
        have h49 : 49 ≤ a.toNat := by
          apply Classical.byContradiction
          intro hh
          exact hne (by rw [← UInt8.toNat_inj]; show a.toNat = 48; omega)
        have := decN_ge r (10 * 0 + (a.toNat - 48))
        show 1 ≤ (a :: r).foldl _ 0
        rw [List.foldl_cons]
        omega
    rw [decN_snoc, Lib.decDigits, dif_neg (by omega)]
    have e1 : (10 * decN x + (d.toNat - 48)) / 10 = decN x := by omega
    have e2 : (10 * decN x + (d.toNat - 48)) % 10 = d.toNat - 48 := by omega
    rw [e1, e2, hx]
    congr 2
    rw [← UInt8.toNat_inj, dig_byte _ (by omega)]
    omega
theorem dec_len9 : ∀ (k u : Nat), u < 10 ^ (k + 1) → (Lib.decDigits u).length ≤ k + 1
  | 0, u, h => by rw [Lib.decDigits, dif_pos (by omega)]; simp
  | k + 1, u, h => by
    rw [Lib.decDigits]
    split
    · simp
    · have := dec_len9 k (u / 10) (by rw [Nat.pow_succ] at h; omega)
      simp; omega
theorem read_vtok {c : UInt8} {r : Bs} {kd n : Int} {len : Nat} (N : Int) (h : readL (c :: r) = .tok kd n len) : vTok (cutTok N (c :: r) kd n len) = true ∧ len ≤ 16 := by
  have htake : ∀ (p : UInt8 → Bool), (c :: r).take ((c :: r).takeWhile p).length = (c :: r).takeWhile p := fun p => (List.prefix_iff_eq_take.1 (List.takeWhile_prefix p)).symm
  simp only [readL] at h
  split at h
  · rename_i hl
    split at h
    · cases h
    · rename_i h16
      cases h
      refine ⟨?_, by omega⟩
      unfold cutTok
      rw [htake]
      have hall : ∀ x, x ∈ (c :: r).takeWhile inn → inn x = true := fun x hx => by
        have := List.all_takeWhile (p := inn) (l := c :: r)
        exact List.all_eq_true.1 this x hx
      have hinc : inn c = true := by unfold inn folB; simp [hl]
      have hne : (c :: r).takeWhile inn = c :: r.takeWhile inn := List.takeWhile_cons_of_pos hinc
      have hw : wordB (⟨((c :: r).takeWhile inn).toArray⟩ : ByteArray) = true := by
        unfold wordB
        show wordL ((c :: r).takeWhile inn) = true
        rw [hne] at hall ⊢
        simp only [wordL, hl, Bool.true_and]
        rw [List.all_eq_true]
        exact hall
      by_cases hk : inB ⟨((c :: r).takeWhile inn).toArray⟩ kwList = true
      · rw [if_pos hk]
        unfold vTok
        simp [hk]
      · have hsz : (⟨((c :: r).takeWhile inn).toArray⟩ : ByteArray).size ≤ 16 := by rw [Lib.size_eq]; simpa using h16
        rw [if_neg hk]
        have hk2 : inB ⟨((c :: r).takeWhile inn).toArray⟩ kwList = false := by simpa using hk
        unfold vTok nameB
        simp only [hw, hk2, hsz, decide_true, Bool.and_self, Bool.not_false]
        rfl
  · split at h
    · rename_i hd
      split at h
      · cases h
      · rename_i h1
        split at h
        · cases h
        · rename_i h2
          cases h
          have hd2 : ∀ x, x ∈ (c :: r).takeWhile inn → digB x.toNat = true := fun x hx => by
            have : ((c :: r).takeWhile inn).all (fun x => digB x.toNat) = true := by
              cases hh : ((c :: r).takeWhile inn).all fun x => digB x.toNat with
              | true => rfl
              | false => exact absurd (.inl hh) h1
            exact List.all_eq_true.1 this x hx
          have hne : (c :: r).takeWhile inn = c :: r.takeWhile inn := List.takeWhile_cons_of_pos (by unfold inn folB; simp [hd])
          have hz : 1 < ((c :: r).takeWhile inn).length → ((c :: r).takeWhile inn).head? ≠ some 48 := fun hh e => by
            rw [hne] at e
            simp at e
            exact h1 (.inr ⟨hh, e⟩)
          have hb := dec_back (r.takeWhile inn).length _ (by rw [hne]; rfl) hd2 hz
          have hlen : ((c :: r).takeWhile inn).length ≤ 16 := by
            have := dec_len9 9 (decN ((c :: r).takeWhile inn)) (by omega)
            rw [hb] at this
            omega
          refine ⟨?_, hlen⟩
          unfold cutTok
          rw [htake]
          unfold vTok
          simp [hb]
          omega
    · split at h
      · cases h
      · rename_i hb
        cases h
        rcases best_in markList 0 (c :: r) with h1 | ⟨m, h1, h2, h3⟩
        · exact absurd h1 hb
        · have h5 := marks_short m h1
          have h6 : bestM (c :: r) = m.length := h3
          refine ⟨?_, by rw [h6]; omega⟩
          unfold cutTok
          rw [h6, ← List.prefix_iff_eq_take.1 (List.isPrefixOf_iff_prefix.1 h2)]
          unfold vTok
          simp [h1]
theorem toks_vtok : ∀ (k : Nat) (N : Int) (l : Bs) (ts : List Tok), l.length ≤ k → toksN N l = .ok ts → (∀ t, t ∈ ts → vTok t = true ∧ t.text.size ≤ 16) ∧ ts.length ≤ l.length := by
  intro k
  induction k with
  | zero =>
    intro N l ts h ht
    have : l = [] := List.eq_nil_of_length_eq_zero (by omega)
    subst this
    rw [toksN_step, skipL_nil] at ht
    cases ht; simp
  | succ k ih =>
    intro N l ts h ht
    rw [toksN_step] at ht
    have hs := (skip_suffix l).length_le
    cases hsk : skipL l with
    | nil => rw [hsk] at ht; cases ht; simp
    | cons c r =>
      rw [hsk] at ht hs
      simp only at ht
      cases hrd : readL (c :: r) with
      | err e => rw [hrd] at ht; cases ht
      | tok kd n len =>
        obtain ⟨g1, g2⟩ := read_len hrd
        obtain ⟨v1, v2⟩ := read_vtok N hrd
        rw [hrd] at ht
        simp only at ht
        have hdl := List.length_drop (l := c :: r) (i := len)
        cases hq : toksN N ((c :: r).drop len) with
        | err x e => rw [hq] at ht; cases ht
        | ok us =>
          rw [hq] at ht
          cases ht
          obtain ⟨i1, i2⟩ := ih N _ us (by omega) hq
          refine ⟨fun t ht => ?_, by simp only [List.length_cons] at *; omega⟩
          rcases List.mem_cons.1 ht with rfl | ht
          · refine ⟨v1, ?_⟩
            unfold cutTok
            rw [Lib.size_eq]
            simp only [List.length_take]
            simp
            omega
          · exact i1 t ht
theorem toks_good9 {l : Bs} {ts : List Tok} (h : toksL l = .ok ts) : (∀ t, t ∈ ts → vTok t = true ∧ t.text.size ≤ 16) ∧ ts.length ≤ l.length := toks_vtok _ _ l ts (Nat.le_refl _) h
end Go.Proofs.YteopfpebdalcoaaGreatDoor
namespace Go.Proofs.YteopfpebdalcoaaGreatDoor
open Go.RowKit
theorem tok_bs (t : Tok) : t = ⟨t.kind, t.num, bs t.text.data.toList, t.line⟩ := by rw [bs_self]
theorem lxvalid_fun (t : Tok) (σ : List (List V)) : Fun G 170 [tokA t] σ (RetV (.d (.lit (.bool (vTok t)))) σ) := by
  rw [tok_bs t]; exact lxvalid_fun' _ _ _ _ _
theorem tokA_eq (t : Tok) : tokA t = .agg [.d (dint t.kind), .d (dint t.num), .d (dstr t.text), .d (dint t.line)] := rfl
def joinV (ts : List Tok) : V := if ts.all vTok = true then .tup [.d (dstr (bs (joinL ts))), .d (dint 0)] else .tup [.d (dstr ⟨#[]⟩), .d (dint 1)]
theorem joinL_len (n : Nat) : ∀ (l : List Tok), (∀ t, t ∈ l → t.text.size ≤ n) → (joinL l).length ≤ (n + 1) * l.length
  | [], _ => by simp [joinL]
  | [a], h => by have := h a (by simp); rw [Lib.size_eq] at this; simp only [joinL, List.length_cons, List.length_nil]; omega
  | a :: b :: r, h => by
    have h1 := h a (by simp)
    have h2 := joinL_len n (b :: r) fun t ht => h t (by simp at ht ⊢; exact .inr ht)
    rw [Lib.size_eq] at h1
    have e : (n + 1) * (a :: b :: r).length = (n + 1) * (b :: r).length + (n + 1) := by rw [List.length_cons (a := a), Nat.mul_succ]
    rw [e]
    simp only [joinL, List.length_append, List.length_cons] at h2 ⊢
    omega
theorem join_eq : ∀ ts : List Tok, Lib.join (ts.map fun t => t.text.data.toList) [32] = joinL ts
  | [] => rfl
  | [t] => by simp [joinL, Lib.join_one]
  | t :: u :: r => by
    have := join_eq (u :: r)
    simp only [List.map_cons] at this ⊢
    rw [Lib.join_cons] at this ⊢
    simp only [joinL, ← this]
    simp [Lib.joinTail]
set_option maxHeartbeats 1000000 in
theorem lxjoin_fun (ts : List Tok) (hl : ts.length ≤ 1000) (ht : ∀ t, t ∈ ts → t.text.size ≤ 1000) (σ : List (List V)) : Fun G 166 [.d (.sl (ts.map tokD))] σ (RetV (joinV ts) σ) := by
  refine fun_code Tryz.func166 k166 rfl fun hb hw => ?_
  delta c166 oM oV kI kS kT kF
  simp -dsimp -implicitDefEqProofs only [aw, slots0, V.copy, eq_self, reduceIte, reduceCtorEq, Nat.reduceBEq, Nat.reduceLT, Nat.reduceEqDiff]
  refine onT_intro (by first | omega | (simp only [List.length_map]; omega)) ?_
  simp -dsimp -implicitDefEqProofs only [aw, V.copy, V.lend, eq_self, reduceIte, reduceCtorEq, Nat.reduceBEq, Nat.reduceLT, Nat.reduceEqDiff]
  refine awp_forK [4, 10, 11, 12] (R := fun (j : Nat) ρ σ' => ρ = [(4, .own 9 1 ((ts.take j).map fun t => [dstr t.text])), (10, .d (.sl (ts.map tokD))), (11, vint .i64 ts.length), (12, vint .i64 j)] ∧ σ' = σ ∧ (ts.take j).all vTok = true) ts.length ⟨by simp []; rfl, rfl, rfl⟩ ?_ _
  rintro j ρ' σ' hj ⟨rfl, rfl, hv⟩
  by_cases hlt : j < ts.length
  · have htk : ts.take (j + 1) = ts.take j ++ [ts[j]] := by rw [List.take_add_one, List.getElem?_eq_getElem hlt]; rfl
    have hall : (ts.take (j + 1)).all vTok = vTok ts[j] := by rw [htk, List.all_append, hv]; simp
    simp -dsimp -implicitDefEqProofs only [aw, V.copy, V.lend, V.lend1, V.cells, V.boxable, over, Nat.reduceLeDiff, eq_self, reduceIte, Nat.reduceBEq, Nat.reduceLT, Nat.reduceEqDiff, Nat.reduceAdd, Int.ofNat_lt, hlt, decide_true, List.getElem?_eq_getElem hlt, tokD]
    rw [← tokA_eq]
    refine fun_ret (lxvalid_fun ts[j] _) ?_
    cases hvj : vTok ts[j] with
    | false =>
      simp -dsimp -implicitDefEqProofs only [aw, V.copy, V.lend, eq_self, reduceIte, Nat.reduceBEq, Nat.reduceLT, Nat.reduceEqDiff]
      have : ts.all vTok = false := by
        rw [List.all_eq_false]; exact ⟨_, List.getElem_mem hlt, by rw [hvj]; decide⟩
      unfold joinV
      rw [if_neg (by rw [this]; decide)]
      exact fin_box hb rfl rfl
    | true =>
      rw [hvj] at hall
      simp -dsimp -implicitDefEqProofs only [aw, V.copy, V.lend, V.cells, rowsOf, plains, V.plain, Nat.reduceLeDiff, eq_self, reduceIte, Nat.reduceBEq, Nat.reduceLT, Nat.reduceEqDiff, Nat.reduceAdd]
      refine onT_intro (by first | omega | (simp only [List.length_take]; omega)) ?_
      simp -dsimp -implicitDefEqProofs only [aw, V.copy, V.lend, eq_self, reduceIte, Nat.reduceBEq, Nat.reduceLT, Nat.reduceEqDiff, wrap_nat hlt (show ts.length ≤ 9223372036854775807 by omega)]
      refine ⟨hlt, Nxt.drop (Nat.le_refl _) hb rfl ⟨?_, rfl, hall⟩⟩
      rw [htk, List.map_append]; rfl
  · simp -dsimp -implicitDefEqProofs only [aw, V.copy, V.lend, eq_self, reduceIte, Nat.reduceBEq, Nat.reduceLT, Nat.reduceEqDiff, Int.ofNat_lt, hlt, decide_false]
    rw [List.take_of_length_le (by omega)] at hv ⊢
    have hd : V.d (.sl (ts.map fun t => [dstr t.text])) = V.d (dstrs (ts.map Tok.text)) := by unfold dstrs; rw [List.map_map]; rfl
    have hjl := joinL_len 1000 ts ht
    have hjl2 : (joinL ts).length ≤ 1001 * 1000 := Nat.le_trans hjl (Nat.mul_le_mul_left _ hl)
    have hjq : Lib.join ((ts.map Tok.text).map (·.data.toList)) [32] = joinL ts := by rw [← join_eq, List.map_map]; rfl
    rw [hd]
    refine fun_ret (fun_join (ts.map Tok.text) (by rw [List.length_map]; omega) (by rw [hjq]; omega) _) ?_
    rw [hjq]
    simp -dsimp -implicitDefEqProofs only [aw, V.copy, eq_self, reduceIte, Nat.reduceBEq, Nat.reduceLT, Nat.reduceEqDiff]
    unfold joinV
    rw [if_pos hv]
    first | exact fin_ret hb rfl rfl List.take_length ⟨rfl, rfl⟩ | exact fin_ret hb rfl rfl List.take_left ⟨rfl, rfl⟩
end Go.Proofs.YteopfpebdalcoaaGreatDoor
