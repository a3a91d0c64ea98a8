/-
  The parser of expressions: its calls, as rules.
-/
import Derived.Test.YteopfpebdalcoaaGreatDoorPm5
set_option linter.unusedVariables false
set_option linter.unusedSimpArgs false
set_option linter.unusedSectionVars false
namespace Go.Proofs.YteopfpebdalcoaaGreatDoor
open Go.RowKit
structure St (σ0 : List (List V)) (i : Nat) (ts : List Tok) (a : Nat) (σ : List (List V)) : Prop where
  eq : σ = σ0.set i (pb ts a)
  below : boxesBelow σ0.length σ0 = true
  lt : i < σ0.length
structure TsOK (ts : List Tok) : Prop where
  size : ∀ t, t ∈ ts → t.text.size ≤ 1000
  len : ts.length ≤ 1000000
section
variable {σ0 σ : List (List V)} {i : Nat} {ts : List Tok} {a : Nat}
theorem St.init (hi : σ[i]? = some (pb ts a)) (hb : boxesBelow σ.length σ = true) : St σ i ts a σ := ⟨(set_pb hi).symm, hb, (List.getElem?_eq_some_iff.1 hi).1⟩
theorem St.len (S : St σ0 i ts a σ) : σ.length = σ0.length := by rw [S.eq, List.length_set]
theorem St.at_ (S : St σ0 i ts a σ) : σ[i]? = some (pb ts a) := by rw [S.eq, List.getElem?_set_self S.lt]
theorem St.bb (S : St σ0 i ts a σ) : boxesBelow σ.length σ = true := by rw [S.len, S.eq]; exact pb_below S.below i ts a
theorem St.step (S : St σ0 i ts a σ) (b : Nat) : St σ0 i ts b (σ.set i (pb ts b)) := ⟨by rw [S.eq, List.set_set], S.below, S.lt⟩
theorem St.slen (S : St σ0 i ts a σ) (X : List V) : (σ.set i X).length = σ.length := List.length_set
variable (H : TsOK ts) {l : List (List V)} {K P : V → List (List V) → Prop} {s : Tag K} {t : Tag P}
include H
theorem c_accept {m : ByteArray} (S : St σ0 i ts a σ) (ha : a ≤ ts.length) (ht : seesB m ts a = true → a + 1 ≤ ts.length → ∀ σ', St σ0 i ts (a + 1) σ' → σ'.length = σ.length → K (vbool true) (σ' ++ l)) (hf : seesB m ts a = false → K (vbool false) (σ ++ l)) :
    FunT G 87 [.ptr i 0, .d (dstr m)] (σ ++ l) K P s t := by
  refine fun_mono (accept_fun m ts a i H.size H.len ha (σ ++ l) (box_old S.at_ l)) fun o σ' ⟨e1, e2⟩ => ?_
  subst e1
  rw [retK_ret]
  cases hs : seesB m ts a with
  | true =>
    rw [hs, if_pos rfl, set_old S.at_] at e2
    subst e2
    exact ht hs (by
      apply Classical.byContradiction
      intro h
      rw [sees_ge (by omega)] at hs; cases hs) _ (S.step _) (S.slen _)
  | false =>
    rw [hs, if_neg (by decide)] at e2
    subst e2
    exact hf hs
theorem c_expect {m : ByteArray} (S : St σ0 i ts a σ) (ha : a ≤ ts.length) (ht : seesB m ts a = true → a + 1 ≤ ts.length → ∀ σ', St σ0 i ts (a + 1) σ' → σ'.length = σ.length → K (.tup []) (σ' ++ l)) (hf : seesB m ts a = false → P (faultV (failE ts a) a) (σ ++ l)) :
    FunT G 88 [.ptr i 0, .d (dstr m)] (σ ++ l) K P s t := by
  refine fun_mono (expect_fun m ts a i H.size H.len ha (σ ++ l) (box_old S.at_ l)) fun o σ' hq => ?_
  cases hs : seesB m ts a with
  | true =>
    rw [hs, if_pos rfl, set_old S.at_] at hq
    obtain ⟨rfl, rfl⟩ := hq
    rw [retK_ret]
    exact ht hs (by
      apply Classical.byContradiction
      intro h
      rw [sees_ge (by omega)] at hs; cases hs) _ (S.step _) (S.slen _)
  | false =>
    rw [hs, if_neg (by decide)] at hq
    obtain ⟨rfl, rfl⟩ := hq
    rw [retK_pan]
    exact hf hs
theorem nameP_at {s : ByteArray} {r1 : List Tok} (h : nameP (ts.drop a) = some (s, r1)) : r1 = ts.drop (a + 1) ∧ a + 1 ≤ ts.length := by
  by_cases hla : a < ts.length
  · rw [nameP_lt hla] at h
    split at h
    · cases h; exact ⟨rfl, hla⟩
    · cases h
  · rw [List.drop_eq_nil_of_le (by omega)] at h; cases h
theorem numP_at {n : Int} {r1 : List Tok} (h : numP (ts.drop a) = some (n, r1)) : r1 = ts.drop (a + 1) ∧ a + 1 ≤ ts.length := by
  by_cases hla : a < ts.length
  · rw [numP_lt hla] at h
    split at h
    · cases h; exact ⟨rfl, hla⟩
    · cases h
  · rw [List.drop_eq_nil_of_le (by omega)] at h; cases h
theorem c_name (S : St σ0 i ts a σ) (ha : a ≤ ts.length) (ht : ∀ s, nameP (ts.drop a) = some (s, ts.drop (a + 1)) → a + 1 ≤ ts.length → ∀ σ', St σ0 i ts (a + 1) σ' → σ'.length = σ.length → K (.d (dstr s)) (σ' ++ l)) (hf : nameP (ts.drop a) = none → P (faultV (failE ts a) a) (σ ++ l)) :
    FunT G 165 [.ptr i 0] (σ ++ l) K P s t := by
  refine fun_mono (name_fun9 ts a i H.size H.len ha (σ ++ l) (box_old S.at_ l)) fun o σ' hq => ?_
  cases hs : nameP (ts.drop a) with
  | some p =>
    obtain ⟨s, r1⟩ := p
    obtain ⟨rfl, h1⟩ := nameP_at H hs
    rw [hs] at hq
    simp only [set_old S.at_] at hq
    obtain ⟨rfl, rfl⟩ := hq
    rw [retK_ret]
    exact ht s hs h1 _ (S.step _) (S.slen _)
  | none =>
    rw [hs] at hq
    obtain ⟨rfl, rfl⟩ := hq
    rw [retK_pan]
    exact hf hs
theorem c_num (S : St σ0 i ts a σ) (ha : a ≤ ts.length) (ht : ∀ n, numP (ts.drop a) = some (n, ts.drop (a + 1)) → ¬ 65535 < n → a + 1 ≤ ts.length → ∀ σ', St σ0 i ts (a + 1) σ' → σ'.length = σ.length → K (.d (dint n)) (σ' ++ l)) (hb : ∀ n, numP (ts.drop a) = some (n, ts.drop (a + 1)) → 65535 < n → P (faultV 3 a) (σ ++ l)) (hf : numP (ts.drop a) = none → P (faultV (failE ts a) a) (σ ++ l)) :
    FunT G 164 [.ptr i 0] (σ ++ l) K P s t := by
  refine fun_mono (number_fun9 ts a i H.size H.len ha (σ ++ l) (box_old S.at_ l)) fun o σ' hq => ?_
  cases hs : numP (ts.drop a) with
  | some p =>
    obtain ⟨n, r1⟩ := p
    obtain ⟨rfl, h1⟩ := numP_at H hs
    rw [hs] at hq
    simp only [set_old S.at_] at hq
    by_cases hbig : 65535 < n
    · rw [if_pos hbig] at hq
      obtain ⟨rfl, rfl⟩ := hq
      rw [retK_pan]
      exact hb n hs hbig
    · rw [if_neg hbig] at hq
      obtain ⟨rfl, rfl⟩ := hq
      rw [retK_ret]
      exact ht n hs hbig h1 _ (S.step _) (S.slen _)
  | none =>
    rw [hs] at hq
    obtain ⟨rfl, rfl⟩ := hq
    rw [retK_pan]
    exact hf hs
theorem pq_split {k : PK} (S : St σ0 i ts a σ) (ha : a ≤ ts.length) {o : Out} {σ' : List (List V)} (hq : PQ ts i (σ ++ l) (par k (ts.drop a)) o σ') :
    (∃ e a2, par k (ts.drop a) = .ok e (ts.drop a2) ∧ a ≤ a2 ∧ a2 ≤ ts.length ∧ (k.eats = true → a < a2) ∧ o = .ret (vex e) ∧ ∃ σ1, σ' = σ1 ++ l ∧ St σ0 i ts a2 σ1 ∧ σ1.length = σ.length) ∨
    (∃ c r b, par k (ts.drop a) = .bad c r ∧ o = .panic (faultV c (ts.length - r.length)) ∧ ∃ σ1, σ' = σ1 ++ l ∧ St σ0 i ts b σ1 ∧ σ1.length = σ.length) := by
  cases hx : par k (ts.drop a) with
  | out => exact absurd hx (par_ne _ _)
  | bad c r =>
    rw [hx] at hq
    obtain ⟨rfl, b, rfl⟩ := hq
    exact .inr ⟨c, r, b, rfl, rfl, _, set_old S.at_ l _, S.step b, S.slen _⟩
  | ok e r =>
    rw [hx] at hq
    obtain ⟨rfl, rfl⟩ := hq
    obtain ⟨h1, h2, h3, h4⟩ := par_at ha hx
    exact .inl ⟨e, ts.length - r.length, by rw [← h1], h2, h3, h4, rfl, _, set_old S.at_ l _, S.step _, S.slen _⟩
theorem c_par {f : FuncId} {args : List V} {k : PK} (S : St σ0 i ts a σ) (ha : a ≤ ts.length) (h : Fun G f args (σ ++ l) (PQ ts i (σ ++ l) (par k (ts.drop a))))
    (ht : ∀ e a2, par k (ts.drop a) = .ok e (ts.drop a2) → a ≤ a2 → a2 ≤ ts.length → (k.eats = true → a < a2) → ∀ σ', St σ0 i ts a2 σ' → σ'.length = σ.length → K (vex e) (σ' ++ l)) (hf : ∀ c r b, par k (ts.drop a) = .bad c r → ∀ σ', St σ0 i ts b σ' → σ'.length = σ.length → P (faultV c (ts.length - r.length)) (σ' ++ l)) : FunT G f args (σ ++ l) K P s t := by
  refine fun_mono h fun o σ' hq => ?_
  rcases pq_split H S ha hq with ⟨e, a2, h1, h2, h3, h4, rfl, σ1, rfl, h5, h6⟩ | ⟨c, r, b, h1, rfl, σ1, rfl, h5, h6⟩
  · rw [retK_ret]; exact ht e a2 h1 h2 h3 h4 σ1 h5 h6
  · rw [retK_pan]; exact hf c r b h1 σ1 h5 h6
theorem a_par {f : FuncId} {args : List V} {k : PK} {R : List (List V) → Prop} {pn : Unit → Prop} {tR : Tag R} {tp : Tag pn} (S : St σ0 i ts a σ) (ha : a ≤ ts.length) (h : Fun G f args (σ ++ l) (PQ ts i (σ ++ l) (par k (ts.drop a))))
    (ht : ∀ e a2, par k (ts.drop a) = .ok e (ts.drop a2) → a ≤ a2 → a2 ≤ ts.length → (k.eats = true → a < a2) → ∀ σ', St σ0 i ts a2 σ' → σ'.length = σ.length → R (σ' ++ l) ∧ K (vex e) (σ' ++ l)) (hf : ∀ c r b, par k (ts.drop a) = .bad c r → ∀ σ', St σ0 i ts b σ' → σ'.length = σ.length → P (faultV c (ts.length - r.length)) (σ' ++ l)) (hp : (∃ c r, par k (ts.drop a) = .bad c r) → pn ()) : actG G f args (σ ++ l) R K P pn tR s t tp := by
  cases hx : par k (ts.drop a) with
  | out => exact absurd hx (par_ne _ _)
  | bad c r =>
    rw [hx] at h
    refine actG_pan (h.mono fun o σ' hq => ?_) (hp ⟨c, r, hx⟩)
    obtain ⟨rfl, b, rfl⟩ := hq
    rw [set_old S.at_]
    exact ⟨_, rfl, hf c r b hx _ (S.step b) (S.slen _)⟩
  | ok e r =>
    obtain ⟨h1, h2, h3, h4⟩ := par_at ha hx
    obtain ⟨k1, k2⟩ := ht e _ (by rw [← h1]; exact hx) h2 h3 h4 _ (S.step (ts.length - r.length)) (S.slen _)
    rw [hx] at h
    refine actG_ret (σ1 := σ.set i (pb ts (ts.length - r.length)) ++ l) (v := vex e) (h.mono fun o σ' hq => ?_) k1 k2
    obtain ⟨rfl, rfl⟩ := hq
    exact ⟨rfl, set_old S.at_ l _⟩
omit H
theorem pq_ret {rs : List RV} {ρ : Slots} {x : PR} {e : Ex} (S : St σ0 i ts a σ) (ha : a ≤ ts.length) (hx : x = .ok e (ts.drop a)) (h : resV (σ ++ l) ρ rs = some (vex e)) : fin σ.length rs (PQ ts i σ0 x) .ret ρ (σ ++ l) := by
  subst hx
  exact fin_set (τ := σ) S.bb h (by rw [vex_eq]; rfl) List.take_left ⟨rfl, by rw [len_drop ts a ha]; exact S.eq⟩
theorem pq_pan {rs : List RV} {ρ : Slots} {x : PR} {c : Int} {r : List Tok} {n : Nat} (S : St σ0 i ts a σ) (hx : x = .bad c r) (hn : n = ts.length - r.length) : fin σ.length rs (PQ ts i σ0 x) (.panic (faultV c n)) ρ (σ ++ l) := by
  subst hx; subst hn
  exact fin_pan (τ := σ) S.bb List.take_left rfl ⟨rfl, a, S.eq⟩
theorem pq_fail {rs : List RV} {ρ : Slots} {x : PR} (S : St σ0 i ts a σ) (ha : a ≤ ts.length) (hx : x = failP (ts.drop a)) : fin σ.length rs (PQ ts i σ0 x) (.panic (faultV (failE ts a) a)) ρ (σ ++ l) :=
  pq_pan (r := ts.drop a) S (by rw [hx, fail_drop ts a ha]) (len_drop ts a ha).symm
end
end Go.Proofs.YteopfpebdalcoaaGreatDoor
