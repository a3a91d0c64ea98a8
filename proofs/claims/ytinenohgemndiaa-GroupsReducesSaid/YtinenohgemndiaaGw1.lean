/-
  A map of lists in boxes; what comes directly before.
-/
import Derived.Test.YtinenohgemndiaaGv9
set_option linter.unusedVariables false
set_option linter.unusedSimpArgs false
set_option linter.unusedSectionVars false
namespace Go.Proofs.Ytinenohgemndiaa
open Go.RowKit
structure PM (n0 : Nat) (σ : List (List V)) (j : Nat) (ks : List Nat) (P : Nat → List Nat) (g : Nat → Nat) (C : Nat → List Nat) : Prop where
  mp : σ[j]? = some [.mapc false (kvOf ks fun k => .bsc (g k) (P k).length (C k).length)]
  jn : n0 ≤ j
  nd : ks.Nodup
  out : ∀ k, k ∉ ks → P k = []
  gn : ∀ k, k ∈ ks → n0 ≤ g k ∧ g k ≠ j
  inj : ∀ a b, a ∈ ks → b ∈ ks → g a = g b → a = b
  box : ∀ k, k ∈ ks → σ[g k]? = some (vis (C k)) ∧ (C k).take (P k).length = P k
theorem PM.lt {n0 : Nat} {σ : List (List V)} {j : Nat} {ks : List Nat} {P : Nat → List Nat} {g : Nat → Nat} {C : Nat → List Nat} (h : PM n0 σ j ks P g C) : j < σ.length ∧ ∀ k, k ∈ ks → g k < σ.length :=
  ⟨(List.getElem?_eq_some_iff.1 h.mp).1, fun k hk => (List.getElem?_eq_some_iff.1 (h.box k hk).1).1⟩
theorem PM.push {n0 : Nat} {σ : List (List V)} {j : Nat} {ks : List Nat} {P : Nat → List Nat} {g : Nat → Nat} {C : Nat → List Nat} (h : PM n0 σ j ks P g C) (l : List (List V)) : PM n0 (σ ++ l) j ks P g C :=
  ⟨box_old h.mp l, h.jn, h.nd, h.out, h.gn, h.inj, fun k hk => ⟨box_old (h.box k hk).1 l, (h.box k hk).2⟩⟩
theorem PM.put {n0 : Nat} {σ σ2 : List (List V)} {j : Nat} {ks : List Nat} {P : Nat → List Nat} {g : Nat → Nat} {C : Nat → List Nat} (h : PM n0 σ j ks P g C) (b i : Nat) (L D : List Nat)
    (h1 : σ2[j]? = some [.mapc false (mput (.i (b : Int)) (.bsc i L.length D.length) (kvOf ks fun k => .bsc (g k) (P k).length (C k).length))])
    (h2 : ∀ k, k ∈ ks → k ≠ b → σ2[g k]? = σ[g k]? ∧ g k ≠ i) (h3 : σ2[i]? = some (vis D)) (h4 : D.take L.length = L) (h5 : n0 ≤ i) (h6 : i ≠ j) :
    PM n0 σ2 j (if b ∈ ks then ks else ks ++ [b]) (upd P b L) (upd g b i) (upd C b D) := by
  have hv : ∀ k, upd (fun k => V.bsc (g k) (P k).length (C k).length) b (.bsc i L.length D.length) k = V.bsc (upd g b i k) (upd P b L k).length (upd C b D k).length := fun k => by
    unfold upd; split <;> rfl
  have hmem : ∀ k, (k ∈ if b ∈ ks then ks else ks ++ [b]) ↔ k ∈ ks ∨ k = b := fun k => by
    split
    · constructor
      · exact .inl
      · rintro (h | rfl) <;> assumption
    · simp
  refine ⟨?_, h.jn, ?_, fun k hk => ?_, fun k hk => ?_, fun a c ha hc e => ?_, fun k hk => ?_⟩
  · rw [h1]
    split
    · rename_i hb; rw [mput_in _ _ _ _ h.nd hb]; unfold kvOf; simp only [hv]
    · rename_i hb; rw [mput_out _ _ _ _ hb]; unfold kvOf; simp only [hv]
  · split
    · exact h.nd
    · rename_i hb
      exact List.nodup_append.2 ⟨h.nd, by simp, fun a ha c hc => by rw [List.mem_singleton.1 hc]; exact fun e => hb (e ▸ ha)⟩
  · rw [hmem] at hk
    rw [upd_ne P L (fun e => hk (.inr e))]
    exact h.out k fun h => hk (.inl h)
  · rw [hmem] at hk
    by_cases e : k = b
    · subst e; rw [upd_self]; exact ⟨h5, h6⟩
    · rw [upd_ne g i e]; exact h.gn k (hk.resolve_right e)
  · rw [hmem] at ha hc
    by_cases e1 : a = b <;> by_cases e2 : c = b
    · rw [e1, e2]
    · subst e1
      rw [upd_self, upd_ne g i e2] at e
      exact absurd e.symm (h2 c (hc.resolve_right e2) e2).2
    · subst e2
      rw [upd_self, upd_ne g i e1] at e
      exact absurd e (h2 a (ha.resolve_right e1) e1).2
    · rw [upd_ne g i e1, upd_ne g i e2] at e
      exact h.inj a c (ha.resolve_right e1) (hc.resolve_right e2) e
  · rw [hmem] at hk
    by_cases e : k = b
    · subst e; rw [upd_self, upd_self, upd_self]; exact ⟨h3, h4⟩
    · rw [upd_ne g i e, upd_ne P L e, upd_ne C D e]
      have h7 := h2 k (hk.resolve_right e) e
      rw [h7.1]
      exact h.box k (hk.resolve_right e)
theorem PM.look {n0 : Nat} {σ : List (List V)} {j : Nat} {ks : List Nat} {P : Nat → List Nat} {g : Nat → Nat} {C : Nat → List Nat} (h : PM n0 σ j ks P g C) (b : Nat) :
    (b ∉ ks ∧ P b = [] ∧ mget (.i (b : Int)) (kvOf ks fun k => .bsc (g k) (P k).length (C k).length) = none) ∨ (b ∈ ks ∧ mget (.i (b : Int)) (kvOf ks fun k => .bsc (g k) (P k).length (C k).length) = some (.bsc (g b) (P b).length (C b).length)) := by
  rw [mget_kv]
  by_cases hb : b ∈ ks
  · exact .inr ⟨hb, if_pos hb⟩
  · exact .inl ⟨hb, h.out b hb, if_neg hb⟩
theorem preds_step {l : Prs} {k : Nat} (h : k < l.length) {a b : Nat} (e : l[k] = (a, b)) (i : Nat) : preds (l.take (k + 1)) i = if b = i ∧ a ∉ preds (l.take k) i then preds (l.take k) i ++ [a] else preds (l.take k) i := by
  unfold preds
  rw [foldl_take (prd1 i) [] h, e]
  rfl
theorem preds_upd {l : Prs} {k : Nat} (h : k < l.length) {a b : Nat} (e : l[k] = (a, b)) : preds (l.take (k + 1)) = if a ∈ preds (l.take k) b then preds (l.take k) else upd (preds (l.take k)) b (preds (l.take k) b ++ [a]) := by
  funext i
  rw [preds_step h e]
  by_cases hi : b = i
  · subst hi
    by_cases ha : a ∈ preds (l.take k) b
    · rw [if_neg (fun h => h.2 ha), if_pos ha]
    · rw [if_pos ⟨rfl, ha⟩, if_neg ha, upd_self]
  · rw [if_neg (fun h => hi h.1)]
    split
    · rfl
    · rw [upd_ne _ _ (fun h => hi h.symm)]
theorem preds_len (l : Prs) (i : Nat) : (preds l i).length ≤ l.length := by
  have H : ∀ (l : Prs) (acc : List Nat), (l.foldl (prd1 i) acc).length ≤ acc.length + l.length := by
    intro l
    induction l with
    | nil => intro acc; simp
    | cons p r ih =>
      intro acc
      rw [List.foldl_cons]
      refine Nat.le_trans (ih _) ?_
      unfold prd1
      split <;> simp <;> omega
  have := H l []
  rw [List.length_nil, Nat.zero_add] at this
  exact this
theorem underkv_of {k : Nat} {ks : List Nat} {v : Nat → V} (h : ∀ a, a ∈ ks → V.under k (v a) = true) : V.underkv k (kvOf ks v) = true := by
  induction ks with
  | nil => rfl
  | cons a r ih =>
    show (V.under k (v a) && V.underkv k (kvOf r v)) = true
    rw [h a (List.mem_cons_self ..), ih fun b hb => h b (List.mem_cons_of_mem _ hb)]; rfl
theorem PM.unders {n0 : Nat} {σ : List (List V)} {j : Nat} {ks : List Nat} {P : Nat → List Nat} {g : Nat → Nat} {C : Nat → List Nat} (h : PM n0 σ j ks P g C) : V.unders σ.length [.mapc false (kvOf ks fun k => .bsc (g k) (P k).length (C k).length)] = true := by
  simp only [V.unders, V.under, Bool.and_true]
  exact underkv_of fun a ha => by simpa [V.under] using h.lt.2 a ha
def PredV (σ : List (List V)) (l : Prs) : Out → List (List V) → Prop := fun o σ' => o = .ret (.mp σ.length) ∧ σ'.take σ.length = σ ∧ boxesBelow σ'.length σ' = true ∧ ∃ ks g C, PM σ.length σ' σ.length ks (preds l) g C ∧ ∀ k ∈ ks, preds l k ≠ []
set_option maxHeartbeats 4000000 in
theorem pred_fun (n : Nat) (l : Prs) (hn : n ≤ 64) (hl : ∀ a b, RL l a b → a < n ∧ b < n) (hll : l.length ≤ 1000000) (σ : List (List V)) : Fun G 23 [.d (dprs l)] σ (PredV σ l) := by
  refine fun_code Try.func23 k23 rfl fun hb hw => ?_
  unfold c23
  rw [dprs_eq]
  simp -dsimp -implicitDefEqProofs only [aw, slots0, V.copy, V.lend, V.lend1, V.cells, V.boxable, over, bldV, boundV, rowsOf, plains, V.plain, Nat.reduceLeDiff, cond_true, cond_false, implies_true, eq_self, ne_eq, reduceIte, reduceCtorEq, Nat.reduceBEq, Nat.reduceLT, Nat.reduceEqDiff, Nat.reduceAdd, Nat.reduceSub, Nat.reduceMul]
  refine awp_forK [3, 7, 8, 9] (fun (k : Nat) ρ σ' => ρ = [(3, .mp σ.length), (7, .d (.sl (l.map fun p => [dint p.1, dint p.2]))), (8, vint .i64 l.length), (9, vint .i64 k)] ∧ σ'.take σ.length = σ ∧ boxesBelow σ'.length σ' = true ∧ ∃ ks g C, PM σ.length σ' σ.length ks (preds (l.take k)) g C ∧ ∀ k' ∈ ks, preds (l.take k) k' ≠ []) l.length ⟨by simp [get, keepOnly], by simp, by
      exact bb_push hb _ fun c hc => by rw [List.mem_singleton.1 hc]; rfl, [], fun _ => 0, fun _ => [], ⟨by rw [box_at0]; rfl, Nat.le_refl _, List.nodup_nil, fun k _ => rfl, fun k hk => (by cases hk), fun a b ha => (by cases ha), fun k hk => (by cases hk)⟩, fun k hk => (by cases hk)⟩ ?_ _
  rintro k ρ' σ' hk ⟨rfl, htk, hbb, ks, g, C, hP, hne⟩
  by_cases hlt : k < l.length
  · have hat : l[k]? = some l[k] := List.getElem?_eq_getElem hlt
    have hab := hl l[k].1 l[k].2 (List.getElem_mem hlt)
    have hpu := fun a b e => preds_upd hlt (a := a) (b := b) e
    have hpl : ∀ b, (preds (l.take k) b).length ≤ k := fun b => Nat.le_trans (preds_len _ _) (by simp; omega)
    generalize l[k] = p at hat hab hpu
    obtain ⟨a, b⟩ := p
    obtain ⟨ha, hb2⟩ := hab
    have hpu := hpu a b rfl
    generalize preds (l.take k) = P at hP hne hpu hpl
    have hm := box_old hP.mp [[V.d (dint a), V.d (dint b)]]
    have hwk := wrap_nat hlt (show l.length ≤ 9223372036854775807 by omega)
    have hs1 : σ'[σ'.length]? = none := by simp
    have hbb1 : boxesBelow (σ' ++ [[V.d (dint a), V.d (dint b)]]).length (σ' ++ [[V.d (dint a), V.d (dint b)]]) = true := bb_push hbb _ fun c hc => by rw [List.mem_singleton.1 hc]; rfl
    have htk1 : (σ' ++ [[V.d (dint a), V.d (dint b)]]).take σ.length = σ := by rw [List.take_append_of_le_length (take_le htk)]; exact htk
    have hP1 := hP.push [[V.d (dint a), V.d (dint b)]]
    have hle := take_le htk
    have hmm := fun x => box_old hP.mp x
    have gen : ∀ (X : List (List V)) (i m c : Nat) (E : List Nat), (P b).contains a = false → m = (P b ++ [a]).length → c = E.length → σ.length < X.length → (∀ k, k ∈ ks → k ≠ b → X[g k]? = σ'[g k]? ∧ g k ≠ i) → X[i]? = some (vis E) → E.take (P b ++ [a]).length = P b ++ [a] → σ.length ≤ i → i ≠ σ.length → X.take σ.length = σ → boxesBelow X.length X = true →
        k < l.length ∧ Nxt σ.length (fun ρ σ' => ρ = [(3, .mp σ.length), (7, .d (.sl (l.map fun p => [dint p.1, dint p.2]))), (8, vint .i64 l.length), (9, vint .i64 (k + 1 : Nat))] ∧ σ'.take σ.length = σ ∧ boxesBelow σ'.length σ' = true ∧ ∃ ks g C, PM σ.length σ' σ.length ks (preds (l.take (k + 1))) g C ∧ ∀ k' ∈ ks, preds (l.take (k + 1)) k' ≠ [])
          [(3, V.mp σ.length), (7, V.d (.sl (List.map (fun p => [dint p.1, dint p.2]) l))), (8, vint IntKind.i64 (l.length : Nat)), (9, vint IntKind.i64 (k + 1 : Nat))] (X.set σ.length [.mapc false (mput (.i (b : Int)) (.bsc i m c) (kvOf ks fun k => .bsc (g k) (P k).length (C k).length))]) .mk := by
      intro X i m c E h0 hm hcE h1 h2 h3 h4 h5 h6 h7 h8
      subst hm; subst hcE
      have hPn := hP.put (σ2 := X.set σ.length [.mapc false (mput (.i (b : Int)) (.bsc i (P b ++ [a]).length E.length) (kvOf ks fun k => .bsc (g k) (P k).length (C k).length))]) b i (P b ++ [a]) E (List.getElem?_set_self h1) (fun k hk he => by rw [List.getElem?_set_ne (Ne.symm (hP.gn k hk).2)]; exact h2 k hk he) (by rw [List.getElem?_set_ne (Ne.symm h6)]; exact h3) h4 h5 h6
      have hun := hPn.unders
      have hmp := hPn.mp
      rw [List.getElem?_set_self h1] at hmp
      rw [← Option.some.inj hmp, List.length_set] at hun
      have hb3 := bb_set (i := σ.length) h8 hun
      have hb3' := hb3
      rw [← List.length_set (i := σ.length) (a := [.mapc false (mput (.i (b : Int)) (.bsc i (P b ++ [a]).length E.length) (kvOf ks fun k => .bsc (g k) (P k).length (C k).length))])] at hb3'
      have ht3 : (X.set σ.length [.mapc false (mput (.i (b : Int)) (.bsc i (P b ++ [a]).length E.length) (kvOf ks fun k => .bsc (g k) (P k).length (C k).length))]).take σ.length = σ := by rw [take_set_ge (Nat.le_refl _)]; exact h7
      have hpp : preds (l.take (k + 1)) = upd P b (P b ++ [a]) := by rw [hpu, if_neg (by rw [← List.contains_iff_mem, h0]; simp)]
      refine ⟨hlt, Nxt.same (by rw [List.length_set]; omega) hb3' (by simp [slotsBelow, V.under]; omega) ⟨rfl, ht3, hb3', if b ∈ ks then ks else ks ++ [b], upd g b i, upd C b E, by rw [hpp]; exact hPn, ?_⟩⟩
      · intro k' hk'
        rw [hpp]
        by_cases e : k' = b
        · subst e; rw [upd_self]; simp
        · rw [upd_ne _ _ e]
          refine hne k' ?_
          split at hk'
          · exact hk'
          · rcases List.mem_append.1 hk' with h | h
            · exact h
            · exact absurd (List.mem_singleton.1 h) e
    rcases hP.look b with ⟨hnk, hPb, hmg⟩ | ⟨hbk, hmg⟩
    · simp -dsimp -implicitDefEqProofs only [aw, slots0, V.copy, V.lend, V.lend1, V.cells, V.boxable, over, bldV, boundV, rowsOf, plains, V.plain, Nat.reduceLeDiff, cond_true, cond_false, implies_true, eq_self, ne_eq, reduceIte, reduceCtorEq, Nat.reduceBEq, Nat.reduceLT, Nat.reduceEqDiff, Nat.reduceAdd, Nat.reduceSub, Nat.reduceMul, Int.ofNat_lt, hlt, decide_true, prs_at hat, iaK_some, aa0, aa1, ab0, ab1, abr0, abr1, hm, hmg]
      refine fun_ret (contains_fun _ [] a (by simp) _ (IR.d [])) ?_
      have hfl : [[dint (a : Int)]].flatten = [dint a] := rfl
      simp -dsimp -implicitDefEqProofs only [aw, slots0, V.copy, V.lend, V.lend1, V.cells, V.boxable, over, bldV, boundV, rowsOf, plains, V.plain, Nat.reduceLeDiff, cond_true, cond_false, implies_true, eq_self, ne_eq, reduceIte, reduceCtorEq, Nat.reduceBEq, Nat.reduceLT, Nat.reduceEqDiff, Nat.reduceAdd, Nat.reduceSub, Nat.reduceMul, List.contains_nil, Bool.not_false, aa0, aa1, ab0, ab1, hm, hmg, box_at0, hfl, List.map_cons, List.map_nil, List.length_cons, List.length_nil]
      intro c hc
      simp -dsimp -implicitDefEqProofs only [aw, slots0, V.copy, V.lend, V.lend1, V.cells, V.boxable, over, bldV, boundV, rowsOf, plains, V.plain, Nat.reduceLeDiff, cond_true, cond_false, implies_true, eq_self, ne_eq, reduceIte, reduceCtorEq, Nat.reduceBEq, Nat.reduceLT, Nat.reduceEqDiff, Nat.reduceAdd, Nat.reduceSub, Nat.reduceMul, aa0, aa1, ab0, ab1, hmm, hmg, box_at0, hwk]
      have hlg := hP.lt.2
      have hjl := hP.lt.1
      refine gen _ (σ'.length + 1) 1 c (a :: List.replicate (c - 1) 0) (by rw [hPb]; rfl) (by rw [hPb]; rfl) (by simp; omega) (by simp; omega) (fun k hk he => ⟨List.getElem?_append_left (hlg k hk), by have := hlg k hk; omega⟩) (by rw [box_at]; simp [vis]) (by rw [hPb]; rfl) (by omega) (by omega) (by rw [List.take_append_of_le_length hle]; exact htk) ?_
      refine bb_push hbb _ fun x hx => ?_
      simp only [List.mem_cons, List.not_mem_nil, or_false] at hx
      rcases hx with rfl | rfl
      · rfl
      · have := vis_unders (σ' ++ [[V.d (dint a), V.d (dint b)], V.d (dint a) :: List.replicate (c - 1) (V.d (D.lit (Value.int IntKind.i64 0)))]).length (a :: List.replicate (c - 1) 0)
        simpa [vis] using this
    · simp -dsimp -implicitDefEqProofs only [aw, slots0, V.copy, V.lend, V.lend1, V.cells, V.boxable, over, bldV, boundV, rowsOf, plains, V.plain, Nat.reduceLeDiff, cond_true, cond_false, implies_true, eq_self, ne_eq, reduceIte, reduceCtorEq, Nat.reduceBEq, Nat.reduceLT, Nat.reduceEqDiff, Nat.reduceAdd, Nat.reduceSub, Nat.reduceMul, Int.ofNat_lt, hlt, decide_true, prs_at hat, iaK_some, aa0, aa1, ab0, ab1, abr0, abr1, hm, hmg]
      refine fun_ret (contains_fun _ (P b) a (by have := hpl b; omega) _ (IR.bsc (hP1.box b hbk).1 (hP1.box b hbk).2)) ?_
      cases hc : (P b).contains a
      · have hfl : [[dint (a : Int)]].flatten = [dint a] := rfl
        simp -dsimp -implicitDefEqProofs only [aw, slots0, V.copy, V.lend, V.lend1, V.cells, V.boxable, over, bldV, boundV, rowsOf, plains, V.plain, Nat.reduceLeDiff, cond_true, cond_false, implies_true, eq_self, ne_eq, reduceIte, reduceCtorEq, Nat.reduceBEq, Nat.reduceLT, Nat.reduceEqDiff, Nat.reduceAdd, Nat.reduceSub, Nat.reduceMul, Bool.not_false, aa0, aa1, ab0, ab1, hm, hmg, box_at0, hfl, List.map_cons, List.map_nil, List.length_cons, List.length_nil]
        have hcs := (hP1.box b hbk).1
        have hgl := hP.lt.2 b hbk
        have hgn := hP.gn b hbk
        have hpb := hpl b
        have hst1 : ∀ x : List V, ((σ' ++ [[V.d (dint a), V.d (dint b)]]).set (g b) x)[σ.length]? = some [.mapc false (kvOf ks fun k => .bsc (g k) (P k).length (C k).length)] := fun x => by rw [List.getElem?_set_ne hgn.2]; exact hm
        have hst2 : ∀ x : List V, ((σ' ++ [[V.d (dint a), V.d (dint b)]]).set (g b) x)[σ'.length]? = some [V.d (dint a), V.d (dint b)] := fun x => by rw [List.getElem?_set_ne (by omega), box_at0]; rfl
        refine avT_bsc hcs ⟨by simp, vis_noMap _, by simp; omega⟩ (fun h => ?_) (fun h c' hc' => ?_)
        · have h : (P b).length + 1 ≤ (C b).length := h
          have hvs : List.take (P b).length (vis (C b)) ++ V.d (dint (a : Nat)) :: List.drop ((P b).length + 1) (vis (C b)) = vis ((C b).set (P b).length a) := vis_set h a
          simp -dsimp -implicitDefEqProofs only [aw, slots0, V.copy, V.lend, V.lend1, V.cells, V.boxable, over, bldV, boundV, rowsOf, plains, V.plain, Nat.reduceLeDiff, cond_true, cond_false, implies_true, eq_self, ne_eq, reduceIte, reduceCtorEq, Nat.reduceBEq, Nat.reduceLT, Nat.reduceEqDiff, Nat.reduceAdd, Nat.reduceSub, Nat.reduceMul, aa0, aa1, ab0, ab1, hst1, hst2, hmg, hwk]
          rw [hvs]
          refine gen _ (g b) ((P b).length + 1) (C b).length ((C b).set (P b).length a) hc (by simp) (by simp) (by simp; omega) (fun k hk he => ?_) (List.getElem?_set_self (by simp; omega)) ?_ hgn.1 hgn.2 (by rw [take_set_ge hgn.1]; exact htk1) ?_
          · have hne2 : g k ≠ g b := fun e => he (hP.inj k b hk hbk e)
            exact ⟨by rw [List.getElem?_set_ne (Ne.symm hne2)]; exact List.getElem?_append_left (hP.lt.2 k hk), hne2⟩
          · rw [List.length_append, List.length_singleton, List.take_add_one, List.getElem?_set_self h, List.take_set_of_le (Nat.le_refl _), (hP.box b hbk).2]; rfl
          · rw [List.length_set]; exact bb_set hbb1 (vis_unders _ _)
        · have hcv : List.map V.copy (List.take (P b).length (vis (C b))) = vis (P b) := by
            rw [← List.map_take, (hP.box b hbk).2, List.map_map]; rfl
          simp -dsimp -implicitDefEqProofs only [aw, slots0, V.copy, V.lend, V.lend1, V.cells, V.boxable, over, bldV, boundV, rowsOf, plains, V.plain, Nat.reduceLeDiff, cond_true, cond_false, implies_true, eq_self, ne_eq, reduceIte, reduceCtorEq, Nat.reduceBEq, Nat.reduceLT, Nat.reduceEqDiff, Nat.reduceAdd, Nat.reduceSub, Nat.reduceMul, aa0, aa1, ab0, ab1, hmm, hmg, box_at0, hwk]
          have hc' : (P b).length + 1 ≤ c' := hc'
          have hlg := hP.lt.2
          have hev : vis (P b) ++ V.d (dint (a : Nat)) :: List.replicate (c' - ((P b).length + 1)) (V.d (D.lit (Value.int IntKind.i64 0))) = vis (P b ++ a :: List.replicate (c' - ((P b).length + 1)) 0) := by simp [vis]
          rw [hcv, hev]
          refine gen _ (σ'.length + 1) ((P b).length + 1) c' (P b ++ a :: List.replicate (c' - ((P b).length + 1)) 0) hc (by simp) (by simp; omega) (by simp; omega) (fun k hk he => ⟨List.getElem?_append_left (hlg k hk), by have := hlg k hk; omega⟩) (by rw [box_at]; rfl) ?_ (by omega) (by omega) (by rw [List.take_append_of_le_length hle]; exact htk) ?_
          · rw [List.length_append, List.length_singleton, List.take_append]; simp; exact List.take_of_length_le (by omega)
          · refine bb_push hbb _ fun x hx => ?_
            simp only [List.mem_cons, List.not_mem_nil, or_false] at hx
            rcases hx with rfl | rfl
            · rfl
            · exact vis_unders _ _
      · simp -dsimp -implicitDefEqProofs only [aw, slots0, V.copy, V.lend, V.lend1, V.cells, V.boxable, over, bldV, boundV, rowsOf, plains, V.plain, Nat.reduceLeDiff, cond_true, cond_false, implies_true, eq_self, ne_eq, reduceIte, reduceCtorEq, Nat.reduceBEq, Nat.reduceLT, Nat.reduceEqDiff, Nat.reduceAdd, Nat.reduceSub, Nat.reduceMul, Bool.not_true, hwk]
        refine ⟨hlt, Nxt.same (by simp; omega) hbb1 (by simp [slotsBelow, V.under]; omega) ⟨rfl, htk1, hbb1, ks, g, C, ?_, ?_⟩⟩
        · rw [hpu, if_pos (by rw [← List.contains_iff_mem]; exact hc)]; exact hP1
        · rw [hpu, if_pos (by rw [← List.contains_iff_mem]; exact hc)]; exact hne
  · have e : l.length = k := by omega
    subst e
    rw [List.take_length] at hP hne
    have hjl := hP.lt.1
    simp -dsimp -implicitDefEqProofs only [aw, slots0, V.copy, V.lend, V.lend1, V.cells, V.boxable, over, bldV, boundV, rowsOf, plains, V.plain, Nat.reduceLeDiff, cond_true, cond_false, implies_true, eq_self, ne_eq, reduceIte, reduceCtorEq, Nat.reduceBEq, Nat.reduceLT, Nat.reduceEqDiff, Nat.reduceAdd, Nat.reduceSub, Nat.reduceMul, Int.ofNat_lt, Nat.lt_irrefl, decide_false]
    exact ⟨_, _, .refl _ _ _, .mp σ.length, rfl, σ'.length, by omega, by rw [List.take_length]; exact hbb, by simpa [V.under] using hjl, by rw [List.take_length]; exact ⟨rfl, htk, hbb, ks, g, C, hP, hne⟩⟩
end Go.Proofs.Ytinenohgemndiaa
