/-
  The reference's closure.
-/
import Derived.Test.YtinenohgemndiaaGv3
set_option linter.unusedVariables false
set_option linter.unusedSimpArgs false
set_option linter.unusedSectionVars false
namespace Go.Proofs.Ytinenohgemndiaa
open Go.RowKit
theorem v_src_bk {σ : List (List V)} (i n c : Nat) : srcV σ (.bsc i n c) = srcK n 0 σ[i]? := by
  unfold srcV srcK cellsV
  simp only
  cases σ[i]? with
  | none => rfl
  | some cs => simp only; split <;> rfl
theorem avT_bsc {σ : List (List V)} {i m c : Nat} {src cs : List V} {bytes : Nat} {z : V} {f : V → List (List V) → Prop} {t : Tag f} (hs : σ[i]? = some cs) (h1 : cs.length = c ∧ noMap cs = true ∧ (m + src.length) * bytes ≤ 140737488355328)
    (h2 : m + src.length ≤ c → f (.bsc i (m + src.length) c) (σ.set i (over cs m src))) (h3 : c < m + src.length → ∀ c', m + src.length ≤ c' → f (.bsc σ.length (m + src.length) c') (σ ++ [(cs.take m).map V.copy ++ src ++ List.replicate (c' - (m + src.length)) z])) : avT (.bsc i m c) src bytes z σ f t := by
  unfold avT appvR
  simp only [hs]
  exact ⟨h1, h2, h3⟩
theorem Shift.weak (n0 : Nat) {ρ ρ' : Slots} (σ : List (List V)) (h : ∀ t, get ρ' t = get ρ t ∨ ∃ i n c, get ρ t = .bsc i n c ∧ get ρ' t = .bsl i 0 n 1) : Shift n0 ρ σ ρ' σ := fun M bm tk pr n a w hs =>
  ⟨M, bm, ⟨hs.inv, hs.defers, hs.size, fun t => by
    rcases h t with e | ⟨i, m, c, e1, e2⟩
    · rw [e]; exact hs.slots t
    · have := (hs.slots t).rep
      rw [e1] at this
      rw [e2]
      generalize a.tmps.getD t undef = v at this ⊢
      cases this with
      | bsc h1 h2 h3 => exact ⟨.bsl h1 h2 h3, fun _ _ _ e => by cases e⟩⟩, fun _ _ _ _ hl => hl⟩
theorem tset_same {n : Nat} {t : List (List Bool)} (h : Sq n t) {i j : Nat} (hi : i < n) (hj : j < n) : tset t i j (tget t i j) = t := by
  have h1 := h.get hi hj
  have h2 : t[i]? = some (t[i]?.getD []) := by rw [List.getElem?_eq_getElem (by rw [h.len]; exact hi)]; rfl
  unfold tset
  generalize t[i]?.getD [] = r at h1 h2 ⊢
  have e : r.set j (tget t i j) = r := by
    apply List.ext_getElem?
    intro q
    by_cases hq : j = q
    · subst hq; rw [List.getElem?_set_self (List.getElem?_eq_some_iff.1 h1).1, h1]
    · rw [List.getElem?_set_ne hq]
  rw [e]
  apply List.ext_getElem?
  intro q
  by_cases hq : i = q
  · subst hq; rw [List.getElem?_set_self (List.getElem?_eq_some_iff.1 h2).1, h2]
  · rw [List.getElem?_set_ne hq]
theorem abr0 (cs : List D) : (if (0 : Int) ≤ 0 ∧ (0 : Int) < ((2 : Nat) : Int) then some (V.row cs (Int.toNat 0)) else none) = some (V.row cs 0) := rfl
theorem abr1 (cs : List D) : (if (0 : Int) ≤ 1 ∧ (1 : Int) < ((2 : Nat) : Int) then some (V.row cs (Int.toNat 1)) else none) = some (V.row cs 1) := rfl
structure PT (n0 : Nat) (σ : List (List V)) (i n j c : Nat) (f : Nat → Nat) : Prop where
  i0 : n0 ≤ i
  f0 : ∀ a, a < j → n0 ≤ f a
  hi : ∃ cs, σ[i]? = some cs ∧ noMap cs = true ∧ cs.length = c ∧ ∀ a, a < j → cs[a]? = some (V.bsl (f a) 0 n 1)
  row : ∀ a, a < j → σ[f a]? = some (vbs (List.replicate n false))
  inj : ∀ a b, a < j → b < j → f a = f b → a = b
  ni : ∀ a, a < j → f a ≠ i
  jc : j ≤ c
def PX (n0 : Nat) (σ : List (List V)) (n j : Nat) (x : V) : Prop := (j = 0 ∧ x = .nil) ∨ (0 < j ∧ ∃ i c f, x = .bsc i j c ∧ PT n0 σ i n j c f)
theorem noMap_first {cs : List V} {n : Nat} {g : Nat} (h : cs[0]? = some (V.bsl g 0 n 1)) : noMap cs = true := by
  match cs, h with
  | c :: r, h =>
    have : c = V.bsl g 0 n 1 := by simpa using h
    subst this; rfl
theorem PT.next {n0 : Nat} {σ σ3 : List (List V)} {n j i' c' g : Nat} {f : Nat → Nat} {cs' : List V} (hf : ∀ a, a < j → n0 ≤ f a ∧ f a < σ.length ∧ f a ≠ i') (hinj : ∀ a b, a < j → b < j → f a = f b → a = b) (hg : σ.length ≤ g) (hgi : g ≠ i') (hi' : n0 ≤ i') (hn0 : n0 ≤ σ.length)
    (h1 : σ3[i']? = some cs') (h2 : cs'.length = c') (h3 : ∀ a, a < j → cs'[a]? = some (V.bsl (f a) 0 n 1)) (h4 : cs'[j]? = some (V.bsl g 0 n 1)) (h5 : ∀ a, a < j → σ3[f a]? = some (vbs (List.replicate n false))) (h6 : σ3[g]? = some (vbs (List.replicate n false))) :
    PT n0 σ3 i' n (j + 1) c' (fun a => if a = j then g else f a) := by
  have hat : ∀ a, a < j + 1 → cs'[a]? = some (V.bsl (if a = j then g else f a) 0 n 1) := fun a ha => by
    by_cases e : a = j
    · rw [if_pos e, e]; exact h4
    · rw [if_neg e]; exact h3 a (by omega)
  refine ⟨hi', fun a ha => ?_, ⟨cs', h1, noMap_first (hat 0 (by omega)), h2, hat⟩, fun a ha => ?_, fun a b ha hb e => ?_, fun a ha => ?_, ?_⟩
  · (try dsimp only); split
    · omega
    · exact (hf a (by omega)).1
  · (try dsimp only); split
    · exact h6
    · exact h5 a (by omega)
  · (try dsimp only at e)
    split at e <;> split at e
    · omega
    · have := (hf b (by omega)).2.1; omega
    · have := (hf a (by omega)).2.1; omega
    · exact hinj a b (by omega) (by omega) e
  · (try dsimp only); split
    · exact hgi
    · exact (hf a (by omega)).2.2
  · have := (List.getElem?_eq_some_iff.1 h4).1; omega
theorem PT.lt {n0 : Nat} {σ : List (List V)} {i n j c : Nat} {f : Nat → Nat} (h : PT n0 σ i n j c f) : i < σ.length ∧ ∀ a, a < j → f a < σ.length := by
  obtain ⟨cs, h1, -⟩ := h.hi
  exact ⟨(List.getElem?_eq_some_iff.1 h1).1, fun a ha => (List.getElem?_eq_some_iff.1 (h.row a ha)).1⟩
theorem PT.tb {n0 : Nat} {σ : List (List V)} {i n c : Nat} {f : Nat → Nat} (h : PT n0 σ i n n c f) (hb : boxesBelow σ.length σ = true) : TB n0 σ i n f (List.replicate n (List.replicate n false)) := by
  obtain ⟨cs, h1, h2, -, h3⟩ := h.hi
  exact ⟨ini_sq n, h.i0, h.f0, ⟨cs, h1, h2, h3⟩, fun a ha => by rw [h.row a ha]; simp [ha], h.inj, h.ni, hb⟩
theorem bb_push {σ : List (List V)} (h : boxesBelow σ.length σ = true) (l : List (List V)) (hl : ∀ c, c ∈ l → V.unders (σ ++ l).length c = true) : boxesBelow (σ ++ l).length (σ ++ l) = true :=
  boxesBelow_app h (by rw [List.all_eq_true]; exact hl)
theorem unders_over {k : Nat} {cs : List V} (h : V.unders k cs = true) {x : V} (hx : V.under k x = true) (j : Nat) : V.unders k (List.take j cs ++ x :: List.drop (j + 1) cs) = true := V.unders_of fun i hi => by
  have hall : ∀ c, c ∈ cs → V.under k c = true := fun c hc => by obtain ⟨i, hi, rfl⟩ := List.getElem_of_mem hc; exact V.unders_get h i hi
  have hm := List.getElem_mem hi
  rcases List.mem_append.1 hm with h1 | h1
  · exact hall _ (List.mem_of_mem_take h1)
  · rcases List.mem_cons.1 h1 with h1 | h1
    · rw [h1]; exact hx
    · exact hall _ (List.mem_of_mem_drop h1)
theorem bb_at {σ : List (List V)} {k i : Nat} (h : boxesBelow k σ = true) {cs : List V} (hc : σ[i]? = some cs) : V.unders k cs = true := by
  unfold boxesBelow at h
  rw [List.all_eq_true] at h
  exact h cs (List.mem_of_getElem? hc)
theorem under_copy {k : Nat} {x : V} (h : V.under k x = true) : V.under k x.copy = true := by cases x <;> first | exact h | rfl
set_option maxHeartbeats 4000000 in
theorem refReach_pos (n : Nat) (lr : Prs) (hn0 : 0 < n) (hn : n ≤ 64) (hl : ∀ a b, RL lr a b → a < n ∧ b < n) (hll : lr.length ≤ 1000000) (hv : validR n (lr.map fun q => ((q.1 : Int), (q.2 : Int))) = true) (σ : List (List V)) : Fun G 20 [.d (dint n), .d (dprs lr)] σ (RetV (.d (dtab (clo n lr))) σ) := by
  refine fun_code Try.func20 k20 rfl fun hb hw => ?_
  unfold c20
  have hi1 : (0 : Int) ≤ ((n : Nat) : Int) ∧ ((n : Nat) : Int) * ((1 : Nat) : Int) ≤ 140737488355328 := by omega
  simp -dsimp -implicitDefEqProofs only [aw, slots0, V.copy, V.lend, V.lend1, V.cells, V.boxable, over, bldV, boundV, rowsOf, plains, V.plain, Nat.reduceLeDiff, cond_true, cond_false, implies_true, eq_self, ne_eq, reduceIte, reduceCtorEq, Nat.reduceBEq, Nat.reduceLT, Nat.reduceEqDiff, Nat.reduceAdd, Nat.reduceSub, Nat.reduceMul]
  refine fun_ret (refvalid_fun n _ (by simpa using hll) _) ?_
  simp -dsimp -implicitDefEqProofs only [aw, slots0, V.copy, V.lend, V.lend1, V.cells, V.boxable, over, bldV, boundV, rowsOf, plains, V.plain, Nat.reduceLeDiff, cond_true, cond_false, implies_true, eq_self, ne_eq, reduceIte, reduceCtorEq, Nat.reduceBEq, Nat.reduceLT, Nat.reduceEqDiff, Nat.reduceAdd, Nat.reduceSub, Nat.reduceMul, hv]
  refine awp_forK [0, 1, 5, 6] (fun (j : Nat) ρ σ' => ∃ x, ρ = [(0, .d (dint n)), (1, .d (dprs lr)), (5, x), (6, vint .i64 j)] ∧ σ'.take σ.length = σ ∧ boxesBelow σ'.length σ' = true ∧ PX σ.length σ' n j x) n ⟨_, rfl, List.take_length, hb, .inl ⟨rfl, rfl⟩⟩ ?_ _
  · rintro j ρ' σ' hj ⟨x, rfl, htk, hbb, hx⟩
    have hle := take_le htk
    by_cases hlt : j < n
    · rcases hx with ⟨rfl, rfl⟩ | ⟨hj0, i, c, f, rfl, hP⟩
      · simp -dsimp -implicitDefEqProofs only [aw, slots0, V.copy, V.lend, V.lend1, V.cells, V.boxable, over, bldV, boundV, rowsOf, plains, V.plain, Nat.reduceLeDiff, cond_true, cond_false, implies_true, eq_self, ne_eq, reduceIte, reduceCtorEq, Nat.reduceBEq, Nat.reduceLT, Nat.reduceEqDiff, Nat.reduceAdd, Nat.reduceSub, Nat.reduceMul, Int.ofNat_lt, hlt, decide_true, hi1, Int.toNat_natCast, v_src_bk, ones_bsl, ones_nil, wrap_nat hlt (show n ≤ 9223372036854775807 by omega)]
        intro c hc
        have hbb2 : boxesBelow (σ' ++ [List.replicate n (V.d (D.lit (Value.bool false))), [V.bsl σ'.length 0 n 1], V.bsl σ'.length 0 n 1 :: List.replicate (c - 1) V.nil]).length (σ' ++ [List.replicate n (V.d (D.lit (Value.bool false))), [V.bsl σ'.length 0 n 1], V.bsl σ'.length 0 n 1 :: List.replicate (c - 1) V.nil]) = true := by
          refine bb_push hbb _ fun x hx => ?_
          simp only [List.mem_cons, List.not_mem_nil, or_false] at hx
          rcases hx with rfl | rfl | rfl
          · exact V.unders_of fun i hi => by rw [List.getElem_replicate]; rfl
          · simp [V.unders, V.under]
          · refine V.unders_of fun i hi => ?_
            cases i with
            | zero => simp [V.under]
            | succ i => simp only [List.getElem_cons_succ, List.getElem_replicate]; rfl
        refine Nxt.same (by simp; omega) hbb2 (by simp [slotsBelow, V.under]) ⟨_, rfl, by rw [List.take_append_of_le_length hle]; exact htk, hbb2, .inr ⟨by omega, _, _, _, rfl, PT.next (σ := σ') (g := σ'.length) (f := fun _ => 0) (fun a ha => by omega) (fun a b ha => by omega) (Nat.le_refl _) (by omega) (by omega) hle
          (by rw [show σ'.length + 2 = σ'.length + (2 : Nat) from rfl, box_at]; rfl) (by simp; omega) (fun a ha => by omega) rfl (fun a ha => by omega) (by rw [box_at0]; simp [vbs])⟩⟩
      · obtain ⟨cs, hcs, hnm, hcl, hcat⟩ := hP.hi
        obtain ⟨li, lf⟩ := hP.lt
        have hjc := hP.jc
        have hbc := bb_at hbb hcs
        have gen : ∀ (c' i' : Nat) (cs' : List V) (σ3 : List (List V)), σ'.length + 1 ≤ σ3.length → boxesBelow σ3.length σ3 = true → σ3.take σ.length = σ → (∀ a, a < j → f a ≠ i') → i' ≠ σ'.length → σ.length ≤ i' → i' < σ3.length → σ3[i']? = some cs' → cs'.length = c' → (∀ a, a < j → cs'[a]? = some (V.bsl (f a) 0 n 1)) → cs'[j]? = some (V.bsl σ'.length 0 n 1) →
            (∀ a, a < j → σ3[f a]? = some (vbs (List.replicate n false))) → σ3[σ'.length]? = some (vbs (List.replicate n false)) →
            j < n ∧ Nxt σ.length (fun ρ σ' => ∃ x, ρ = [(0, V.d (dint n)), (1, V.d (dprs lr)), (5, x), (6, vint IntKind.i64 (j + 1 : Nat))] ∧ List.take σ.length σ' = σ ∧ boxesBelow σ'.length σ' = true ∧ PX σ.length σ' n (j + 1) x) [(0, V.d (dint n)), (1, V.d (dprs lr)), (5, V.bsc i' (j + 1) c'), (6, vint IntKind.i64 (j + 1 : Nat))] σ3 .mk := by
          intro c' i' cs' σ3 g0 g1 g2 g3 g4 g5 g6 g7 g8 g9 g10 g11 g12
          exact ⟨hlt, Nxt.same (by omega) g1 (by simp [slotsBelow, V.under]; exact g6) ⟨_, rfl, g2, g1, .inr ⟨by omega, _, _, _, rfl, PT.next (σ := σ') (g := σ'.length) (f := f) (fun a ha => ⟨hP.f0 a ha, lf a ha, g3 a ha⟩) hP.inj (Nat.le_refl _) (Ne.symm g4) g5 hle g7 g8 g9 g10 g11 g12⟩⟩⟩
        simp -dsimp -implicitDefEqProofs only [aw, slots0, V.copy, V.lend, V.lend1, V.cells, V.boxable, over, bldV, boundV, rowsOf, plains, V.plain, Nat.reduceLeDiff, cond_true, cond_false, implies_true, eq_self, ne_eq, reduceIte, reduceCtorEq, Nat.reduceBEq, Nat.reduceLT, Nat.reduceEqDiff, Nat.reduceAdd, Nat.reduceSub, Nat.reduceMul, Int.ofNat_lt, hlt, decide_true, hi1, Int.toNat_natCast, v_src_bk, ones_bsl, ones_nil, wrap_nat hlt (show n ≤ 9223372036854775807 by omega)]
        refine avT_bsc (box_old hcs _) ⟨hcl, hnm, by simp; omega⟩ (fun h => ?_) (fun h c' hc' => ?_)
        · simp -dsimp -implicitDefEqProofs only [aw, slots0, V.copy, V.lend, V.lend1, V.cells, V.boxable, over, bldV, boundV, rowsOf, plains, V.plain, Nat.reduceLeDiff, cond_true, cond_false, implies_true, eq_self, ne_eq, reduceIte, reduceCtorEq, Nat.reduceBEq, Nat.reduceLT, Nat.reduceEqDiff, Nat.reduceAdd, Nat.reduceSub, Nat.reduceMul, wrap_nat hlt (show n ≤ 9223372036854775807 by omega), set_old hcs]
          have h : j + 1 ≤ c := h
          have e3 := set_old hcs [List.replicate n (V.d (D.lit (Value.bool false))), [V.bsl σ'.length 0 n 1]] (List.take j cs ++ V.bsl σ'.length 0 n 1 :: List.drop (j + 1) cs)
          have htl : (List.take j cs).length = j := by simp; omega
          refine gen c i (List.take j cs ++ V.bsl σ'.length 0 n 1 :: List.drop (j + 1) cs) _ (by simp) ?_ ?_ (fun a ha => hP.ni a ha) (by omega) hP.i0 (by simp; omega) ?_ (by simp; omega) (fun a ha => ?_) ?_ (fun a ha => ?_) ?_
          · rw [← e3, List.length_set]
            refine bb_set (bb_push hbb _ fun x hx => ?_) (unders_over (by
              have := boxesBelow_mono hbb (j := σ'.length + 2) (by omega)
              simpa using bb_at this hcs) (by simp [V.under]) j)
            simp only [List.mem_cons, List.not_mem_nil, or_false] at hx
            rcases hx with rfl | rfl
            · exact V.unders_of fun i hi => by rw [List.getElem_replicate]; rfl
            · simp [V.unders, V.under]
          · rw [← e3, take_set_ge hP.i0, List.take_append_of_le_length hle]; exact htk
          · rw [List.getElem?_append_left (by rw [List.length_set]; exact li), List.getElem?_set_self li]
          · rw [List.getElem?_append_left (by omega), List.getElem?_take_of_lt ha]; exact hcat a ha
          · rw [List.getElem?_append_right (by omega), htl, Nat.sub_self]; rfl
          · rw [List.getElem?_append_left (by rw [List.length_set]; exact lf a ha), List.getElem?_set_ne (Ne.symm (hP.ni a ha))]; exact hP.row a ha
          · rw [List.getElem?_append_right (by rw [List.length_set]; exact Nat.le_refl _), List.length_set, Nat.sub_self]; simp [vbs]
        · simp -dsimp -implicitDefEqProofs only [aw, slots0, V.copy, V.lend, V.lend1, V.cells, V.boxable, over, bldV, boundV, rowsOf, plains, V.plain, Nat.reduceLeDiff, cond_true, cond_false, implies_true, eq_self, ne_eq, reduceIte, reduceCtorEq, Nat.reduceBEq, Nat.reduceLT, Nat.reduceEqDiff, Nat.reduceAdd, Nat.reduceSub, Nat.reduceMul, wrap_nat hlt (show n ≤ 9223372036854775807 by omega)]
          have hc' : j + 1 ≤ c' := hc'
          have htl : (List.map V.copy (List.take j cs)).length = j := by simp; omega
          refine gen c' (σ'.length + 2) (List.map V.copy (List.take j cs) ++ V.bsl σ'.length 0 n 1 :: List.replicate (c' - (j + 1)) V.nil) _ (by simp) ?_ ?_ (fun a ha => by have := lf a ha; omega) (by omega) (by omega) (by simp) (by rw [box_at]; rfl) (by simp; omega) (fun a ha => ?_) ?_ (fun a ha => ?_) ?_
          · refine bb_push hbb _ fun x hx => ?_
            simp only [List.mem_cons, List.not_mem_nil, or_false] at hx
            rcases hx with rfl | rfl | rfl
            · exact V.unders_of fun i hi => by rw [List.getElem_replicate]; rfl
            · simp [V.unders, V.under]
            · have hm := boxesBelow_mono hbb (j := σ'.length + 3) (by omega)
              have hun := bb_at hm hcs
              refine V.unders_of fun i hi => ?_
              have hmem := List.getElem_mem hi
              have hall : ∀ c, c ∈ cs → V.under (σ'.length + 3) c = true := fun c hc => by obtain ⟨i, hi, rfl⟩ := List.getElem_of_mem hc; exact V.unders_get hun i hi
              simp only [List.length_append, List.length_cons, List.length_nil]
              rcases List.mem_append.1 hmem with h1 | h1
              · obtain ⟨y, hy, e⟩ := List.mem_map.1 h1
                rw [← e]; exact under_copy (hall y (List.mem_of_mem_take hy))
              · rcases List.mem_cons.1 h1 with h1 | h1
                · rw [h1]; simp [V.under]
                · rw [(List.mem_replicate.1 h1).2]; rfl
          · rw [List.take_append_of_le_length hle]; exact htk
          · rw [List.getElem?_append_left (by omega), List.getElem?_map, List.getElem?_take_of_lt ha, hcat a ha]; rfl
          · rw [List.getElem?_append_right (by omega), htl, Nat.sub_self]; rfl
          · rw [box_old (hP.row a ha)]
          · rw [box_at0]; simp [vbs]
    · have e : n = j := by omega
      subst e
      rcases hx with ⟨h0, -⟩ | ⟨-, i, c, f, rfl, hP⟩
      · omega
      have hT := hP.tb hbb
      have hi0 := hP.i0
      clear hP
      simp -dsimp -implicitDefEqProofs only [aw, slots0, V.copy, V.lend, V.lend1, V.cells, V.boxable, over, bldV, boundV, rowsOf, plains, V.plain, Nat.reduceLeDiff, cond_true, cond_false, implies_true, eq_self, ne_eq, reduceIte, reduceCtorEq, Nat.reduceBEq, Nat.reduceLT, Nat.reduceEqDiff, Nat.reduceAdd, Nat.reduceSub, Nat.reduceMul, Int.ofNat_lt, Nat.lt_irrefl, decide_false]
      -- the pairs
      refine awp_forS [0, 1, 5, 7] (fun (j : Nat) ρ σ' => ρ = [(0, .d (dint n)), (1, .d (dprs lr)), (5, .bsl i 0 n 1), (7, vint .i64 j)] ∧
        σ'.take σ.length = σ ∧ TB σ.length σ' i n f ((lr.take j).foldl (fun t p => tset t p.1 p.2 true) (List.replicate n (List.replicate n false)))) lr.length (ρ1 := [(0, .d (dint n)), (1, .d (dprs lr)), (5, .bsl i 0 n 1), (7, vint .i64 0)]) (σ1 := σ') (Shift.weak _ _ fun t => ?_) ⟨rfl, htk, hT⟩ ?_ _
      · by_cases e5 : t = 5
        · subst e5; exact .inr ⟨i, n, c, rfl, rfl⟩
        · refine .inl ?_
          simp only [keepOnly, List.filter, get, Nat.reduceBEq, List.contains_cons, List.contains_nil, Bool.or_false, Bool.or_true, Bool.true_or, Bool.false_or]
          simp [get, Ne.symm e5]
      clear hT htk hbb hle
      rintro j ρ' σ' hj ⟨rfl, htk, hT⟩
      by_cases hlt : j < lr.length
      · have hat : lr[j]? = some lr[j] := List.getElem?_eq_getElem hlt
        have hab := hl lr[j].1 lr[j].2 (List.getElem_mem hlt)
        have hfold := foldl_take (fun t (p : Nat × Nat) => tset t p.1 p.2 true) (List.replicate n (List.replicate n false)) hlt
        generalize (lr.take j).foldl (fun t (p : Nat × Nat) => tset t p.1 p.2 true) (List.replicate n (List.replicate n false)) = t at hT hfold
        generalize lr[j] = p at hat hab hfold
        obtain ⟨a, b⟩ := p
        obtain ⟨ha, hb2⟩ := hab
        simp only at ha hb2 hfold
        have hn' := hT.set ha b true
        rw [← hfold] at hn'
        obtain ⟨cs, hcs, hnm, hat2⟩ := hT.hi
        have hrow := hT.row a ha
        have hrl : b + 1 ≤ (t[a]?.getD []).length := by rw [hT.sq.at ha]; exact hb2
        have hle : a + 1 ≤ cs.length := (List.getElem?_eq_some_iff.1 (hat2 a ha)).1
        have hpk := pk_at (hat2 a ha)
        simp -dsimp -implicitDefEqProofs only [aw, slots0, V.copy, V.lend, V.lend1, V.cells, V.boxable, over, bldV, boundV, rowsOf, plains, V.plain, Nat.reduceLeDiff, cond_true, cond_false, implies_true, eq_self, ne_eq, reduceIte, reduceCtorEq, Nat.reduceBEq, Nat.reduceLT, Nat.reduceEqDiff, Nat.reduceAdd, Nat.reduceSub, Nat.reduceMul, Int.ofNat_lt, hlt, ha, hb2, decide_true, dprs_eq, prs_at hat, iaK_some, abr0, abr1, hcs, hrow, hle, hnm, hpk, hrl, Nat.mul_one, vbs_set (lt_pos hrl), wrap_nat hlt (show lr.length ≤ 9223372036854775807 by omega)]
        exact NxtS.of (Nxt.same (by rw [List.length_set]; exact take_le htk) hn'.bb (by simp [slotsBelow, V.under]; exact hT.lt_i) ⟨by rw [dprs_eq], by rw [take_set_ge (hT.f0 a ha)]; exact htk, hn'⟩)
      · simp -dsimp -implicitDefEqProofs only [aw, slots0, V.copy, V.lend, V.lend1, V.cells, V.boxable, over, bldV, boundV, rowsOf, plains, V.plain, Nat.reduceLeDiff, cond_true, cond_false, implies_true, eq_self, ne_eq, reduceIte, reduceCtorEq, Nat.reduceBEq, Nat.reduceLT, Nat.reduceEqDiff, Nat.reduceAdd, Nat.reduceSub, Nat.reduceMul, Int.ofNat_lt, hlt, decide_false, dprs_eq]
        rw [List.take_of_length_le (by omega)] at hT
        have hT : TB σ.length σ' i n f (ini n lr) := hT
        -- the sums
        refine awp_forK [0, 5, 8] (fun (k : Nat) ρ σ' => ρ = [(0, .d (dint n)), (5, .bsl i 0 n 1), (8, vint .i64 k)] ∧ σ'.take σ.length = σ ∧ TB σ.length σ' i n f ((List.range k).foldl (fun t k => wcol n k t) (ini n lr))) n ⟨rfl, htk, hT⟩ ?_ _
        clear hT htk hlt hj
        rintro k ρ' σ' hk ⟨rfl, htk, hT⟩
        by_cases hkn : k < n
        · have hfk := range_fold (fun t k => wcol n k t) (ini n lr) hkn
          generalize (List.range k).foldl (fun t k => wcol n k t) (ini n lr) = tk at hT hfk
          simp -dsimp -implicitDefEqProofs only [aw, slots0, V.copy, V.lend, V.lend1, V.cells, V.boxable, over, bldV, boundV, rowsOf, plains, V.plain, Nat.reduceLeDiff, cond_true, cond_false, implies_true, eq_self, ne_eq, reduceIte, reduceCtorEq, Nat.reduceBEq, Nat.reduceLT, Nat.reduceEqDiff, Nat.reduceAdd, Nat.reduceSub, Nat.reduceMul, Int.ofNat_lt, hkn, decide_true]
          refine awp_forK [0, 5, 8, 9] (fun (a : Nat) ρ σ' => ρ = [(0, .d (dint n)), (5, .bsl i 0 n 1), (8, vint .i64 k), (9, vint .i64 a)] ∧ σ'.take σ.length = σ ∧ TB σ.length σ' i n f ((List.range a).foldl (fun t i => wrow n k i t) tk)) n ⟨rfl, htk, hT⟩ ?_ _
          clear hT htk
          rintro a ρ' σ' ha' ⟨rfl, htk, hT⟩
          by_cases ha : a < n
          · have hfa := range_fold (fun t i => wrow n k i t) tk ha
            generalize (List.range a).foldl (fun t i => wrow n k i t) tk = ta at hT hfa
            simp -dsimp -implicitDefEqProofs only [aw, slots0, V.copy, V.lend, V.lend1, V.cells, V.boxable, over, bldV, boundV, rowsOf, plains, V.plain, Nat.reduceLeDiff, cond_true, cond_false, implies_true, eq_self, ne_eq, reduceIte, reduceCtorEq, Nat.reduceBEq, Nat.reduceLT, Nat.reduceEqDiff, Nat.reduceAdd, Nat.reduceSub, Nat.reduceMul, Int.ofNat_lt, ha, decide_true]
            refine awp_forK [0, 5, 8, 9, 10] (fun (b : Nat) ρ σ' => ρ = [(0, .d (dint n)), (5, .bsl i 0 n 1), (8, vint .i64 k), (9, vint .i64 a), (10, vint .i64 b)] ∧ σ'.take σ.length = σ ∧ TB σ.length σ' i n f ((List.range b).foldl (fun t j => wst k a j t) ta)) n ⟨rfl, htk, hT⟩ ?_ _
            clear hT htk
            rintro b ρ' σ' hb' ⟨rfl, htk, hT⟩
            by_cases hbn : b < n
            · have hfb := range_fold (fun t j => wst k a j t) ta hbn
              generalize (List.range b).foldl (fun t j => wst k a j t) ta = t at hT hfb
              have hsame : (tget t a b || tget t a k && tget t k b) = tget t a b → TB σ.length σ' i n f ((List.range (b + 1)).foldl (fun t j => wst k a j t) ta) := fun hv => by
                rw [hfb]; unfold wst; rw [hv, tset_same hT.sq ha hbn]; exact hT
              have hw1 : (tget t a b || tget t a k && tget t k b) = true → TB σ.length (σ'.set (f a) (vbs ((t[a]?.getD []).set b true))) i n f ((List.range (b + 1)).foldl (fun t j => wst k a j t) ta) := fun hv => by
                rw [hfb]; unfold wst; rw [hv]; exact hT.set ha b true
              obtain ⟨cs, hcs, hnm, hat2⟩ := hT.hi
              have hra := hT.row a ha
              have hrk := hT.row k hkn
              have lb : b + 1 ≤ (t[a]?.getD []).length := by rw [hT.sq.at ha]; exact hbn
              have lk : k + 1 ≤ (t[a]?.getD []).length := by rw [hT.sq.at ha]; exact hkn
              have lb2 : b + 1 ≤ (t[k]?.getD []).length := by rw [hT.sq.at hkn]; exact hbn
              have hla : a + 1 ≤ cs.length := (List.getElem?_eq_some_iff.1 (hat2 a ha)).1
              have hlk : k + 1 ≤ cs.length := (List.getElem?_eq_some_iff.1 (hat2 k hkn)).1
              have hpa := pk_at (hat2 a ha)
              have hpk := pk_at (hat2 k hkn)
              have v2 := vbs_pk (hT.sq.get ha hkn)
              have v3 := vbs_pk (hT.sq.get hkn hbn)
              have hset := hT.f0 a ha
              have hlen := take_le htk
              have hli := hT.lt_i
              have hbbT := hT.bb
              clear hT hat2
              cases b2 : tget t a k
              · rw [b2] at v2 hsame
                simp -dsimp -implicitDefEqProofs only [aw, slots0, V.copy, V.lend, V.lend1, V.cells, V.boxable, over, bldV, boundV, rowsOf, plains, V.plain, Nat.reduceLeDiff, cond_true, cond_false, implies_true, eq_self, ne_eq, reduceIte, reduceCtorEq, Nat.reduceBEq, Nat.reduceLT, Nat.reduceEqDiff, Nat.reduceAdd, Nat.reduceSub, Nat.reduceMul, Int.ofNat_lt, ha, hbn, hkn, decide_true, hcs, hra, hrk, hla, hlk, hnm, hpa, hpk, lb, lk, lb2, v2, v3, Nat.mul_one, wrap_nat hbn (show n ≤ 9223372036854775807 by omega)]
                exact Nxt.same hlen hbbT (by simp [slotsBelow, V.under]; exact hli) ⟨rfl, htk, hsame (by simp)⟩
              · rw [b2] at v2 hsame hw1
                cases b3 : tget t k b
                · rw [b3] at v3 hsame
                  simp -dsimp -implicitDefEqProofs only [aw, slots0, V.copy, V.lend, V.lend1, V.cells, V.boxable, over, bldV, boundV, rowsOf, plains, V.plain, Nat.reduceLeDiff, cond_true, cond_false, implies_true, eq_self, ne_eq, reduceIte, reduceCtorEq, Nat.reduceBEq, Nat.reduceLT, Nat.reduceEqDiff, Nat.reduceAdd, Nat.reduceSub, Nat.reduceMul, Int.ofNat_lt, ha, hbn, hkn, decide_true, hcs, hra, hrk, hla, hlk, hnm, hpa, hpk, lb, lk, lb2, v2, v3, Nat.mul_one, wrap_nat hbn (show n ≤ 9223372036854775807 by omega)]
                  exact Nxt.same hlen hbbT (by simp [slotsBelow, V.under]; exact hli) ⟨rfl, htk, hsame (by simp)⟩
                · rw [b3] at v3 hw1
                  simp -dsimp -implicitDefEqProofs only [aw, slots0, V.copy, V.lend, V.lend1, V.cells, V.boxable, over, bldV, boundV, rowsOf, plains, V.plain, Nat.reduceLeDiff, cond_true, cond_false, implies_true, eq_self, ne_eq, reduceIte, reduceCtorEq, Nat.reduceBEq, Nat.reduceLT, Nat.reduceEqDiff, Nat.reduceAdd, Nat.reduceSub, Nat.reduceMul, Int.ofNat_lt, ha, hbn, hkn, decide_true, hcs, hra, hrk, hla, hlk, hnm, hpa, hpk, lb, lk, lb2, v2, v3, Nat.mul_one, vbs_set (lt_pos lb), wrap_nat hbn (show n ≤ 9223372036854775807 by omega)]
                  have := hw1 (by simp)
                  exact Nxt.same (by rw [List.length_set]; exact hlen) this.bb (by simp [slotsBelow, V.under]; exact hli) ⟨rfl, by rw [take_set_ge hset]; exact htk, this⟩
            · have e : n = b := by omega
              subst e
              simp -dsimp -implicitDefEqProofs only [aw, slots0, V.copy, V.lend, V.lend1, V.cells, V.boxable, over, bldV, boundV, rowsOf, plains, V.plain, Nat.reduceLeDiff, cond_true, cond_false, implies_true, eq_self, ne_eq, reduceIte, reduceCtorEq, Nat.reduceBEq, Nat.reduceLT, Nat.reduceEqDiff, Nat.reduceAdd, Nat.reduceSub, Nat.reduceMul, Int.ofNat_lt, Nat.lt_irrefl, decide_false, wrap_nat ha (show n ≤ 9223372036854775807 by omega)]
              exact ⟨ha, Nxt.same (take_le htk) hT.bb (by simp [slotsBelow, V.under]; exact hT.lt_i) ⟨rfl, htk, by rw [hfa]; exact hT⟩⟩
          · have e : n = a := by omega
            subst e
            simp -dsimp -implicitDefEqProofs only [aw, slots0, V.copy, V.lend, V.lend1, V.cells, V.boxable, over, bldV, boundV, rowsOf, plains, V.plain, Nat.reduceLeDiff, cond_true, cond_false, implies_true, eq_self, ne_eq, reduceIte, reduceCtorEq, Nat.reduceBEq, Nat.reduceLT, Nat.reduceEqDiff, Nat.reduceAdd, Nat.reduceSub, Nat.reduceMul, Int.ofNat_lt, Nat.lt_irrefl, decide_false, wrap_nat hkn (show n ≤ 9223372036854775807 by omega)]
            exact ⟨hkn, Nxt.same (take_le htk) hT.bb (by simp [slotsBelow, V.under]; exact hT.lt_i) ⟨rfl, htk, by rw [hfk]; exact hT⟩⟩
        · have e : n = k := by omega
          subst e
          simp -dsimp -implicitDefEqProofs only [aw, slots0, V.copy, V.lend, V.lend1, V.cells, V.boxable, over, bldV, boundV, rowsOf, plains, V.plain, Nat.reduceLeDiff, cond_true, cond_false, implies_true, eq_self, ne_eq, reduceIte, reduceCtorEq, Nat.reduceBEq, Nat.reduceLT, Nat.reduceEqDiff, Nat.reduceAdd, Nat.reduceSub, Nat.reduceMul, Int.ofNat_lt, Nat.lt_irrefl, decide_false]
          exact fin_frz [(4, .d (dtab (clo n lr)))] hb htk (fun p hp => by rw [List.mem_singleton.1 hp]; exact hT.frz) rfl rfl ⟨rfl, rfl⟩
theorem refReach_zero (σ : List (List V)) : Fun G 20 [.d (dint 0), .d (dprs [])] σ (RetV (.d (dtab (clo 0 []))) σ) := by
  refine fun_code Try.func20 k20 rfl fun hb hw => ?_
  unfold c20
  simp -dsimp -implicitDefEqProofs only [aw, slots0, V.copy, V.lend, V.lend1, V.cells, V.boxable, over, bldV, boundV, rowsOf, plains, V.plain, Nat.reduceLeDiff, cond_true, cond_false, implies_true, eq_self, ne_eq, reduceIte, reduceCtorEq, Nat.reduceBEq, Nat.reduceLT, Nat.reduceEqDiff, Nat.reduceAdd, Nat.reduceSub, Nat.reduceMul]
  refine fun_ret (refvalid_fun 0 [] (by simp) _) ?_
  have hv : validR 0 [] = true := rfl
  simp -dsimp -implicitDefEqProofs only [aw, slots0, V.copy, V.lend, V.lend1, V.cells, V.boxable, over, bldV, boundV, rowsOf, plains, V.plain, Nat.reduceLeDiff, cond_true, cond_false, implies_true, eq_self, ne_eq, reduceIte, reduceCtorEq, Nat.reduceBEq, Nat.reduceLT, Nat.reduceEqDiff, Nat.reduceAdd, Nat.reduceSub, Nat.reduceMul, hv]
  refine awp_forK [0, 1, 5, 6] (fun (j : Nat) ρ σ' => ρ = [(0, .d (dint 0)), (1, .d (dprs [])), (5, .nil), (6, vint .i64 0)] ∧ σ' = σ) 0 ⟨rfl, rfl⟩ ?_ _
  rintro j ρ' σ' hj ⟨rfl, rfl⟩
  simp -dsimp -implicitDefEqProofs only [aw, slots0, V.copy, V.lend, V.lend1, V.cells, V.boxable, over, bldV, boundV, rowsOf, plains, V.plain, Nat.reduceLeDiff, cond_true, cond_false, implies_true, eq_self, ne_eq, reduceIte, reduceCtorEq, Nat.reduceBEq, Nat.reduceLT, Nat.reduceEqDiff, Nat.reduceAdd, Nat.reduceSub, Nat.reduceMul, Int.lt_irrefl, decide_false]
  refine awp_forK [0, 1, 5, 7] (fun (j : Nat) ρ σ'' => ρ = [(0, .d (dint 0)), (1, .d (dprs [])), (5, .nil), (7, vint .i64 0)] ∧ σ'' = σ') 0 ⟨rfl, rfl⟩ ?_ _
  rintro j ρ' σ'' hj ⟨rfl, rfl⟩
  simp -dsimp -implicitDefEqProofs only [aw, slots0, V.copy, V.lend, V.lend1, V.cells, V.boxable, over, bldV, boundV, rowsOf, plains, V.plain, Nat.reduceLeDiff, cond_true, cond_false, implies_true, eq_self, ne_eq, reduceIte, reduceCtorEq, Nat.reduceBEq, Nat.reduceLT, Nat.reduceEqDiff, Nat.reduceAdd, Nat.reduceSub, Nat.reduceMul, Int.ofNat_lt, Nat.lt_irrefl, decide_false, dprs_eq, List.map_nil, List.length_nil, Int.ofNat_zero, Int.lt_irrefl]
  refine awp_forK [0, 5, 8] (fun (j : Nat) ρ σ' => ρ = [(0, .d (dint 0)), (5, .nil), (8, vint .i64 0)] ∧ σ' = σ'') 0 ⟨rfl, rfl⟩ ?_ _
  rintro j ρ' σ' hj ⟨rfl, rfl⟩
  simp -dsimp -implicitDefEqProofs only [aw, slots0, V.copy, V.lend, V.lend1, V.cells, V.boxable, over, bldV, boundV, rowsOf, plains, V.plain, Nat.reduceLeDiff, cond_true, cond_false, implies_true, eq_self, ne_eq, reduceIte, reduceCtorEq, Nat.reduceBEq, Nat.reduceLT, Nat.reduceEqDiff, Nat.reduceAdd, Nat.reduceSub, Nat.reduceMul, Int.lt_irrefl, decide_false]
  first | exact fin_ret hb rfl rfl List.take_length ⟨rfl, rfl⟩ | exact fin_ret hb rfl rfl List.take_left ⟨rfl, rfl⟩ | (trace_state; fail "fin")
theorem refReach_fun (n : Int) (l : Rw) (hl : l.length ≤ 1000000) (σ : List (List V)) : Fun G 20 [.d (dint n), .d (drel l)] σ (RetV (.d (dtab (reachT n l))) σ) := by
  cases h : validR n l
  · refine fun_code Try.func20 k20 rfl fun hb hw => ?_
    unfold c20
    simp -dsimp -implicitDefEqProofs only [aw, slots0, V.copy, V.lend, V.lend1, V.cells, V.boxable, over, bldV, boundV, rowsOf, plains, V.plain, Nat.reduceLeDiff, cond_true, cond_false, implies_true, eq_self, ne_eq, reduceIte, reduceCtorEq, Nat.reduceBEq, Nat.reduceLT, Nat.reduceEqDiff, Nat.reduceAdd, Nat.reduceSub, Nat.reduceMul]
    refine fun_ret (refvalid_fun n l hl _) ?_
    simp -dsimp -implicitDefEqProofs only [aw, slots0, V.copy, V.lend, V.lend1, V.cells, V.boxable, over, bldV, boundV, rowsOf, plains, V.plain, Nat.reduceLeDiff, cond_true, cond_false, implies_true, eq_self, ne_eq, reduceIte, reduceCtorEq, Nat.reduceBEq, Nat.reduceLT, Nat.reduceEqDiff, Nat.reduceAdd, Nat.reduceSub, Nat.reduceMul, h]
    rw [reach_no h]
    first | exact fin_ret hb rfl rfl List.take_length ⟨rfl, rfl⟩ | exact fin_ret hb rfl rfl List.take_left ⟨rfl, rfl⟩ | (trace_state; fail "fin")
  · obtain ⟨m, p, rfl, hm, e1, e2, rfl, hb2⟩ := valid_prs h
    rw [e1, reach_yes h]
    rcases Nat.eq_zero_or_pos m with rfl | h0
    · have : p = [] := by
        match p, hb2 with
        | [], _ => rfl
        | q :: r, hb2 => have := hb2 q.1 q.2 (by unfold RL; simp); omega
      subst this
      exact refReach_zero σ
    · exact refReach_pos m p h0 hm hb2 (by omega) h σ
end Go.Proofs.Ytinenohgemndiaa
