/-
  The plain world, all of it: an abstract machine over plain data, and the proof that it is sound.
-/
import Derived.Test.YtinenohgemndiaaA18
import Derived.Orders
import Derived.RowKit
import Derived.Recover
namespace Go.Proofs.Ytinenohgemndiaa
open Go.RowKit
section
variable {C : Cx} {pr : Prot} {n : Nat} {Q : AEx → Slots → List (List V) → Prop}
theorem draw_rel {M0 : Facts} {bm0 : List Nat} {w0 : World} {id : Nat} {ops : Array Oper} {M : Facts} {bm : List Nat} {tk : Toks} {a : Act} {w : World} (R : (Nat → Bool) → Slots → List (List V) → Prop) {ρ0 : Slots} {σ0 : List (List V)}
    (hlt : ∀ (i : Nat) (o : Oper), ops.toList[i]? = some o → ∀ j ∈ edgesOf o, j < i)
    (hext : ∀ S S' ρ σ, (∀ j, j < ops.size → S j = S' j) → R S ρ σ → R S' ρ σ)
    (hl : Later M0 bm0 pr w0 M bm w) (h : SRel M bm tk pr ρ0 σ0 n a w) (h0 : R (fun _ => false) ρ0 σ0)
    (hq : ∀ ρ σ, R (fun _ => true) ρ σ → ∃ ρ2, Q .normal ρ2 σ ∧ ∀ t, get ρ t = get ρ2 t)
    (step : ∀ (S : Nat → Bool) (i : Nat) (o : Oper), ops.toList[i]? = some o → S i = false → (∀ (j : Nat) (p : Oper), ops.toList[j]? = some p → S j = true → ∀ e ∈ edgesOf p, S e = true) → (∀ e ∈ edgesOf o, S e = true) →
      ∀ (M : Facts) (bm : List Nat) (tk : Toks) (a : Act) (w : World) (ρ : Slots) (σ : List (List V)), Later M0 bm0 pr w0 M bm w → R S ρ σ → SRel M bm tk pr ρ σ n a w →
        if Region.wanted o (yielded ops a.tmps) then o.wp C.P a w (Lift M bm pr w n (R fun j => j == i || S j)) (LiftX M bm pr w n fun _ _ _ => False)
        else ∃ ρ', R (fun j => j == i || S j) ρ' σ ∧ SRel M bm tk pr ρ' σ n (a.put o.dst undef) w) :
    (Code.region id ops true).wp C.P (LiftX M0 bm0 pr w0 n Q) a w := by
  refine wp_region_any C.mixed ?_
  suffices H : ∀ (fuel : Nat) (listed : Array Bool) (M : Facts) (bm : List Nat) (tk : Toks) (a : Act) (w : World) (ρ : Slots) (σ : List (List V)), Later M0 bm0 pr w0 M bm w → R (fun i => listed.getD i false) ρ σ → SRel M bm tk pr ρ σ n a w → listed.size = ops.size →
      (∀ (i : Nat) (o : Oper), ops.toList[i]? = some o → listed.getD i false = true → ∀ j ∈ edgesOf o, listed.getD j false = true) → (listed.toList.filter (! ·)).length = fuel → wpAny C.P .any ops (LiftX M0 bm0 pr w0 n Q) fuel listed a w by
    obtain ⟨h1, h2⟩ := h.ext (Grows.drew w)
    have hrep : ∀ j, (Array.replicate ops.size false).getD j false = false := fun j => by
      simp only [Array.getD_eq_getD_getElem?, Array.getElem?_replicate]
      split <;> rfl
    refine H ops.size (Array.replicate ops.size false) M bm tk a w.drew ρ0 σ0 (hl.trans h2 (fun _ h => h)) (hext _ _ _ _ (fun j _ => (hrep j).symm) h0) h1 (by simp) (fun i o ho hi => ?_) (by simp)
    · rw [hrep] at hi; cases hi
  intro fuel
  induction fuel with
  | zero =>
    intro listed M bm tk a w ρ σ hl hR h hsz hcl hcnt
    have hall : ∀ i, i < ops.size → listed.getD i false = true := fun i hi => by
      have hb : listed[i]? = some (listed[i]'(by omega)) := Array.getElem?_eq_getElem _
      rw [Array.getD_eq_getD_getElem?, hb, Option.getD_some]
      have hne : listed.toList.filter (! ·) = [] := List.eq_nil_of_length_eq_zero hcnt
      have := List.filter_eq_nil_iff.1 hne (listed[i]'(by omega)) (by simp)
      simpa using this
    obtain ⟨ρ2, q1, q2⟩ := hq _ _ (hext _ _ _ _ hall hR)
    refine ⟨?_, M, bm, tk, ρ2, σ, .normal, q1, .normal, h.congr fun t => (q2 t).symm, hl⟩
    · unfold Region.ready
      rw [List.filter_eq_nil_iff]
      intro i hi
      have hi' : i < ops.size := by simpa using hi
      have h9 := hall i hi'
      have : listed.getD i true = true := by
        have hb : listed[i]? = some (listed[i]'(by omega)) := Array.getElem?_eq_getElem _
        rw [Array.getD_eq_getD_getElem?, hb, Option.getD_some] at h9 ⊢
        exact h9
      simp [this]
  | succ fuel ih =>
    intro listed M bm tk a w ρ σ hl hR h hsz hcl hcnt
    refine ⟨fun hnil => ?_, fun i hi => ?_⟩
    · exfalso
      have hex : ∃ i, i < ops.size ∧ listed.getD i false = false := by
        apply Classical.byContradiction
        intro hno
        have hne : listed.toList.filter (! ·) = [] := by
          rw [List.filter_eq_nil_iff]
          intro b hb
          obtain ⟨i, hi, rfl⟩ := List.getElem_of_mem hb
          have hi' : i < listed.size := by simpa using hi
          have h9 : ¬ listed.getD i false = false := fun e => hno ⟨i, by omega, e⟩
          have hb : listed[i]? = some listed[i] := Array.getElem?_eq_getElem hi'
          rw [Array.getD_eq_getD_getElem?, hb, Option.getD_some] at h9
          simpa using h9
        rw [hne] at hcnt
        simp at hcnt
      have hmin : ∃ i, i < ops.size ∧ listed.getD i false = false ∧ ∀ j, j < i → listed.getD j false = true := by
        obtain ⟨i, h1, h2⟩ := hex
        induction i using Nat.strongRecOn with
        | _ i ihm =>
        by_cases hj : ∃ j, j < i ∧ listed.getD j false = false
        · obtain ⟨j, g1, g2⟩ := hj; exact ihm j g1 (by omega) g2
        · exact ⟨i, h1, h2, fun j hji => by
            cases hb : listed.getD j false with
            | true => rfl
            | false => exact absurd ⟨j, hji, hb⟩ hj⟩
      obtain ⟨i, h1, h2, h3⟩ := hmin
      have hio : i < ops.toList.length := by simpa using h1
      have : i ∈ Region.ready .any ops listed := by
        unfold Region.ready
        rw [List.mem_filter]
        refine ⟨by simp; omega, ?_⟩
        have ht : listed.getD i true = false := by
          have hb : listed[i]? = some (listed[i]'(by omega)) := Array.getElem?_eq_getElem _
          rw [Array.getD_eq_getD_getElem?, hb, Option.getD_some] at h2 ⊢
          exact h2
        have ho : ops[i]? = some (ops[i]'(by omega)) := Array.getElem?_eq_getElem _
        rw [ht, ho]
        simp only [Bool.not_false, Bool.true_and, Option.map_some, Option.getD_some]
        rw [← Array.all_toList, List.all_eq_true]
        intro e he
        cases hb : Region.binds .any e with
        | false => rfl
        | true =>
          have : e.on ∈ edgesOf (ops[i]'(by omega)) := by
            unfold edgesOf
            exact List.mem_map.2 ⟨e, List.mem_filter.2 ⟨he, hb⟩, rfl⟩
          simp [h3 e.on (hlt i _ (by rw [List.getElem?_eq_getElem hio]; simp) e.on this)]
      rw [hnil] at this
      cases this
    · unfold Region.ready at hi
      rw [List.mem_filter] at hi
      obtain ⟨hir, hic⟩ := hi
      have hi1 : i < ops.size := by simpa using hir
      have ho : ops[i]? = some ops[i] := Array.getElem?_eq_getElem hi1
      have hoL : ops.toList[i]? = some ops[i] := by rw [Array.getElem?_toList]; exact ho
      rw [ho] at hic
      simp only [Option.map_some, Option.getD_some, Bool.and_eq_true, Bool.not_eq_true'] at hic
      obtain ⟨hun, hed⟩ := hic
      have hun' : listed[i]? = some false := by
        have hb : listed[i]? = some (listed[i]'(by omega)) := Array.getElem?_eq_getElem _
        rw [Array.getD_eq_getD_getElem?, hb, Option.getD_some] at hun
        rw [hb, hun]
      have hunf : listed.getD i false = false := by rw [Array.getD_eq_getD_getElem?, hun']; rfl
      have hedge : ∀ j ∈ edgesOf ops[i], listed.getD j false = true := by
        intro j hj
        unfold edgesOf at hj
        obtain ⟨e, he, rfl⟩ := List.mem_map.1 hj
        rw [List.mem_filter] at he
        rw [← Array.all_toList, List.all_eq_true] at hed
        have := hed e he.1
        simpa [he.2] using this
      have hset : ∀ j, (listed.setIfInBounds i true).getD j false = (j == i || listed.getD j false) := fun j => by
        rw [Array.getD_eq_getD_getElem?, Array.getD_eq_getD_getElem?]
        by_cases e : j = i
        · subst e; rw [Array.getElem?_setIfInBounds_self_of_lt (by omega)]; simp
        · rw [Array.getElem?_setIfInBounds_ne (Ne.symm e)]; simp [e]
      have hnextcl : ∀ (q : Nat) (o : Oper), ops.toList[q]? = some o → (listed.setIfInBounds i true).getD q false = true → ∀ j ∈ edgesOf o, (listed.setIfInBounds i true).getD j false = true := by
        intro q o hqo hql j hj
        rw [hset] at hql ⊢
        simp only [Bool.or_eq_true, beq_iff_eq] at hql ⊢
        rcases hql with rfl | hql
        · rw [hoL] at hqo; cases hqo
          exact .inr (hedge j hj)
        · exact .inr (hcl q o hqo hql j hj)
      have hnextc : ((listed.setIfInBounds i true).toList.filter (! ·)).length = fuel := by
        have := set_count listed.toList i (by rw [Array.getElem?_toList]; exact hun')
        rw [Array.toList_setIfInBounds]
        omega
      have hst := step (fun j => listed.getD j false) i ops[i] hoL hunf hcl hedge M bm tk a w ρ σ hl hR h
      unfold wpOp
      rw [ho]
      simp only
      split at hst
      · rename_i hw
        rw [if_pos hw]
        refine .inl (Oper.wp_mono2 (fun a' w' hL => ?_) (fun e a' w' hL => ?_) hst)
        · obtain ⟨M', bm', tk', ρ', σ', k0, k2, k3⟩ := hL
          exact ih _ M' bm' tk' a' w' ρ' σ' (hl.trans k3 (fun _ h => h)) (hext _ _ _ _ (fun j _ => (hset j).symm) k0) k2 (by simp [hsz]) hnextcl hnextc
        · obtain ⟨_, _, _, _, _, _, hf, _⟩ := hL
          exact hf.elim
      · rename_i hw
        rw [if_neg hw]
        obtain ⟨ρ', k0, k2⟩ := hst
        exact ih _ M bm tk _ w ρ' σ hl (hext _ _ _ _ (fun j _ => (hset j).symm) k0) k2 (by simp [hsz]) hnextcl hnextc
def OutA (σ : List (List V)) (x : V) (src : List V) (z : V) (v : V) (σ1 : List (List V)) : Prop := match x with
  | .nil => ∃ c, src.length ≤ c ∧ v = .bsc σ.length src.length c ∧ σ1 = σ ++ [src ++ List.replicate (c - src.length) z]
  | .bsc i m c => ∃ cs, σ[i]? = some cs ∧ ((m + src.length ≤ c ∧ v = .bsc i (m + src.length) c ∧ σ1 = σ.set i (over cs m src)) ∨
      (c < m + src.length ∧ ∃ c', m + src.length ≤ c' ∧ v = .bsc σ.length (m + src.length) c' ∧ σ1 = σ ++ [(cs.take m).map V.copy ++ src ++ List.replicate (c' - (m + src.length)) z]))
  | _ => False
theorem appvR_all {σ : List (List V)} {x : V} {src : List V} {bytes : Nat} {z : V} {K : V → List (List V) → Prop} (h : appvR σ x src bytes z K) {v : V} {σ1 : List (List V)} (ho : OutA σ x src z v σ1) : K v σ1 := by
  unfold appvR at h
  unfold OutA at ho
  cases x <;> simp only at h ho <;> first | exact h.elim | exact ho.elim | skip
  · obtain ⟨c, h1, rfl, rfl⟩ := ho
    exact h.2 c h1
  · obtain ⟨cs, hs, ho⟩ := ho
    rw [hs] at h
    rcases ho with ⟨h1, rfl, rfl⟩ | ⟨h1, c', h2, rfl, rfl⟩
    · exact h.2.1 h1
    · exact h.2.2 h1 c' h2
theorem appvR_out {σ : List (List V)} {x : V} {src : List V} {bytes : Nat} {z : V} {K K' : V → List (List V) → Prop} (h : appvR σ x src bytes z K) (hk : ∀ v σ1, OutA σ x src z v σ1 → K' v σ1) : appvR σ x src bytes z K' := by
  unfold appvR at h ⊢
  cases x <;> simp only at h ⊢ <;> first | exact h.elim | skip
  · exact ⟨h.1, fun c hc => hk _ _ ⟨c, hc, rfl, rfl⟩⟩
  · rename_i i m c
    cases hs : σ[i]? with
    | none => rw [hs] at h; exact h.elim
    | some cs =>
      rw [hs] at h
      exact ⟨h.1, fun hc => hk _ _ ⟨cs, hs, .inl ⟨hc, rfl, rfl⟩⟩, fun hc c' hc' => hk _ _ ⟨cs, hs, .inr ⟨hc, c', hc', rfl, rfl⟩⟩⟩
structure AV where
  d : Nat
  T : Nat
  bytes : Nat
  z : V
  s : Nat
  y : X
  st : Bool
  x : X
  k : X
  v : X
def AV.A (p : AV) : O := ⟨some p.d, .appv p.T p.bytes p.z p.s p.y, none⟩
def AV.B (p : AV) : O := ⟨none, .mst p.st p.x p.k p.v, none⟩
def reV (C : Cx) (σ1 : List (List V)) : List (O × Slots × V) → Prop
  | [] => True
  | (o, ρ, v) :: r => calmO C o.op ρ σ1 (fun u => u = v) ∧ reV C σ1 r
def finV (C : Cx) (p : AV) (K : Slots → List (List V) → Prop) (ρ : Slots) (σ1 : List (List V)) : Prop :=
  ∃ kv key, mapAt p.st σ1 (ev C ρ p.x) = some kv ∧ keyV p.st (ev C ρ p.k) = some key ∧ K ρ (setMp σ1 p.st (mput key (ev C ρ p.v).copy kv) (ev C ρ p.x))
def awpV (C : Cx) (p : AV) (σ : List (List V)) (K : Slots → List (List V) → Prop) : List O → List (O × Slots × V) → Slots → Prop
  | [], pend, ρ => ∃ src, srcV σ (ev C ρ p.y) = some src ∧ 0 < src.length ∧ appvR σ (get ρ p.s) src p.bytes p.z fun u σ1 => reV C σ1 pend ∧ finV C p K (put ρ p.d u) σ1
  | o :: r, pend, ρ => o.g = none ∧ calmO C o.op ρ σ fun v => awpV C p σ K r ((o, ρ, v) :: pend) (putd ρ o.dst v)
def FinV (C : Cx) (p : AV) (σ : List (List V)) (K : Slots → List (List V) → Prop) (O1 : List (List V) → Prop) (ρ : Slots) : Prop :=
  ∃ src, srcV σ (ev C ρ p.y) = some src ∧ 0 < src.length ∧ (∀ u σ1, OutA σ (get ρ p.s) src p.z u σ1 → O1 σ1) ∧ appvR σ (get ρ p.s) src p.bytes p.z fun u σ1 => finV C p K (put ρ p.d u) σ1
theorem awpV_chain {p : AV} {σ : List (List V)} {K : Slots → List (List V) → Prop} : ∀ (l : List O) (pend : List (O × Slots × V)) (ρ : Slots), awpV C p σ K l pend ρ →
    ∃ O1 : List (List V) → Prop, (∀ σ1, O1 σ1 → reV C σ1 pend) ∧ chain (fun o ρ x => o.g = none ∧ Loc C o ρ σ x ∧ ∀ σ1, O1 σ1 → Loc C o ρ σ1 x) l ρ (FinV C p σ K O1)
  | [], pend, ρ, ⟨src, h1, h2, h3⟩ =>
    ⟨fun σ1 => ∃ u, OutA σ (get ρ p.s) src p.z u σ1, fun σ1 ⟨u, hu⟩ => (appvR_all h3 hu).1, src, h1, h2, fun u σ1 hu => ⟨u, hu⟩, appvR_mono (fun u σ1 hh => hh.2) h3⟩
  | o :: r, pend, ρ, ⟨hg, h⟩ => by
    obtain ⟨v, h1, h2⟩ := calmO_split h
    obtain ⟨O1, h3, h4⟩ := awpV_chain r _ _ h2
    refine ⟨O1, fun σ1 ho => (h3 σ1 ho).2, v, ρ, fun _ => rfl, ⟨hg, by unfold Loc; rw [hg]; exact h1, fun σ1 ho => by unfold Loc; rw [hg]; exact (h3 σ1 ho).1⟩, h4⟩
def drawVOK (l : List O) (os : List Oper) : Bool :=
  let bf := beforeL os []
  decide (2 ≤ l.length) && (((List.range os.length).all fun i => match os[i]? with | some o => (edgesOf o).all fun j => decide (j < i) | none => true) &&
  ((List.range l.length).all fun i => match l[i]? with
    | some o => ((o.looksG ++ o.dst.toList).all fun t => (List.range l.length).all fun j => j == i || (match l[j]? with
        | some q => q.dst != some t || (if j < i then (bf.getD i []).contains j else (bf.getD j []).contains i)
        | none => true)) && ((decide (l.length ≤ i + 2) || o.op.isCalm) && (i + 1 == l.length || (bf.getD (l.length - 1) []).contains i))
    | none => true))
structure OKV (l : List O) (os : List Oper) : Prop where
  two : 2 ≤ l.length
  lt : ∀ (i : Nat) (o : Oper), os[i]? = some o → ∀ j ∈ edgesOf o, j < i
  cmp : ∀ (i : Nat) (o : O), l[i]? = some o → ∀ t ∈ o.looksG ++ o.dst.toList, ∀ (j : Nat) (q : O), l[j]? = some q → q.dst = some t → j ≠ i → (j < i ∧ j ∈ (beforeL os []).getD i []) ∨ (i < j ∧ i ∈ (beforeL os []).getD j [])
  calm : ∀ (i : Nat) (o : O), l[i]? = some o → i + 2 < l.length → o.op.isCalm = true
  last : ∀ (i : Nat) (o : O), l[i]? = some o → i + 1 ≠ l.length → i ∈ (beforeL os []).getD (l.length - 1) []
theorem drawVOK_ok {l : List O} {os : List Oper} (h : drawVOK l os = true) : OKV l os := by
  unfold drawVOK at h
  simp only [Bool.and_eq_true, decide_eq_true_eq] at h
  obtain ⟨h0, h1, h2⟩ := h
  simp only [List.all_eq_true, List.mem_range] at h1 h2
  have one : ∀ (i : Nat) (o : O), l[i]? = some o → _ := fun i o ho => by
    have := h2 i (List.getElem?_eq_some_iff.1 ho).1
    rw [ho] at this
    simp only [Bool.and_eq_true] at this
    exact this
  refine ⟨h0, fun i o ho j hj => ?_, fun i o ho t ht j q hp hd hne => ?_, fun i o ho hi => ?_, fun i o ho hne => ?_⟩
  · have := h1 i (List.getElem?_eq_some_iff.1 ho).1
    rw [ho] at this
    simpa using List.all_eq_true.1 this j hj
  · have h1 := (one i o ho).1
    simp only [List.all_eq_true, List.mem_range] at h1
    have h2 := h1 t ht j (List.getElem?_eq_some_iff.1 hp).1
    rw [hp] at h2
    simp only [hd, Bool.or_eq_true, beq_iff_eq, bne_self_eq_false, Bool.false_eq_true, false_or] at h2
    rcases h2 with h2 | h2
    · exact absurd h2 hne
    · split at h2
      · exact .inl ⟨by assumption, by simpa using h2⟩
      · exact .inr ⟨by omega, by simpa using h2⟩
  · have := (one i o ho).2.1
    simp only [Bool.or_eq_true, decide_eq_true_eq] at this
    rcases this with g | g
    · omega
    · exact g
  · have := (one i o ho).2.2
    simp only [Bool.or_eq_true, beq_iff_eq] at this
    rcases this with g | g
    · exact absurd g hne
    · simpa using g
theorem runsV_off : ∀ (l l' : List (Option Nat × V × Bool)) (ρ : Slots), l.length = l'.length → (∀ i (h : i < l.length) (h' : i < l'.length), l[i].1 = l'[i].1 ∧ l[i].2.2 = l'[i].2.2 ∧ (l[i].2.2 = true → l[i].2.1 = l'[i].2.1)) → runsS l ρ = runsS l' ρ
  | [], [], _, _, _ => rfl
  | (d, x, b) :: r, (d', x', b') :: r', ρ, hl, h => by
    obtain ⟨h1, h2, h3⟩ := h 0 (by simp) (by simp)
    simp only [List.getElem_cons_zero] at h1 h2 h3
    subst h1; subst h2
    have e : (if b = true then putd ρ d x else ρ) = if b = true then putd ρ d x' else ρ := by
      cases b
      · rfl
      · rw [h3 rfl]
    simp only [runsS]
    rw [e]
    exact runsV_off r r' _ (by simpa using hl) fun i g1 g2 => h (i + 1) (by simpa using g1) (by simpa using g2)
  | [], _ :: _, _, hl, _ => by simp at hl
  | _ :: _, [], _, hl, _ => by simp at hl
theorem stepsV_app : ∀ (l : List O) (xs : List V) (k : Nat) (S : Nat → Bool) (l2 : List O) (xs2 : List V), xs.length = l.length → steps (l ++ l2) (xs ++ xs2) k S = steps l xs k S ++ steps l2 xs2 (k + l.length) S
  | [], [], k, S, l2, xs2, _ => by simp [steps]
  | o :: l, x :: xs, k, S, l2, xs2, h => by
    simp only [List.cons_append, steps, List.length_cons]
    rw [stepsV_app l xs (k + 1) S l2 xs2 (by simpa using h), show k + 1 + l.length = k + (l.length + 1) by omega]
  | [], _ :: _, _, _, _, _, h => by simp at h
  | _ :: _, [], _, _, _, _, h => by simp at h
theorem drawv_sound {ρ : Slots} {M0 : Facts} {bm0 : List Nat} {w0 : World} (hG : C.glob M0 pr w0) {id : Nat} {ops : Array Oper} {pre : List O} {p : AV} {M : Facts} {bm : List Nat} {tk : Toks} {σ : List (List V)} {a : Act} {w : World} (hok : okOs C.tab n ops (pre ++ [p.A, p.B]) ops.toList = true) (hdr : drawVOK (pre ++ [p.A, p.B]) ops.toList = true)
    (hl : Later M0 bm0 pr w0 M bm w) (h : SRel M bm tk pr ρ σ n a w)
    (hq : awpV C p σ (fun ρ' σ' => Q .normal ρ' σ') pre [] ρ) :
    (Code.region id ops true).wp C.P (LiftX M0 bm0 pr w0 n Q) a w := by
  obtain ⟨hlen, hget⟩ := okOs_get hok
  have D := drawVOK_ok hdr
  obtain ⟨O1, -, hch⟩ := awpV_chain _ _ _ hq
  obtain ⟨xs, hxl, ⟨ρf, ⟨src, f1, f2, f3, f4⟩, hρe⟩, hloc⟩ := chain_ex (k := 0) hch
  clear hq hch
  have hsa : ∀ u S, steps (pre ++ [p.A, p.B]) (xs ++ [u, .junk]) 0 S = steps pre xs 0 S ++ [(some p.d, u, S pre.length), (none, .junk, S (pre.length + 1))] := fun u S => by
    rw [stepsV_app pre xs 0 S _ _ hxl, Nat.zero_add]; rfl
  generalize hll : pre ++ [p.A, p.B] = l at *
  have hll2 : l.length = pre.length + 2 := by rw [← hll]; simp
  have hnl : l.length = ops.size := by rw [hlen]; simp
  have getp : ∀ i (h1 : i < pre.length) (h2 : i < l.length), l[i] = pre[i] := fun i h1 h2 => by subst hll; exact List.getElem_append_left h1
  have getA : ∀ (h2 : pre.length < l.length), l[pre.length] = p.A := fun h2 => by subst hll; simp
  have getB : ∀ (h2 : pre.length + 1 < l.length), l[pre.length + 1] = p.B := fun h2 => by subst hll; simp
  -- the slots when some are done
  obtain ⟨ys, hys⟩ : ∃ ys : V → List V, ys = fun u => xs ++ [u, .junk] := ⟨_, rfl⟩
  have hyl : ∀ u, (ys u).length = l.length := fun u => by simp [hys, hxl, hll2]
  have yp : ∀ u i (h1 : i < xs.length) (h2 : i < (ys u).length), (ys u)[i] = xs[i] := fun u i h1 h2 => by subst hys; exact List.getElem_append_left h1
  have yA : ∀ u (h2 : pre.length < (ys u).length), (ys u)[pre.length] = u := fun u h2 => by subst hys; simp [← hxl]
  have hsteps : ∀ u (S : Nat → Bool), (steps l (ys u) 0 S).length = l.length := fun u S => steps_len l (ys u) 0 S (hyl u)
  have hsg : ∀ u (S : Nat → Bool) (i : Nat) (hi : i < (steps l (ys u) 0 S).length) (h1 : i < l.length), (steps l (ys u) 0 S)[i] = (l[i].dst, (ys u)[i]'(by rw [hyl]; exact h1), S i) := fun u S i hi h1 => by
    have := steps_get l (ys u) 0 S i hi h1 (by rw [hyl]; exact h1)
    simpa using this
  have base : ∀ u S S', (∀ j, j < l.length → S j = S' j) → ∀ t, get (runsS (steps l (ys u) 0 S) ρ) t = get (runsS (steps l (ys u) 0 S') ρ) t := fun u S S' hS t => by
    refine runsS_congr _ _ ρ t (by rw [hsteps, hsteps]) (fun i g1 g2 => ?_)
    rw [hsteps] at g1
    rw [hsg _ _ i (by rw [hsteps]; exact g1) g1, hsg _ _ i (by rw [hsteps]; exact g1) g1]
    exact ⟨rfl, rfl, fun _ => hS i g1⟩
  have ghost : ∀ u u' S, S pre.length = false → runsS (steps l (ys u) 0 S) ρ = runsS (steps l (ys u') 0 S) ρ := fun u u' S hS => by
    subst hys
    simp only [hsa]
    refine runsV_off _ _ ρ (by simp) fun i g1 g2 => ?_
    by_cases e : i < (steps pre xs 0 S).length
    · rw [List.getElem_append_left e, List.getElem_append_left e]; exact ⟨rfl, rfl, fun _ => rfl⟩
    · rw [List.getElem_append_right (by omega), List.getElem_append_right (by omega)]
      simp only [List.length_append, List.length_cons, List.length_nil] at g1
      have key : ∀ (q : Nat) (g3 : q < [(some p.d, u, S pre.length), (none, V.junk, S (pre.length + 1))].length) (g4 : q < [(some p.d, u', S pre.length), (none, V.junk, S (pre.length + 1))].length),
          [(some p.d, u, S pre.length), (none, V.junk, S (pre.length + 1))][q].1 = [(some p.d, u', S pre.length), (none, V.junk, S (pre.length + 1))][q].1 ∧ [(some p.d, u, S pre.length), (none, V.junk, S (pre.length + 1))][q].2.2 = [(some p.d, u', S pre.length), (none, V.junk, S (pre.length + 1))][q].2.2 ∧
            ([(some p.d, u, S pre.length), (none, V.junk, S (pre.length + 1))][q].2.2 = true → [(some p.d, u, S pre.length), (none, V.junk, S (pre.length + 1))][q].2.1 = [(some p.d, u', S pre.length), (none, V.junk, S (pre.length + 1))][q].2.1) := fun q g3 g4 => by
        match q, g3, g4 with
        | 0, _, _ => exact ⟨rfl, rfl, fun hh => by simp only [List.getElem_cons_zero] at hh; rw [hS] at hh; cases hh⟩
        | 1, _, _ => exact ⟨rfl, rfl, fun _ => rfl⟩
      exact key _ (by simp only [List.length_cons, List.length_nil]; omega) (by simp only [List.length_cons, List.length_nil]; omega)
  have atA : ∀ u t, get ρf t = get (runsS (steps l (ys u) 0 fun j => decide (j < pre.length)) ρ) t := fun u t => by
    rw [hρe t]
    subst hys
    rw [hsa, runsS_append]
    simp only [runsS, Nat.lt_irrefl, decide_false, Bool.false_eq_true, if_false, show decide (pre.length + 1 < pre.length) = false from decide_eq_false (by omega)]
    refine runsS_congr _ _ ρ t (by rw [steps_len _ _ _ _ hxl, steps_len _ _ _ _ hxl]) (fun i g1 g2 => ?_)
    rw [steps_len _ _ _ _ hxl] at g1
    rw [steps_get pre xs 0 _ i _ g1 (by omega), steps_get pre xs 0 _ i _ g1 (by omega)]
    exact ⟨rfl, rfl, fun _ => by simp [g1]⟩
  have atE : ∀ u t, get (runsS (steps l (ys u) 0 fun _ => true) ρ) t = get (put ρf p.d u) t := fun u t => by
    subst hys
    rw [hsa, runsS_append]
    simp only [runsS, if_true, putd]
    rw [get_put, get_put, ← hρe t]
  have iAl : pre.length < l.length := by omega
  have iBl : pre.length + 1 < l.length := by omega
  have hlast : l.length - 1 = pre.length + 1 := by omega
  refine draw_rel (M := M) (bm := bm) (tk := tk) (fun S ρ' σ' => ∃ u σ1, (∀ t, get ρ' t = get (runsS (steps l (ys u) 0 S) ρ) t) ∧ (S pre.length = true → OutA σ (get ρf p.s) src p.z u σ1) ∧ (S (pre.length + 1) = false → σ' = if S pre.length = true then σ1 else σ) ∧ (S (pre.length + 1) = true → Q .normal (put ρf p.d u) σ'))
    D.lt (fun S S' ρ' σ' hS ⟨u, σ1, e1, e2, e3, e4⟩ => ?_) hl h ⟨.junk, σ, fun t => ?_, fun e => by simp at e, fun _ => by simp, fun e => by simp at e⟩ (fun ρ' σ' ⟨u, σ1, e1, e2, e3, e4⟩ => ⟨_, e4 rfl, fun t => by rw [e1, atE]⟩) ?_
  · have s1 := hS pre.length (by omega)
    have s2 := hS (pre.length + 1) (by omega)
    exact ⟨u, σ1, fun t => by rw [e1]; exact base u S S' (fun j hj => hS j (by omega)) t, by rw [← s1]; exact e2, by rw [← s1, ← s2]; exact e3, by rw [← s2]; exact e4⟩
  · rw [runsS_none]
    intro q hq _
    obtain ⟨j, hj, rfl⟩ := List.getElem_of_mem hq
    rw [hsteps] at hj
    rw [hsg _ _ j (by rw [hsteps]; exact hj) hj]
  -- one step
  intro S i o' ho' hSi hclo hedge M bm tk a w ρ' σ' hl ⟨u, σ1, e1, e2, e3, e4⟩ hR
  have hi1 : i < ops.toList.length := (List.getElem?_eq_some_iff.1 ho').1
  have hi2 : i < l.length := by omega
  have hlo : l[i]? = some l[i] := List.getElem?_eq_getElem hi2
  have hbef : ∀ j ∈ (beforeL ops.toList []).getD i [], S j = true := before_closed D.lt (S := fun j => S j = true) hclo i o' ho' hedge
  have hbefj : ∀ q, q < l.length → S q = true → ∀ j ∈ (beforeL ops.toList []).getD q [], S j = true := fun q hq hSq => by
    have hq2 : ops.toList[q]? = some ops.toList[q] := List.getElem?_eq_getElem (by omega)
    exact before_closed D.lt (S := fun j => S j = true) hclo q _ hq2 (hclo q _ hq2 hSq)
  have hsame : ∀ t ∈ l[i].looksG ++ l[i].dst.toList, ∀ j (hj : j < l.length), j ≠ i → l[j].dst = some t → (S j = decide (j < i)) := by
    intro t ht j hj hne hd
    rcases D.cmp i l[i] hlo t ht j l[j] (List.getElem?_eq_getElem hj) hd hne with ⟨g1, g2⟩ | ⟨g1, g2⟩
    · rw [hbef j g2]; simp [g1]
    · have : ¬ S j = true := fun hjl => by
        have := hbefj j hj hjl i g2
        rw [hSi] at this; cases this
      have e : S j = false := by simpa using this
      rw [e]; simp; omega
  have hgetL : ∀ t ∈ l[i].looksG, get (runsS (steps l (ys u) 0 fun j => decide (j < i)) ρ) t = get ρ' t := by
    intro t ht
    rw [e1]
    refine runsS_congr _ _ ρ t (by rw [hsteps, hsteps]) (fun j g1 g2 => ?_)
    rw [hsteps] at g1
    rw [hsg _ _ j (by rw [hsteps]; exact g1) g1, hsg _ _ j (by rw [hsteps]; exact g1) g1]
    refine ⟨rfl, rfl, fun hd => ?_⟩
    by_cases e : j = i
    · subst e; rw [hSi]; simp
    · exact (hsame t (by simp [ht]) j g1 e hd).symm
  have hnext : ∀ u', (i = pre.length ∨ u' = u) → ∀ t, get (runsS (steps l (ys u') 0 fun j => j == i || S j) ρ) t = get (Go.Proofs.Ytinenohgemndiaa.putd ρ' l[i].dst ((ys u')[i]'(by rw [hyl]; exact hi2))) t := by
    intro u' hu t
    have hρ' : ∀ t, get ρ' t = get (runsS (steps l (ys u') 0 S) ρ) t := fun t => by
      rw [e1]
      rcases hu with rfl | rfl
      · rw [ghost u u' S hSi]
      · rfl
    rw [get_putd]
    split
    · rename_i e
      have := runsS_last (steps l (ys u') 0 fun j => j == i || S j) ρ i (by rw [hsteps]; exact hi2) t (by rw [hsg _ _ i _ hi2]; exact e) (by rw [hsg _ _ i _ hi2]; simp) (fun j hj hij hd => by
        rw [hsteps] at hj
        rw [hsg _ _ j _ hj] at hd ⊢
        simp only at hd ⊢
        rw [hsame t (by simp [e]) j hj (by omega) hd]
        simp; omega)
      rw [this, hsg _ _ i _ hi2]
    · rename_i e
      rw [hρ']
      refine runsS_congr _ _ ρ t (by rw [hsteps, hsteps]) (fun j g1 g2 => ?_)
      rw [hsteps] at g1
      rw [hsg _ _ j (by rw [hsteps]; exact g1) g1, hsg _ _ j (by rw [hsteps]; exact g1) g1]
      refine ⟨rfl, rfl, fun hd => ?_⟩
      simp only at hd ⊢
      have hne : j ≠ i := fun ee => by subst ee; exact e hd
      simp [hne]
  have hoo := hget i l[i] o' hlo ho'
  have hgd := hoo
  unfold okO at hgd
  simp only [Bool.and_eq_true] at hgd
  replace hgd := hgd.2
  have hwant : l[i].g = none → Region.wanted o' (yielded ops a.tmps) = true := fun hg => by
    rw [hg] at hgd
    split at hgd
    · rename_i hg2; simp [Region.wanted, hg2]
    · rename_i e _; cases e
    · cases hgd
  have hBf : i ≠ pre.length + 1 → S (pre.length + 1) = false := fun hne => by
    have : ¬ S (pre.length + 1) = true := fun hh => by
      have g := D.last i l[i] hlo (by omega)
      rw [hlast] at g
      have := hbefj _ iBl hh i g
      rw [hSi] at this; cases this
    simpa using this
  have done : ∀ (K : Slots → List (List V) → Prop) (R' : Slots → List (List V) → Prop), (∀ ρ'' σ'', K ρ'' σ'' → R' ρ'' σ'') → o'.wp C.P a w (Lift M bm pr w n K) (LiftX M bm pr w n fun _ _ _ => False) → o'.wp C.P a w (Lift M bm pr w n R') (LiftX M bm pr w n fun _ _ _ => False) := fun K R' hK hw =>
    Oper.wp_mono2 (fun a' w' ⟨M', bm', tk', ρ', σ', e1, k2, k3⟩ => ⟨M', bm', tk', ρ', σ', hK _ _ e1, k2, k3⟩) (fun e a' w' hh => hh) hw
  rcases Nat.lt_trichotomy i pre.length with hi | hi | hi
  · -- a calm operation
    have hBf' := hBf (by omega)
    have hσ' := e3 hBf'
    obtain ⟨ρi, ⟨hg, hL1, hL2⟩, hρi⟩ := hloc i hi (by omega)
    have hcalm := D.calm i l[i] hlo (by omega)
    have hlk := calm_looks hcalm
    rw [getp i hi hi2] at hcalm hlk hgetL hnext hoo hwant
    have hρi2 : ∀ t, get ρi t = get (runsS (steps l (ys u) 0 fun j => decide (j < i)) ρ) t := fun t => by
      rw [hρi t]
      subst hys
      rw [hsa, runsS_append]
      simp only [runsS, Nat.zero_add, show decide (pre.length < i) = false from decide_eq_false (by omega), show decide (pre.length + 1 < i) = false from decide_eq_false (by omega), Bool.false_eq_true, if_false]
    have hcur : Loc C pre[i] ρ' σ' (xs[i]'(by omega)) := by
      have h0 : Loc C pre[i] ρi σ' (xs[i]'(by omega)) := by
        rw [hσ']
        cases hA : S pre.length
        · simpa using hL1
        · simpa using hL2 σ1 (f3 u σ1 (e2 hA))
      refine h0.congr fun t ht => ?_
      rw [hlk] at ht
      rw [hρi2 t]; exact hgetL t ht
    unfold Loc at hcur
    rw [hg] at hcur
    rw [if_pos (hwant hg)]
    refine done _ _ (fun ρ'' σ'' ⟨k1, k2⟩ => ?_) (runO_sound (hG.mono hl) hR hoo (calm_run hcur))
    have nA : (pre.length == i) = false := by simp; omega
    have nB : (pre.length + 1 == i) = false := by simp; omega
    refine ⟨u, σ1, fun t => ?_, by simpa [nA] using e2, fun _ => by rw [k2]; simpa [nA] using hσ', fun hh => by simp [nB, hBf'] at hh⟩
    rw [k1, hnext u (.inr rfl) t, yp u i (by omega)]
  · -- append
    subst hi
    have hBf' := hBf (by omega)
    have hσ' := e3 hBf'
    rw [hSi] at hσ'
    simp only [Bool.false_eq_true, if_false] at hσ'
    subst hσ'
    rw [getA iAl] at hgetL hoo hwant
    have hs : get ρ' p.s = get ρf p.s := by rw [atA u]; exact (hgetL p.s (by simp [AV.A, O.looksG, OP.slotsG])).symm
    have hy : ev C ρ' p.y = ev C ρf p.y := ev_congr fun t ht => by rw [atA u]; exact (hgetL t (by simp [AV.A, O.looksG, OP.slotsG, ht])).symm
    rw [if_pos (hwant rfl)]
    refine done (fun ρ'' σ'' => ∃ u' , OutA σ' (get ρf p.s) src p.z u' σ'' ∧ ρ'' = put ρ' p.d u') _ (fun ρ'' σ'' ⟨u', k1, k2⟩ => ?_) (runO_sound (hG.mono hl) hR hoo ?_)
    · refine ⟨u', σ'', fun t => ?_, fun _ => k1, fun _ => by simp, fun hh => by simp [hBf'] at hh⟩
      rw [k2, hnext u' (.inl rfl) t, yA u', getA iAl]
      rfl
    · simp only [AV.A, runO]
      rw [hy, f1]
      simp only
      refine ⟨f2, ?_⟩
      rw [hs]
      exact appvR_out f4 fun v σ'' ho => ⟨v, ho, rfl⟩
  · -- the store
    have hiB : i = pre.length + 1 := by omega
    subst hiB
    have hall : ∀ j, j < l.length → j ≠ pre.length + 1 → S j = true := fun j hj hne => by
      have g := D.last j l[j] (List.getElem?_eq_getElem hj) (by omega)
      rw [hlast] at g
      exact hbef j g
    have hA := hall pre.length iAl (by omega)
    have hσ' := e3 hSi
    rw [hA] at hσ'
    simp only [if_true] at hσ'
    subst hσ'
    have hsl : ∀ t, get ρ' t = get (put ρf p.d u) t := fun t => by
      rw [e1, ← atE]
      refine runsS_congr _ _ ρ t (by rw [hsteps, hsteps]) (fun j g1 g2 => ?_)
      rw [hsteps] at g1
      rw [hsg _ _ j (by rw [hsteps]; exact g1) g1, hsg _ _ j (by rw [hsteps]; exact g1) g1]
      refine ⟨rfl, rfl, fun hd => ?_⟩
      simp only at hd ⊢
      by_cases e : j = pre.length + 1
      · subst e; rw [getB iBl] at hd; cases hd
      · exact hall j g1 e
    have hev : ∀ X, ev C ρ' X = ev C (put ρf p.d u) X := fun X => ev_congr fun t _ => hsl t
    obtain ⟨kv, key, q1, q2, q3⟩ := appvR_all f4 (e2 hA)
    rw [getB iBl] at hoo hwant
    rw [if_pos (hwant rfl)]
    refine done (fun ρ'' σ'' => ρ'' = ρ' ∧ Q .normal (put ρf p.d u) σ'') _ (fun ρ'' σ'' ⟨k1, k2⟩ => ?_) (runO_sound (hG.mono hl) hR hoo ?_)
    · subst k1
      refine ⟨u, σ', fun t => ?_, fun _ => e2 hA, fun hh => by simp at hh, fun _ => k2⟩
      rw [hnext u (.inr rfl) t, getB iBl]
      rfl
    · simp only [AV.B, runO, hev, q1, q2]
      exact ⟨trivial, q3⟩
end
end Go.Proofs.Ytinenohgemndiaa
set_option linter.unusedVariables false
set_option linter.unusedSimpArgs false
set_option linter.unusedSectionVars false
namespace Go.Proofs.Ytinenohgemndiaa
open Go.RowKit
def Shift (n0 : Nat) (ρ : Slots) (σ : List (List V)) (ρ' : Slots) (σ' : List (List V)) : Prop :=
  ∀ (M : Facts) (bm : List Nat) (tk : Toks) (pr : Prot) (n : Nat) (a : Act) (w : World), SRel M bm tk pr ρ σ n a w →
    ∃ M' bm', SRel M' bm' tk pr ρ' σ' n a w ∧ ∀ M0 bm0 w0, bm0.length = n0 → Later M0 bm0 pr w0 M bm w → Later M0 bm0 pr w0 M' bm' w
theorem Shift.refl (n0 : Nat) (ρ : Slots) (σ : List (List V)) : Shift n0 ρ σ ρ σ := fun M bm _ _ _ _ _ h => ⟨M, bm, h, fun _ _ _ _ h => h⟩
theorem Shift.trans {n0 : Nat} {ρ ρ' ρ'' : Slots} {σ σ' σ'' : List (List V)} (h : Shift n0 ρ σ ρ' σ') (k : Shift n0 ρ' σ' ρ'' σ'') : Shift n0 ρ σ ρ'' σ'' := fun M bm tk pr n a w hs => by
  obtain ⟨M1, b1, h1, h2⟩ := h M bm tk pr n a w hs
  obtain ⟨M2, b2, h3, h4⟩ := k M1 b1 tk pr n a w h1
  exact ⟨M2, b2, h3, fun M0 bm0 w0 e hl => h4 M0 bm0 w0 e (h2 M0 bm0 w0 e hl)⟩
theorem Shift.keep (n0 : Nat) (l : List Nat) (ρ : Slots) (σ : List (List V)) : Shift n0 ρ σ (keepOnly l ρ) σ := fun M bm _ _ _ _ _ h => ⟨M, bm, h.keep l, fun _ _ _ _ h => h⟩
theorem Shift.cut {n0 k : Nat} {ρ : Slots} {σ : List (List V)} (hk : n0 ≤ k) (h1 : boxesBelow k (σ.take k) = true) (h2 : slotsBelow k ρ = true) : Shift n0 ρ σ ρ (σ.take k) := fun M bm _ _ _ _ _ h =>
  ⟨M, bm.take k, h.drop h1 h2, fun _ _ _ e hl => hl.drop (by omega)⟩
inductive FrzD (σ : List (List V)) (k : Nat) : V → D → Prop
  | d (x : D) : FrzD σ k (.d x) x
  | own (T kk : Nat) (rows : List (List D)) : FrzD σ k (.own T kk rows) (.sl rows)
  | nil : FrzD σ k .nil (.sl [])
  | bsl (i off n kk : Nat) (cs : List V) (rows : List (List D)) (hi : k ≤ i) (hc : σ[i]? = some cs) (hn : rows.length = n) (hk : ∀ r ∈ rows, r.length = kk) (hb : off + n * kk ≤ cs.length)
      (h : ∀ r j (hr : r < rows.length) (hj : j < rows[r].length), FrzD σ k (cs.getD (off + r * kk + j) .junk) rows[r][j]) : FrzD σ k (.bsl i off n kk) (.sl rows)
inductive FrzV (σ : List (List V)) (k : Nat) : V → V → Prop
  | same (x : V) (h : V.under k x = true) : FrzV σ k x x
  | d {x : V} {y : D} (h : FrzD σ k x y) : FrzV σ k x (.d y)
  | ptr (i off : Nat) (cs : List V) (ds : List D) (hi : k ≤ i) (hc : σ[i]? = some cs) (hl : ds.length = cs.length) (h : ∀ j (hj : j < ds.length), FrzD σ k (cs.getD j .junk) ds[j]) : FrzV σ k (.ptr i off) (.row ds off)
  | agg (cs cs' : List V) (hl : cs'.length = cs.length) (h : ∀ j (hj : j < cs.length) (hj' : j < cs'.length), FrzV σ k cs[j] cs'[j]) : FrzV σ k (.agg cs) (.agg cs')
def frzM (M : Facts) (bm : List Nat) (k : Nat) (w : World) : Facts := fun b o => if b ∈ bm.drop k then w.cell? ⟨b, o, none⟩ else M b o
section
variable {M : Facts} {bm : List Nat} {tk : Toks} {pr : Prot} {ρ : Slots} {σ : List (List V)} {n : Nat} {a : Act} {w : World} {k : Nat}
theorem FrzD.no_map {x : V} {y : D} (h : FrzD σ k x y) (st : Bool) (kv : List (Key × V)) : x ≠ .mapc st kv := fun e => by subst e; cases h
theorem frzM_le (h : Inv M bm σ tk pr w) : M.le (frzM M bm k w) := fun b o x hm => by
  unfold frzM
  split
  · rename_i hb
    rw [(h.free b (List.mem_of_mem_drop hb)).1 o] at hm
    cases hm
  · exact hm
theorem frzM_old {b : Nat} (hb : b ∉ bm.drop k) (o : Nat) : frzM M bm k w b o = M b o := if_neg hb
theorem mem_drop_of {i b : Nat} (hi : k ≤ i) (hb : bm[i]? = some b) : b ∈ bm.drop k := by
  have : (bm.drop k)[i - k]? = some b := by rw [List.getElem?_drop, show k + (i - k) = i by omega]; exact hb
  exact List.mem_of_getElem? this
theorem frz_cell (h : Inv M bm σ tk pr w) {i b : Nat} (hi : k ≤ i) (hb : bm[i]? = some b) {cs : List V} (hc : σ[i]? = some cs) {o : Nat} (ho : o < cs.length) (hm : ∀ st kv, cs.getD o .junk ≠ .mapc st kv) :
    ∃ v, frzM M bm k w b o = some v ∧ Rep M bm (cs.getD o .junk) v := by
  obtain ⟨vs, T, h1, h2, h3⟩ := (h.box i b cs hb hc).resolve_right fun ⟨st, kv, es, clock, e, _⟩ => by
    subst e
    have : o = 0 := by simpa using ho
    subst this
    exact hm st kv rfl
  refine ⟨vs[o], ?_, ?_⟩
  · unfold frzM
    rw [if_pos (mem_drop_of hi hb)]
    simp [World.cell?, h1, show o < vs.size by omega]
  · have := (h3 o ho (by omega)).1.rep
    rw [List.getD_eq_getElem?_getD, List.getElem?_eq_getElem ho, Option.getD_some]
    exact this
theorem frzD_sound (h : Inv M bm σ tk pr w) {x : V} {y : D} (hf : FrzD σ k x y) : ∀ {v : Value}, Rep M bm x v → DRep (frzM M bm k w) y v := by
  induction hf with
  | d x => intro v hr; cases hr with | d hr => exact hr.mono (frzM_le h)
  | own T kk rows => intro v hr; cases hr with | own hr => exact hr.mono (frzM_le h)
  | nil => intro v hr; cases hr; exact DRep.nil _
  | bsl i off n kk cs rows hi hc hn hk hb hh ih =>
    intro v hr
    cases hr with
    | @bsl _ _ _ _ b cap hbm hcap hm =>
    subst hn
    have hlt : ∀ r j, r < rows.length → j < kk → off + r * kk + j < cs.length := fun r j hr hj => by
      have : (r + 1) * kk ≤ rows.length * kk := Nat.mul_le_mul_right _ hr
      rw [Nat.add_mul, Nat.one_mul] at this
      omega
    refine .sl rows kk _ cap (fun r j => (frzM M bm k w b (off + r * kk + j)).getD .nilIface) hk (fun r j hr hj => ?_) (fun r hr => ⟨b, off, rfl, fun j hj => ?_⟩) hcap hm
    · obtain ⟨v, g1, g2⟩ := frz_cell h hi hbm hc (hlt r j hr (by rw [← hk _ (List.getElem_mem hr)]; exact hj)) (FrzD.no_map (hh r j hr hj))
      rw [g1, Option.getD_some]
      exact ih r j hr hj g2
    · obtain ⟨v, g1, g2⟩ := frz_cell h hi hbm hc (hlt r j hr hj) (FrzD.no_map (hh r j hr (by rw [hk _ (List.getElem_mem hr)]; exact hj)))
      rw [g1, Option.getD_some]
theorem frzV_sound (h : Inv M bm σ tk pr w) {x y : V} (hf : FrzV σ k x y) : ∀ {v : Value}, Rep M bm x v → Rep (frzM M bm k w) (bm.take k) y v := by
  induction hf with
  | same x hu => intro v hr; exact (hr.drop hu).mono (frzM_le h) (fun _ _ h => h)
  | d hd => intro v hr; exact .d (frzD_sound h hd hr)
  | ptr i off cs ds hi hc hl hh =>
    intro v hr
    cases hr with
    | @ptr _ _ b hbm =>
    have : (⟨b, off, none⟩ : Addr) = ⟨b, 0 + off, none⟩ := by rw [Nat.zero_add]
    rw [this]
    refine .row (fun j => (frzM M bm k w b j).getD .nilIface) (fun j hj => ?_) (fun j hj => ?_)
    · obtain ⟨v, g1, g2⟩ := frz_cell h hi hbm hc (o := j) (by omega) (FrzD.no_map (hh j hj))
      rw [Nat.zero_add, g1, Option.getD_some]
    · obtain ⟨v, g1, g2⟩ := frz_cell h hi hbm hc (o := j) (by omega) (FrzD.no_map (hh j hj))
      rw [g1, Option.getD_some]
      exact frzD_sound h (hh j hj) g2
  | agg cs cs' hl hh ih =>
    intro v hr
    cases hr with
    | agg g1 g2 g3 => exact .agg (by omega) (fun j h1 h2 => ih j (by omega) h1 (g2 j (by omega) h2)) g3
theorem Owned.frz {T kk : Nat} {rows : List (List D)} {v : Value} {t : Option Nat} (h : Owned M w T kk rows v t) (ht : ∀ g, t = some g → g ∉ bm) : Owned (frzM M bm k w) w T kk rows v t :=
  h.keep fun g hg => ⟨rfl, fun o => frzM_old (fun hb => ht g hg (List.mem_of_mem_drop hb)) o⟩
theorem Inv.frz (h : Inv M bm σ tk pr w) (hb : boxesBelow k (σ.take k) = true) : Inv (frzM M bm k w) (bm.take k) (σ.take k) tk pr w := by
  have hd := h.drop hb
  have hnd : ∀ b, b ∈ bm.take k → b ∉ bm.drop k := fun b h1 h2 => by
    have := h.bmnd
    rw [← List.take_append_drop k bm, List.nodup_append] at this
    exact this.2.2 b h1 b h2 rfl
  refine ⟨fun b o x hm => ?_, hd.len, fun i b cs hi hc => ?_, fun b hb => ⟨fun o => ?_, (hd.free b hb).2⟩, hd.bmnd, hd.tok, hd.inj, hd.prlt⟩
  · unfold frzM at hm
    split at hm
    · exact hm
    · exact h.facts b o x hm
  · rcases hd.box i b cs hi hc with ⟨vs, T, h1, h2, h3⟩ | h1
    case inr => exact .inr (h1.mono (frzM_le h) (fun _ _ h => h) rfl)
    refine .inl ⟨vs, T, h1, h2, fun j g1 g2 => ⟨⟨(h3 j g1 g2).1.rep.mono (frzM_le h) (fun _ _ h => h), fun T kk rows e => ((h3 j g1 g2).1.own T kk rows e).frz fun g hg => (h.tok _ _ _ hg).2.1⟩, (h3 j g1 g2).2⟩⟩
  · rw [frzM_old (hnd b hb)]; exact (hd.free b hb).1 o
theorem Later.frz {M0 : Facts} {bm0 : List Nat} {w0 : World} (h : Inv M bm σ tk pr w) (hl : Later M0 bm0 pr w0 M bm w) (hk : bm0.length ≤ k) : Later M0 bm0 pr w0 (frzM M bm k w) (bm.take k) w := by
  have hd := hl.drop hk
  refine ⟨hd.le.trans (frzM_le h), hd.pre, hd.keep, fun b hb o => ?_, hd.os, hd.tape, hd.output, hd.size⟩
  rw [frzM_old (fun hm => (h.free b (List.mem_of_mem_drop hm)).2 hb)]
  exact hl.facts b hb o
theorem get_mem {t : Nat} : ∀ (ρ : Slots), get ρ t = .junk ∨ (t, get ρ t) ∈ ρ
  | [] => .inl rfl
  | (s, u) :: r => by
    simp only [get]
    split
    · rename_i e; subst e; exact .inr (by simp)
    · rcases get_mem r with h | h
      · exact .inl h
      · exact .inr (List.mem_cons_of_mem _ h)
theorem Shift.frz {n0 k : Nat} {ρ ρ' : Slots} {σ : List (List V)} (hk : n0 ≤ k) (h1 : boxesBelow k (σ.take k) = true) (h2 : ∀ p, p ∈ ρ' → FrzV σ k (get ρ p.1) p.2) : Shift n0 ρ σ ρ' (σ.take k) := fun M bm tk pr n a w h =>
  ⟨frzM M bm k w, bm.take k, ⟨h.inv.frz h1, h.defers, h.size, fun t => by
    rcases get_mem (t := t) ρ' with e | e
    · rw [e]; exact CellOK.junk ..
    · have hf := h2 _ e
      have hs := h.slots t
      refine ⟨frzV_sound h.inv hf hs.rep, fun T kk rows eo => ?_⟩
      simp only at hf
      rw [eo] at hf
      generalize get ρ t = z at hf hs
      cases hf with
      | same _ _ => exact (hs.own T kk rows rfl).frz fun g hg => (h.inv.tok _ _ _ hg).2.1⟩, fun M0 bm0 w0 e hl => hl.frz h.inv (by omega)⟩
end
end Go.Proofs.Ytinenohgemndiaa
namespace Go.Proofs.Ytinenohgemndiaa
open Go.RowKit
inductive Cd where
  | skip
  | ops (l : List O) (keep : List Nat)
  | draw (l : List O) (keep : List Nat)
  | drawa (l : List O) (keep : List Nat)
  | drawn (cs : List V) (l : List O) (keep : List Nat)
  | draws (l : List O) (keep : List Nat)
  | drawb (s d0 d1 T k bytes : Nat) (y : X) (l : List O) (keep : List Nat)
  | drawx (pre : List O) (d : Option Nat) (f : FuncId) (args : List X) (post : List O) (kk : Nat) (y z : X) (keep : List Nat)
  | drawg (l : List (O × GK)) (keep : List Nat)
  | drawv (p : AV) (l : List O) (keep : List Nat)
  | seq (a b : Cd)
  | cond (x : X) (a b : Cd)
  | block (id : Nat) (a : Cd)
  | loop (a : Cd)
  | exit (id : Nat)
  | ret
abbrev APost := AEx → Slots → List (List V) → Prop
def andThen (next : Slots → List (List V) → Prop) (Q : APost) : APost := fun e ρ σ => match e with
  | .normal => next ρ σ
  | e => Q e ρ σ
def inBlk (id : Nat) (Q : APost) : APost := fun e ρ σ => match e with
  | .exit j => if j = id then Q .normal ρ σ else Q (.exit j) ρ σ
  | e => Q e ρ σ
inductive Up : List (List V) → List (List V) → Prop
  | refl (σ : List (List V)) : Up σ σ
  | step {σ σ' : List (List V)} {i : Nat} {cs : List V} {off : Nat} (T : TypeId) (k : Nat) (h1 : σ[i]? = some cs) (h2 : cs[off]? = some .nil) (h : Up (σ.set i (cs.set off (.own T k []))) σ') : Up σ σ'
theorem SRel.nil_own {M : Facts} {bm : List Nat} {tk : Toks} {pr : Prot} {ρ : Slots} {σ : List (List V)} {n : Nat} {a : Act} {w : World} (h : SRel M bm tk pr ρ σ n a w) {i : Nat} {cs : List V} {off : Nat} (T : TypeId) (k : Nat) (h1 : σ[i]? = some cs) (h2 : cs[off]? = some .nil) : SRel M bm tk pr ρ (σ.set i (cs.set off (.own T k []))) n a w := by
  refine ⟨⟨h.inv.facts, by rw [List.length_set]; exact h.inv.len, fun i' b cs' hi hc => ?_, h.inv.free, h.inv.bmnd, h.inv.tok, h.inv.inj, h.inv.prlt⟩, h.defers, h.size, h.slots⟩
  by_cases e : i' = i
  · subst e
    obtain ⟨vs, T', g1, g2, g3⟩ := (h.inv.box i' b cs hi h1).resolve_right fun ⟨st, kv, es, clock, e, _⟩ => by subst e; cases off <;> simp at h2
    have hl : i' < σ.length := (List.getElem?_eq_some_iff.1 h1).1
    rw [List.getElem?_set_self hl] at hc
    cases hc
    refine .inl ⟨vs, T', g1, by rw [List.length_set]; exact g2, fun j hj hj' => ?_⟩
    have hj0 : j < cs.length := by simpa using hj
    obtain ⟨k1, k2⟩ := g3 j hj0 hj'
    by_cases e2 : j = off
    · subst e2
      have hn : cs[j] = .nil := (List.getElem?_eq_some_iff.1 h2).2
      rw [List.getElem_set_self]
      refine ⟨?_, k2⟩
      have hr := k1.rep
      rw [hn] at hr
      generalize vs[j] = v at hr ⊢
      cases hr
      exact ⟨.own (DRep.nil M), fun T2 k2 rows e => by cases e; exact .inl ⟨rfl, rfl⟩⟩
    · rw [List.getElem_set_ne (Ne.symm e2)]
      exact ⟨k1, k2⟩
  · rw [List.getElem?_set_ne (Ne.symm e)] at hc
    exact h.inv.box i' b cs' hi hc
theorem SRel.up {M : Facts} {bm : List Nat} {tk : Toks} {pr : Prot} {ρ : Slots} {σ σ' : List (List V)} {n : Nat} {a : Act} {w : World} (hu : Up σ σ') (h : SRel M bm tk pr ρ σ n a w) : SRel M bm tk pr ρ σ' n a w := by
  induction hu with
  | refl σ => exact h
  | step T k h1 h2 _ ih => exact ih (h.nil_own T k h1 h2)
theorem Shift.up (n0 : Nat) (ρ : Slots) {σ σ' : List (List V)} (hu : Up σ σ') : Shift n0 ρ σ ρ σ' := fun M bm _ _ _ _ _ h => ⟨M, bm, h.up hu, fun _ _ _ _ h => h⟩
def awp (C : Cx) (n0 : Nat) : Cd → Slots → List (List V) → APost → Prop
  | .skip, ρ, σ, Q => Q .normal ρ σ
  | .ops l keep, ρ, σ, Q => awpOps C l ρ σ fun e ρ' σ' => Q e (keepOnly keep ρ') σ'
  | .draw l keep, ρ, σ, Q => awpCalm C l ρ σ fun ρ' => Q .normal (keepOnly keep ρ') σ
  | .drawa l keep, ρ, σ, Q => ∃ (c : Cell) (cs : List V), σ[c.i]? = some cs ∧ cs[c.off]? = some (.own c.T c.k c.rows) ∧
      awpA C c σ (σ.set c.i (cs.set c.off (.d (.sl c.rows)))) l ρ none fun ρ' rows2 => Q .normal (keepOnly keep ρ') ((σ.set c.i (cs.set c.off (.d (.sl c.rows)))).set c.i (over (cs.set c.off (.d (.sl c.rows))) c.off [.own c.T c.k (c.rows ++ rows2)]))
  | .drawn cs l keep, ρ, σ, Q => awpN C cs σ (σ ++ [cs]) l ρ none fun ρ' fin => Q .normal (keepOnly keep ρ') (σ ++ [fin])
  | .draws l keep, ρ, σ, Q => awpS C σ l ρ none fun ρ' σ' => Q .normal (keepOnly keep ρ') σ'
  | .drawx pre d f args post kk y z keep, ρ, σ, Q => awpX C pre d f args post kk y z ρ σ (fun ρ' σ' => Q .normal (keepOnly keep ρ') σ') (fun u σ' => ∀ ρ', Q (.panic u) (keepOnly keep ρ') σ')
  | .drawb s d0 d1 T k bytes y l keep, ρ, σ, Q => awpB C s d0 d1 T k bytes y l ρ σ fun ρ' => Q .normal (keepOnly keep ρ') σ
  | .drawg l keep, ρ, σ, Q => awpG C (fun u σ' => ∀ ρ', Q (.panic u) (keepOnly keep ρ') σ') (fun ρ' σ' => Q .normal (keepOnly keep ρ') σ') l 0 [] [] ρ σ
  | .drawv p l keep, ρ, σ, Q => awpV C p σ (fun ρ' σ' => Q .normal (keepOnly keep ρ') σ') l [] ρ
  | .seq a b, ρ, σ, Q => awp C n0 a ρ σ (andThen (fun ρ' σ' => awp C n0 b ρ' σ' Q) Q)
  | .cond x a b, ρ, σ, Q => match ev C ρ x with
    | .d (.lit (.bool t)) => (t = true → awp C n0 a ρ σ Q) ∧ (t = false → awp C n0 b ρ σ Q)
    | _ => False
  | .block id a, ρ, σ, Q => awp C n0 a ρ σ (inBlk id Q)
  | .loop a, ρ, σ, Q => ∃ (ρ1 : Slots) (σ1 : List (List V)), Shift n0 ρ σ ρ1 σ1 ∧ ∃ I : Nat → Slots → List (List V) → Prop, (∃ m, I m ρ1 σ1) ∧ ∀ m ρ' σ', I m ρ' σ' → awp C n0 a ρ' σ' (andThen (fun ρ'' σ'' => ∃ m', m' < m ∧ ∃ ρ3 σ3, Shift n0 ρ'' σ'' ρ3 σ3 ∧ I m' ρ3 σ3) Q)
  | .exit id, ρ, σ, Q => Q (.exit id) ρ σ
  | .ret, ρ, σ, Q => Q .ret ρ σ
def okC (tab : Tab) (n : Nat) : Cd → Code → Bool
  | .skip, .skip => true
  | .ops l _, .region _ ops false => okOs tab n ops l ops.toList
  | .draw l _, .region _ ops true => okOs tab n ops l ops.toList && drawOK l ops.toList
  | .drawa l _, .region _ ops true => okOs tab n ops l ops.toList && drawAOK l ops.toList
  | .draws l _, .region _ ops true => okOs tab n ops l ops.toList && drawSOK l ops.toList
  | .drawx pre d f args post kk y z _, .region _ ops true => okOs tab n ops (xL pre d f args post kk y z) ops.toList && drawXOK pre.length post.length (xL pre d f args post kk y z) ops.toList
  | .drawb s d0 d1 T k bytes y l _, .region _ ops true => okOs tab n ops (bL s d0 d1 T k bytes y l) ops.toList && drawBOK s d0 d1 y l ops.toList
  | .drawn _ l _, .region _ ops true => okOs tab n ops l ops.toList && drawNOK l ops.toList
  | .drawg l _, .region _ ops true => okOs tab n ops (l.map (·.1)) ops.toList && drawGOK l ops.toList
  | .drawv p l _, .region _ ops true => okOs tab n ops (l ++ [p.A, p.B]) ops.toList && drawVOK (l ++ [p.A, p.B]) ops.toList
  | .seq a b, .seq a' b' => okC tab n a a' && okC tab n b b'
  | .cond x a b, .cond x' a' b' => okX x x' && okC tab n a a' && okC tab n b b'
  | .block i a, .block i' a' => i == i' && okC tab n a a'
  | .loop a, .loop a' => okC tab n a a'
  | .exit i, .exit i' => i == i'
  | .ret, .ret => true
  | _, _ => false
section
variable {C : Cx} {n0 n : Nat} {pr : Prot} {M0 : Facts} {bm0 : List Nat} {w0 : World}
theorem LiftX.keep {M : Facts} {bm : List Nat} {w : World} {Q : APost} {l : List Nat} {e : Exit} {a : Act} {w' : World} (h : LiftX M bm pr w n (fun x ρ σ => Q x (keepOnly l ρ) σ) e a w') : LiftX M bm pr w n Q e a w' := by
  obtain ⟨M', bm', tk', ρ', σ', x, h1, h2, h3, h4⟩ := h
  exact ⟨M', bm', tk', _, σ', x, h1, h2, h3.keep l, h4⟩
theorem awp_sound (hG : C.glob M0 pr w0) (hn0 : bm0.length = n0) : ∀ {c : Cd} {c' : Code} {M : Facts} {bm : List Nat} {tk : Toks} {ρ : Slots} {σ : List (List V)} {a : Act} {w : World} {Q : APost}, okC C.tab n c c' = true → Later M0 bm0 pr w0 M bm w → SRel M bm tk pr ρ σ n a w →
    awp C n0 c ρ σ Q → c'.wp C.P (LiftX M0 bm0 pr w0 n Q) a w := by
  intro c
  induction c with
  | skip =>
    intro c' M bm tk ρ σ a w Q hok hl h hq
    cases c' <;> simp only [okC] at hok <;> first | (cases hok; done) | skip
    exact wp_skip ⟨M, bm, tk, ρ, σ, _, hq, .normal, h, hl⟩
  | ops l keep =>
    intro c' M bm tk ρ σ a w Q hok hl h hq
    cases c' with
    | region id ops draw =>
      cases draw with
      | false =>
        have hok : okOs C.tab n ops l ops.toList = true := hok
        exact wp_mono (wp_region_list (awpOps_sound hG hok hl h hq)) (fun e a w hL => LiftX.keep (l := keep) hL)
      | true => cases hok
    | _ => cases hok
  | draw l keep =>
    intro c' M bm tk ρ σ a w Q hok hl h hq
    cases c' with
    | region id ops draw =>
      cases draw with
      | true =>
        have hok : (okOs C.tab n ops l ops.toList && drawOK l ops.toList) = true := hok
        simp only [Bool.and_eq_true] at hok
        exact wp_mono (draw_sound (Q := fun x ρ σ => Q x (keepOnly keep ρ) σ) hG hok.1 hok.2 hl h hq) (fun e a w hL => LiftX.keep (l := keep) hL)
      | false => cases hok
    | _ => cases hok
  | drawa l keep =>
    intro c' M bm tk ρ σ a w Q hok hl h hq
    cases c' with
    | region id ops draw =>
      cases draw with
      | true =>
        have hok : (okOs C.tab n ops l ops.toList && drawAOK l ops.toList) = true := hok
        simp only [Bool.and_eq_true] at hok
        obtain ⟨c, cs, h1, h2, h3⟩ := hq
        exact wp_mono (drawa_sound (Q := fun x ρ σ => Q x (keepOnly keep ρ) σ) hG hok.1 hok.2 hl h h1 h2 h3) (fun e a w hL => LiftX.keep (l := keep) hL)
      | false => cases hok
    | _ => cases hok
  | drawn cs l keep =>
    intro c' M bm tk ρ σ a w Q hok hl h hq
    cases c' with
    | region id ops draw =>
      cases draw with
      | true =>
        have hok : (okOs C.tab n ops l ops.toList && drawNOK l ops.toList) = true := hok
        simp only [Bool.and_eq_true] at hok
        exact wp_mono (drawn_sound (Q := fun x ρ σ => Q x (keepOnly keep ρ) σ) hG hok.1 hok.2 hl h (cs := cs) hq) (fun e a w hL => LiftX.keep (l := keep) hL)
      | false => cases hok
    | _ => cases hok
  | draws l keep =>
    intro c' M bm tk ρ σ a w Q hok hl h hq
    cases c' with
    | region id ops draw =>
      cases draw with
      | true =>
        have hok : (okOs C.tab n ops l ops.toList && drawSOK l ops.toList) = true := hok
        simp only [Bool.and_eq_true] at hok
        exact wp_mono (draws_sound (Q := fun x ρ σ => Q x (keepOnly keep ρ) σ) hG hok.1 hok.2 hl h hq) (fun e a w hL => LiftX.keep (l := keep) hL)
      | false => cases hok
    | _ => cases hok
  | drawv p l keep =>
    intro c' M bm tk ρ σ a w Q hok hl h hq
    cases c' with
    | region id ops draw =>
      cases draw with
      | true =>
        have hok : (okOs C.tab n ops (l ++ [p.A, p.B]) ops.toList && drawVOK (l ++ [p.A, p.B]) ops.toList) = true := hok
        simp only [Bool.and_eq_true] at hok
        exact wp_mono (drawv_sound (Q := fun x ρ σ => Q x (keepOnly keep ρ) σ) hG hok.1 hok.2 hl h hq) (fun e a w hL => LiftX.keep (l := keep) hL)
      | false => cases hok
    | _ => cases hok
  | drawb s0 d0 d1 T k bytes y l keep =>
    intro c' M bm tk ρ σ a w Q hok hl h hq
    cases c' with
    | region id ops draw =>
      cases draw with
      | true =>
        have hok : (okOs C.tab n ops (bL s0 d0 d1 T k bytes y l) ops.toList && drawBOK s0 d0 d1 y l ops.toList) = true := hok
        simp only [Bool.and_eq_true] at hok
        exact wp_mono (drawb_sound (Q := fun x ρ σ => Q x (keepOnly keep ρ) σ) hG hok.1 hok.2 hl h hq) (fun e a w hL => LiftX.keep (l := keep) hL)
      | false => cases hok
    | _ => cases hok
  | drawx pre d f args post kk y z keep =>
    intro c' M bm tk ρ σ a w Q hok hl h hq
    cases c' with
    | region id ops draw =>
      cases draw with
      | true =>
        have hok : (okOs C.tab n ops (xL pre d f args post kk y z) ops.toList && drawXOK pre.length post.length (xL pre d f args post kk y z) ops.toList) = true := hok
        simp only [Bool.and_eq_true] at hok
        exact wp_mono (drawx_sound (Q := fun x ρ σ => Q x (keepOnly keep ρ) σ) hG hok.1 hok.2 hl h hq) (fun e a w hL => LiftX.keep (l := keep) hL)
      | false => cases hok
    | _ => cases hok
  | drawg l keep =>
    intro c' M bm tk ρ σ a w Q hok hl h hq
    cases c' with
    | region id ops draw =>
      cases draw with
      | true =>
        have hok : (okOs C.tab n ops (l.map (·.1)) ops.toList && drawGOK l ops.toList) = true := hok
        simp only [Bool.and_eq_true] at hok
        exact wp_mono (drawg_sound (Q := fun x ρ σ => Q x (keepOnly keep ρ) σ) hG hok.1 hok.2 hl h hq) (fun e a w hL => LiftX.keep (l := keep) hL)
      | false => cases hok
    | _ => cases hok
  | seq x y ihx ihy =>
    intro c' M bm tk ρ σ a w Q hok hl h hq
    cases c' <;> simp only [okC, Bool.and_eq_true] at hok <;> first | (cases hok; done) | skip
    refine wp_seq (wp_mono (ihx hok.1 hl h hq) (fun e a' w' hL => ?_))
    obtain ⟨M', bm', tk', ρ', σ', x, k1, k2, k3, k4⟩ := hL
    cases k2 with
    | normal => exact ihy hok.2 k4 k3 k1
    | ret => exact ⟨M', bm', tk', ρ', σ', _, k1, .ret, k3, k4⟩
    | exit id => exact ⟨M', bm', tk', ρ', σ', _, k1, .exit id, k3, k4⟩
    | panic hp => exact ⟨M', bm', tk', ρ', σ', _, k1, .panic hp, k3, k4⟩
  | cond x y z ihy ihz =>
    intro c' M bm tk ρ σ a w Q hok hl h hq
    cases c' <;> simp only [okC, Bool.and_eq_true] at hok <;> first | (cases hok; done) | skip
    have hx := okX_sound (hG.mono hl) h hok.1.1
    simp only [awp] at hq
    split at hq
    · rename_i t e
      rw [e] at hx
      have hv := hx.bool_inv
      cases t with
      | true => exact wp_cond_true hv (ihy hok.1.2 hl h (hq.1 rfl))
      | false => exact wp_cond_false hv (ihz hok.2 hl h (hq.2 rfl))
    · exact hq.elim
  | block id x ih =>
    intro c' M bm tk ρ σ a w Q hok hl h hq
    cases c' <;> simp only [okC, Bool.and_eq_true, beq_iff_eq] at hok <;> first | (cases hok; done) | skip
    obtain ⟨rfl, hok⟩ := hok
    refine wp_block (wp_mono (ih hok hl h hq) (fun e a' w' hL => ?_))
    obtain ⟨M', bm', tk', ρ', σ', x, k1, k2, k3, k4⟩ := hL
    cases k2 with
    | normal => exact ⟨M', bm', tk', ρ', σ', _, k1, .normal, k3, k4⟩
    | ret => exact ⟨M', bm', tk', ρ', σ', _, k1, .ret, k3, k4⟩
    | exit j =>
      simp only [inBlk] at k1
      simp only [Exit.inBlock]
      split
      · rename_i e; rw [if_pos e] at k1; exact ⟨M', bm', tk', ρ', σ', _, k1, .normal, k3, k4⟩
      · rename_i e; rw [if_neg e] at k1; exact ⟨M', bm', tk', ρ', σ', _, k1, .exit j, k3, k4⟩
    | panic hp => exact ⟨M', bm', tk', ρ', σ', _, k1, .panic hp, k3, k4⟩
  | loop x ih =>
    intro c' M bm tk ρ σ a w Q hok hl h hq
    cases c' <;> simp only [okC] at hok <;> first | (cases hok; done) | skip
    obtain ⟨ρ1, σ1, hsh, I, ⟨m, hm⟩, hI⟩ := hq
    obtain ⟨M1, bm1, h1, h2⟩ := hsh M bm tk pr n a w h
    have hl1 := h2 M0 bm0 w0 hn0 hl
    rename_i c'
    intro b k cs
    have key : ∀ (m : Nat) (M : Facts) (bm : List Nat) (tk : Toks) (ρ : Slots) (σ : List (List V)) (a : Act) (w : World), Later M0 bm0 pr w0 M bm w → SRel M bm tk pr ρ σ n a w → I m ρ σ →
        ∃ e a' w', LiftX M0 bm0 pr w0 n Q e a' w' ∧ Arrives C.P (lone (b.at a (.code c' :: .inLoop c' :: k)) cs w) b k cs e a' w' := by
      intro m
      induction m using Nat.strongRecOn with
      | _ m ihm =>
      intro M bm tk ρ σ a w hl h hm
      obtain ⟨e, a₁, w₁, hq, harr⟩ := ih hok hl h (hI m ρ σ hm) b (.inLoop c' :: k) cs
      obtain ⟨M', bm', tk', ρ', σ', x, k1, k2, k3, k4⟩ := hq
      cases k2 with
      | normal =>
        obtain ⟨m', hlt, ρ3, σ3, g1, g4⟩ := k1
        obtain ⟨M3, bm3, g2, g3⟩ := g1 M' bm' tk' pr n a₁ w₁ k3
        obtain ⟨e₂, a₂, w₂, hq₂, harr₂⟩ := ihm m' hlt M3 bm3 tk' ρ3 σ3 a₁ w₁ (g3 M0 bm0 w0 hn0 k4) g2 g4
        exact ⟨e₂, a₂, w₂, hq₂, .of_steps (Steps.trans harr (.one step_inLoop)) harr₂⟩
      | ret => exact ⟨_, a₁, w₁, ⟨M', bm', tk', ρ', σ', _, k1, .ret, k3, k4⟩, .pass (x := .inLoop c') rfl (fun _ _ => .inl (by simp)) harr⟩
      | exit id => exact ⟨_, a₁, w₁, ⟨M', bm', tk', ρ', σ', _, k1, .exit id, k3, k4⟩, .pass (x := .inLoop c') rfl (fun _ _ => .inl (by simp)) harr⟩
      | panic hp => exact ⟨_, a₁, w₁, ⟨M', bm', tk', ρ', σ', _, k1, .panic hp, k3, k4⟩, .pass (x := .inLoop c') rfl (fun _ _ => .inl (by simp)) harr⟩
    obtain ⟨e, a', w', hq, harr⟩ := key m M1 bm1 tk _ σ1 a w hl1 h1 hm
    exact ⟨e, a', w', hq, .of_steps (.one step_loop) harr⟩
  | exit id =>
    intro c' M bm tk ρ σ a w Q hok hl h hq
    cases c' <;> simp only [okC, beq_iff_eq] at hok <;> first | (cases hok; done) | skip
    subst hok
    exact wp_exit ⟨M, bm, tk, ρ, σ, _, hq, .exit id, h, hl⟩
  | ret =>
    intro c' M bm tk ρ σ a w Q hok hl h hq
    cases c' <;> simp only [okC] at hok <;> first | (cases hok; done) | skip
    exact wp_ret ⟨M, bm, tk, ρ, σ, _, hq, .ret, h, hl⟩
end
end Go.Proofs.Ytinenohgemndiaa
namespace Go.Proofs.Ytinenohgemndiaa
open Go.RowKit
inductive D.Wf : D → Prop
  | lit (v : Value) (h : Fits v) : D.Wf (.lit v)
  | sl (rows : List (List D)) (hl : rows.length ≤ maxLen) (h : ∀ i j (hi : i < rows.length) (hj : j < rows[i].length), D.Wf rows[i][j]) : D.Wf (.sl rows)
theorem DRep.wf {M : Facts} {x : D} {v : Value} (h : DRep M x v) : x.Wf := by
  induction h with
  | lit v h => exact .lit v h
  | sl rows k p cap val hk hd hf hc hm ih => exact .sl rows (by omega) ih
inductive V.Wf : V → Prop
  | d {x : D} (h : x.Wf) : V.Wf (.d x)
  | own {T k : Nat} {rows : List (List D)} (h : (D.sl rows).Wf) : V.Wf (.own T k rows)
  | agg {cs : List V} (h : ∀ i (h : i < cs.length), V.Wf cs[i]) : V.Wf (.agg cs)
  | nil : V.Wf .nil
  | tup (cs : List V) : V.Wf (.tup cs)
  | ptr (i o : Nat) : V.Wf (.ptr i o)
  | bsl (i o n k : Nat) : V.Wf (.bsl i o n k)
  | row (cs : List D) (o : Nat) : V.Wf (.row cs o)
  | fn (f : FuncId) (cs : List V) : V.Wf (.fn f cs)
  | iface (t : TypeId) (v : V) : V.Wf (.iface t v)
  | mp (i : Nat) : V.Wf (.mp i)
  | bsc (i n c : Nat) : V.Wf (.bsc i n c)
  | junk : V.Wf .junk
theorem Rep.wf {M : Facts} {bm : List Nat} {x : V} {v : Value} (h : Rep M bm x v) : x.Wf := by
  induction h with
  | d h => exact .d h.wf
  | own h => exact .own h.wf
  | nil => exact .nil
  | agg hl h h1 ih => exact .agg fun i hi => ih i hi (by omega)
  | tup hl h ih => exact .tup _
  | ptr h => exact .ptr _ _
  | bsl h hc hm => exact .bsl _ _ _ _
  | row val hf hd => exact .row _ _
  | fn hl h ih => exact .fn _ _
  | iface h ih => exact .iface _ _
  | mp h => exact .mp _
  | bsc h hc hm => exact .bsc _ _ _
  | junk v => exact .junk
inductive RV where
  | t (n : Nat) (own : Bool)
  | c (n k : Nat) (ag : Bool)
def res1 (σ : List (List V)) (ρ : Slots) : RV → Option V
  | .t n true => some (get ρ n)
  | .t n false => some (get ρ n).lend
  | .c n k ag => (loadV σ k ag (get ρ n)).map V.lend
def resL (σ : List (List V)) (ρ : Slots) : List RV → Option (List V)
  | [] => some []
  | r :: rs => match res1 σ ρ r, resL σ ρ rs with | some v, some l => some (v.lend :: l) | _, _ => none
def resV (σ : List (List V)) (ρ : Slots) : List RV → Option V
  | [r] => res1 σ ρ r
  | rs => (resL σ ρ rs).map V.tup
def okRV (tab : Tab) : RV → ResultVar → Bool
  | .t n _, .tmp m => n == m
  | .c n k ag, .cell m t => n == m && (match tab t with | some i => i.sz == k && i.agg == ag | none => false)
  | _, _ => false
def okRVs (tab : Tab) : List RV → List ResultVar → Bool
  | [], [] => true
  | r :: rs, r' :: rs' => okRV tab r r' && okRVs tab rs rs'
  | _, _ => false
def okFn (tab : Tab) (fn : Func) (m : Nat) (c : Cd) (rs : List RV) : Bool :=
  (match fn.body with | some b => okC tab fn.ntmps c b | none => false) && okRVs tab rs fn.results.toList && decide (m ≤ fn.ntmps) && !(fn.name == "runtime.NumGoroutine")
def fin (n0 : Nat) (rs : List RV) (Q : Out → List (List V) → Prop) : APost := fun e ρ σ' => match e with
  | .normal => ∃ ρ2 σ2, Shift n0 ρ σ' ρ2 σ2 ∧ ∃ v, resV σ2 ρ2 rs = some v ∧ ∃ k, n0 ≤ k ∧ boxesBelow k (σ2.take k) = true ∧ V.under k v = true ∧ Q (.ret v) (σ2.take k)
  | .ret => ∃ ρ2 σ2, Shift n0 ρ σ' ρ2 σ2 ∧ ∃ v, resV σ2 ρ2 rs = some v ∧ ∃ k, n0 ≤ k ∧ boxesBelow k (σ2.take k) = true ∧ V.under k v = true ∧ Q (.ret v) (σ2.take k)
  | .panic v => ∃ k, n0 ≤ k ∧ boxesBelow k (σ'.take k) = true ∧ V.under k v = true ∧ Q (.panic v) (σ'.take k)
  | .exit _ => False
def slots0 : Nat → List V → Slots
  | _, [] => []
  | i, v :: r => (i, v) :: slots0 (i + 1) r
def resS (tmps : Array Value) : ResultVar → Sem Value
  | .tmp t => pure (tmps.getD t undef)
  | .cell a t => do loadVar t (← asAddr (tmps.getD a undef))
theorem results_eq (fn : Func) (tmps : Array Value) : results fn tmps = (do
    let vs ← fn.results.mapM (resS tmps)
    pure (if h : vs.size = 1 then vs[0] else .tuple vs)) := by
  unfold results
  congr 1
section
variable {C : Cx} {M : Facts} {bm : List Nat} {tk : Toks} {pr : Prot} {ρ : Slots} {σ : List (List V)} {n : Nat} {a : Act} {w : World}
theorem res1_sound (h : SRel M bm tk pr ρ σ n a w) {r : RV} {r' : ResultVar} (hok : okRV C.tab r r' = true) {x : V} (hx : res1 σ ρ r = some x) :
    ∃ v, (resS a.tmps r').run C.P w = .ok v w ∧ ∃ t, CellOK M bm w x v t ∧ (t = none ∨ ∃ s, t = tk none s) := by
  unfold okRV at hok
  split at hok
  · rename_i m own m'
    simp only [beq_iff_eq] at hok
    subst hok
    cases own with
    | true => cases hx; exact ⟨_, rfl, _, h.slots m, .inr ⟨m, rfl⟩⟩
    | false => cases hx; exact ⟨_, rfl, none, ⟨(h.slots m).rep.lend, fun _ _ _ e => absurd e V.lend_own⟩, .inl rfl⟩
  · rename_i m k ag m' t
    simp only [Bool.and_eq_true, beq_iff_eq] at hok
    obtain ⟨rfl, h2⟩ := hok
    split at h2
    · rename_i i hi
      simp only [Bool.and_eq_true, beq_iff_eq] at h2
      obtain ⟨rfl, rfl⟩ := h2
      obtain ⟨y, hy, rfl⟩ := Option.map_eq_some_iff.1 hx
      obtain ⟨v, h3, h4, h5⟩ := load_sound h.inv hi hy (h.slots m).rep
      refine ⟨v, ?_, none, ⟨h4.lend, fun _ _ _ e => absurd e V.lend_own⟩, .inl rfl⟩
      have hptr : ∃ ad, a.tmps.getD m undef = .pointer (some ad) := by
        have hr := (h.slots m).rep
        unfold loadV at hy
        obtain ⟨cs, hcs, -⟩ := Option.bind_eq_some_iff.1 hy
        obtain ⟨ad, vs, e, -⟩ := cells_sound h.inv hcs hr
        exact ⟨ad, e⟩
      obtain ⟨ad, e⟩ := hptr
      simp only [resS]
      rw [e] at h3 ⊢
      simpa [Instr.loadAt, Instr.sureAddr, asAddr] using h3
    · cases h2
  · cases hok
theorem resL_sound (h : SRel M bm tk pr ρ σ n a w) : ∀ {rs : List RV} {rs' : List ResultVar} {xs : List V}, okRVs C.tab rs rs' = true → resL σ ρ rs = some xs →
    ∃ vs : List Value, (rs'.mapM (resS a.tmps)).run C.P w = .ok vs w ∧ vs.length = xs.length ∧ rs'.length = xs.length ∧ ∀ i (h : i < xs.length) (h' : i < vs.length), Rep M bm xs[i] vs[i]
  | [], [], xs, _, hx => by cases hx; exact ⟨[], rfl, rfl, rfl, fun i h => by simp at h⟩
  | r :: rs, r' :: rs', xs, hok, hx => by
    simp only [okRVs, Bool.and_eq_true] at hok
    simp only [resL] at hx
    split at hx
    · rename_i v l hv hl
      cases hx
      obtain ⟨u, g1, t, g2, -⟩ := res1_sound h hok.1 hv
      obtain ⟨vs, k1, k2, k3, k4⟩ := resL_sound h hok.2 hl
      refine ⟨u :: vs, ?_, by simp [k2], by simp [k3], fun i h1 h2 => ?_⟩
      · rw [List.mapM_cons, Sem.run_bind, g1, Result.andThen_ok, Sem.run_bind, k1]; rfl
      · cases i with
        | zero => exact g2.rep.lend
        | succ i => exact k4 i (by simpa using h1) (by simpa using h2)
    · cases hx
  | [], _ :: _, _, hok, _ => by cases hok
  | _ :: _, [], _, hok, _ => by cases hok
theorem resV_sound (h : SRel M bm tk pr ρ σ n a w) {rs : List RV} {fn : Func} {x : V} (hok : okRVs C.tab rs fn.results.toList = true) (hx : resV σ ρ rs = some x) :
    ∃ v, (results fn a.tmps).run C.P w = .ok v w ∧ ∃ t, CellOK M bm w x v t ∧ (t = none ∨ ∃ s, t = tk none s) := by
  rw [results_eq, Array.mapM_eq_mapM_toList]
  unfold resV at hx
  split at hx
  · rename_i r
    match hrs : fn.results.toList, hok with
    | [r'], hok =>
      simp only [okRVs, Bool.and_true] at hok
      obtain ⟨v, g1, g2⟩ := res1_sound h hok hx
      refine ⟨v, ?_, g2⟩
      simp only [List.mapM_cons, List.mapM_nil, Sem.run_bind, Sem.run_map, g1, Result.andThen_ok, Sem.run_pure]
      rfl
    | [], hok => cases hok
    | _ :: _ :: _, hok => simp [okRVs] at hok
  · rename_i hne
    obtain ⟨xs, hxs, rfl⟩ := Option.map_eq_some_iff.1 hx
    obtain ⟨vs, k1, k2, k3, k4⟩ := resL_sound h hok hxs
    refine ⟨.tuple vs.toArray, ?_, none, ⟨.tup k2 k4, fun _ _ _ e => by cases e⟩, .inl rfl⟩
    simp only [Sem.run_bind, Sem.run_map, k1, Result.andThen_ok, Sem.run_pure]
    have hl : ¬ vs.toArray.size = 1 := by
      intro e
      have : fn.results.toList.length = 1 := by rw [k3, ← k2]; simpa using e
      match rs, hne, hok with
      | [], _, hok => match hrs : fn.results.toList, hok with | [], _ => rw [hrs] at this; cases this
      | [r], hne, _ => exact hne r rfl
      | _ :: _ :: _, _, hok => match hrs : fn.results.toList, hok with
        | [_], hok => simp [okRVs] at hok
        | _ :: _ :: _, _ => rw [hrs] at this; simp at this
    rw [dif_neg hl]
theorem get_slots0 : ∀ (args : List V) (i t : Nat), get (slots0 i args) t = if i ≤ t then (args[t - i]?).getD .junk else .junk
  | [], i, t => by simp [slots0, get]
  | v :: r, i, t => by
    simp only [slots0, get]
    split
    · rename_i e; subst e; simp
    · rename_i e
      rw [get_slots0 r (i + 1) t]
      by_cases h : i ≤ t
      · rw [if_pos (by omega), if_pos h, show t - i = (t - (i + 1)) + 1 by omega]; rfl
      · rw [if_neg (by omega), if_neg h]
theorem callFunc_enters {P : Program} {f : FuncId} {fn : Func} (hf : P.funcs[f]? = some fn) (hn : (fn.name == "runtime.NumGoroutine") = false) (hb : fn.body.isNone = false) :
    ∀ args w, (callFunc f args).run P w = .ok (.enter f args) w := fun args w => by
  have h1 : fn.name ≠ "runtime.NumGoroutine" := by simpa using hn
  have h2 : fn.body ≠ none := fun h => by rw [h] at hb; cases hb
  simp [callFunc, hf, h1, h2]
theorem fun_enter {f : FuncId} {fn : Func} {c : Cd} {rs : List RV} {args : List V} {Q : Out → List (List V) → Prop} (hf : C.P.funcs[f]? = some fn) (hok : okFn C.tab fn args.length c rs = true)
    (h : boxesBelow σ.length σ = true → (∀ i (h : i < args.length), V.Wf args[i]) → awp C σ.length c (slots0 0 args) σ (fin σ.length rs Q)) :
    (∀ as w, (callFunc f as).run C.P w = .ok (.enter f as) w) ∧
    ∀ (M : Facts) (bm : List Nat) (tk : Toks) (pr : Nat → Prop) (w : World) (vs : List Value), C.glob M pr w → Inv M bm σ tk pr w → vs.length = args.length → (∀ i (h : i < args.length) (h' : i < vs.length), CellOK M bm w args[i] vs[i] (tk none i)) →
      Calls C.P f vs.toArray w fun e w' => ∃ M' bm' tk' σ' o, Q o σ' ∧ Inv M' bm' σ' tk' pr w' ∧ Later M bm pr w M' bm' w' ∧ OutOK M' bm' w' tk' o e := by
  unfold okFn at hok
  simp only [Bool.and_eq_true, decide_eq_true_eq, Bool.not_eq_true'] at hok
  obtain ⟨⟨⟨h1, h2⟩, h3⟩, h4⟩ := hok
  cases hb : fn.body with
  | none => rw [hb] at h1; cases h1
  | some body =>
  rw [hb] at h1
  refine ⟨callFunc_enters hf h4 (by rw [hb]; rfl), fun M bm tk pr0 w vs hG hI hl hr => ?_⟩
  obtain ⟨pr, rfl, hds⟩ : ∃ pr : Prot, pr.p = pr0 ∧ pr.ds = [] := ⟨⟨pr0, []⟩, rfl, rfl⟩
  have hq := h hI.under (fun i hi => (hr i hi (by omega)).rep.wf)
  refine calls_of_wp hf hb ?_
  have hs : SRel M bm tk pr (slots0 0 args) σ fn.ntmps { tmps := vs.toArray ++ Array.replicate (fn.ntmps - vs.toArray.size) undef, defers := [] } w := by
    refine ⟨hI, hds.symm, by simp; omega, fun t => ?_⟩
    rw [get_slots0, if_pos (Nat.zero_le _), Nat.sub_zero]
    by_cases hlt : t < args.length
    · rw [List.getElem?_eq_getElem hlt, Option.getD_some]
      have hv : (vs.toArray ++ Array.replicate (fn.ntmps - vs.toArray.size) undef).getD t undef = vs[t]'(by omega) := by
        rw [Array.getD_eq_getD_getElem?, Array.getElem?_append_left (by simp; omega)]
        simp [show t < vs.length by omega]
      rw [hv]
      exact hr t hlt (by omega)
    · rw [List.getElem?_eq_none (by omega), Option.getD_none]
      exact CellOK.junk ..
  refine wp_mono (awp_sound hG hI.len h1 (Later.refl M bm pr w) hs hq) (fun e a' w' hL => ?_)
  obtain ⟨M', bm', tk', ρ', σ', x, k1, k2, k3, k4⟩ := hL
  have cut : ∀ {M' : Facts} {bm' : List Nat} {ρ' : Slots} {σ' : List (List V)} {k : Nat} (o : Option Nat), SRel M' bm' tk' pr ρ' σ' fn.ntmps a' w' → Later M bm pr w M' bm' w' → σ.length ≤ k → boxesBelow k (σ'.take k) = true → (o = none ∨ ∃ s, o = tk' none s) →
      Inv M' (bm'.take k) (σ'.take k) (fun i j => match i with | none => if j = 0 then o else none | some i => tk' (some i) j) pr w' ∧ Later M bm pr w M' (bm'.take k) w' := by
    intro M' bm' ρ' σ' k o k3 k4 hk hbk ho
    have hd := k3.inv.drop hbk
    refine ⟨⟨hd.facts, hd.len, hd.box, hd.free, hd.bmnd, fun i j g hg => ?_, fun i j i' j' g g1 g2 => ?_, hd.prlt⟩, k4.drop (by rw [hI.len]; exact hk)⟩
    · cases i with
      | some i => exact hd.tok _ _ _ hg
      | none =>
        simp only at hg
        split at hg
        · rcases ho with rfl | ⟨s, rfl⟩
          · cases hg
          · exact hd.tok _ _ _ hg
        · cases hg
    · cases i with
      | some i => cases i' with
        | some i' => exact hd.inj _ _ _ _ _ g1 g2
        | none =>
          simp only at g2
          split at g2
          · rcases ho with rfl | ⟨s, rfl⟩
            · cases g2
            · have := hd.inj _ _ _ _ _ g1 g2; simp at this
          · cases g2
      | none => cases i' with
        | some i' =>
          simp only at g1
          split at g1
          · rcases ho with rfl | ⟨s, rfl⟩
            · cases g1
            · have := hd.inj _ _ _ _ _ g1 g2; simp at this
          · cases g1
        | none =>
          simp only at g1 g2
          split at g1
          · split at g2
            · exact ⟨rfl, by omega⟩
            · cases g2
          · cases g1
  have ret : ∀ ρ2 σ2, Shift σ.length ρ' σ' ρ2 σ2 → ∀ v, resV σ2 ρ2 rs = some v → (∃ k, σ.length ≤ k ∧ boxesBelow k (σ2.take k) = true ∧ V.under k v = true ∧ Q (.ret v) (σ2.take k)) →
      a'.defers = [] ∧ ∃ u, (results fn a'.tmps).run C.P w' = .ok u w' ∧ ∃ M' bm' tk' σ' o, Q o σ' ∧ Inv M' bm' σ' tk' pr w' ∧ Later M bm pr w M' bm' w' ∧ OutOK M' bm' w' tk' o (.returned u) := by
    rintro ρ2 σ2 hsh v hv ⟨k, g1, g2, g3, g4⟩
    obtain ⟨M2, bm2, s1, s2⟩ := hsh M' bm' tk' pr fn.ntmps a' w' k3
    obtain ⟨u, r1, t, r2, r3⟩ := resV_sound s1 h2 hv
    obtain ⟨c1, c2⟩ := cut t s1 (s2 M bm w hI.len k4) g1 g2 r3
    refine ⟨k3.defers.trans hds, u, r1, M2, bm2.take k, _, σ2.take k, .ret v, g4, c1, c2, fun v' e => ?_, fun v' e => by cases e⟩
    cases e
    exact ⟨u, rfl, r2.rep.drop g3, by simpa using r2.own⟩
  cases k2 with
  | normal => obtain ⟨ρ2, σ2, g0, v, g1, g2⟩ := k1; exact ret ρ2 σ2 g0 v g1 g2
  | ret => obtain ⟨ρ2, σ2, g0, v, g1, g2⟩ := k1; exact ret ρ2 σ2 g0 v g1 g2
  | exit id => exact k1.elim
  | panic hp =>
    obtain ⟨k, g1, g2, g3, g4⟩ := k1
    obtain ⟨c1, c2⟩ := cut none k3 k4 g1 g2 (.inl rfl)
    exact ⟨k3.defers.trans hds, M', bm'.take k, _, σ'.take k, _, g4, c1, c2, (fun v' e => by cases e), fun v' e => by cases e; exact ⟨_, rfl, hp.drop g3⟩⟩
theorem fun_intro {f : FuncId} {fn : Func} {c : Cd} {rs : List RV} {args : List V} {Q : Out → List (List V) → Prop} (hf : C.P.funcs[f]? = some fn) (hok : okFn C.tab fn args.length c rs = true) (hno : args.all (! ·.isOwn) = true)
    (h : boxesBelow σ.length σ = true → (∀ i (h : i < args.length), V.Wf args[i]) → awp C σ.length c (slots0 0 args) σ (fin σ.length rs Q)) : Fun C f args σ Q := by
  obtain ⟨h1, h2⟩ := fun_enter hf hok h
  refine ⟨h1, fun M bm tk pr w vs hG hI _ hl hr => h2 M bm tk pr w vs hG hI hl fun i g1 g2 => ⟨hr i g1 g2, fun T k rows e => ?_⟩⟩
  have := List.all_eq_true.1 hno args[i] (List.getElem_mem g1)
  rw [e] at this
  cases this
end
end Go.Proofs.Ytinenohgemndiaa
namespace Go.Proofs.Ytinenohgemndiaa
open Go.RowKit
inductive Tag {α : Type} (a : α) : Type where
  | mk
def optT (o : Option V) (f : V → Prop) (_ : Tag f) : Prop := match o with | some v => f v | none => False
theorem optT_some (v : V) (f : V → Prop) (t : Tag f) : optT (some v) f t = f v := rfl
def fnT (v : V) (f : FuncId → List V → Prop) (_ : Tag f) : Prop := match v with | .fn g cap => f g cap | _ => False
theorem fnT_fn (g : FuncId) (cap : List V) (f : FuncId → List V → Prop) (t : Tag f) : fnT (.fn g cap) f t = f g cap := rfl
def ptrT (v : V) (f : Nat → Nat → Prop) (_ : Tag f) : Prop := match v with | .ptr i o => f i o | _ => False
theorem ptrT_ptr (i o : Nat) (f : Nat → Nat → Prop) (t : Tag f) : ptrT (.ptr i o) f t = f i o := rfl
def ownT (v : V) (f : Nat → Nat → List (List D) → Prop) (_ : Tag f) : Prop := match v with | .own T k rows => f T k rows | _ => False
theorem ownT_own (T k : Nat) (rows : List (List D)) (f : Nat → Nat → List (List D) → Prop) (t : Tag f) : ownT (.own T k rows) f t = f T k rows := rfl
def ifT (v : V) (f : Nat → V → Prop) (_ : Tag f) : Prop := match v with | .iface t v => f t v | _ => False
theorem ifT_iface (ty : Nat) (v : V) (f : Nat → V → Prop) (t : Tag f) : ifT (.iface ty v) f t = f ty v := rfl
def bxT (o : Option (List V)) (f : List V → Prop) (_ : Tag f) : Prop := match o with | some cs => f cs | none => False
theorem bxT_some (cs : List V) (f : List V → Prop) (t : Tag f) : bxT (some cs) f t = f cs := rfl
def rwT (o : Option (List (List D))) (f : List (List D) → Prop) (_ : Tag f) : Prop := match o with | some rows => f rows | none => False
theorem rwT_some (rows : List (List D)) (f : List (List D) → Prop) (t : Tag f) : rwT (some rows) f t = f rows := rfl
def boolT (v : V) (f : Bool → Prop) (_ : Tag f) : Prop := match v with | .d (.lit (.bool c)) => f c | _ => False
theorem boolT_bool (c : Bool) (f : Bool → Prop) (t : Tag f) : boolT (.d (.lit (.bool c))) f t = f c := rfl
def boolU (v : V) (f : Bool → Prop) (u : Unit → Prop) (_ : Tag f) (_ : Tag u) : Prop := match v with
  | .d (.lit (.bool c)) => f c
  | .tup [] => u ()
  | _ => False
theorem boolU_bool (c : Bool) (f : Bool → Prop) (u : Unit → Prop) (s : Tag f) (t : Tag u) : boolU (.d (.lit (.bool c))) f u s t = f c := rfl
theorem boolU_un (f : Bool → Prop) (u : Unit → Prop) (s : Tag f) (t : Tag u) : boolU (.tup []) f u s t = u () := rfl
def iteT (c : Bool) (A B : Unit → Prop) (_ : Tag A) (_ : Tag B) : Prop := (c = true → A ()) ∧ (c = false → B ())
theorem iteT_true (A B : Unit → Prop) (s : Tag A) (t : Tag B) : iteT true A B s t = A () := by simp [iteT]
theorem iteT_false (A B : Unit → Prop) (s : Tag A) (t : Tag B) : iteT false A B s t = B () := by simp [iteT]
theorem bq_true (b : Bool) : (b == true) = b := by cases b <;> rfl
theorem bq_false (b : Bool) : (b == false) = !b := by cases b <;> rfl
def onT (p : Prop) (A : Unit → Prop) (_ : Tag A) : Prop := p ∧ A ()
theorem onT_intro {p : Prop} {A : Unit → Prop} {t : Tag A} (h1 : p) (h2 : A ()) : onT p A t := ⟨h1, h2⟩
theorem onT_true (A : Unit → Prop) (t : Tag A) : onT True A t = A () := by simp [onT]
def awpT (C : Cx) (n0 : Nat) (c : Cd) (ρ : Slots) (σ : List (List V)) (Q : APost) (_ : Tag Q) : Prop := awp C n0 c ρ σ Q
def opsT (C : Cx) (l : List O) (ρ : Slots) (σ : List (List V)) (Q : APost) (_ : Tag Q) : Prop := awpOps C l ρ σ Q
def calmT (C : Cx) (l : List O) (ρ : Slots) (σ : List (List V)) (K : Slots → Prop) (_ : Tag K) : Prop := awpCalm C l ρ σ K
def retK (K : V → List (List V) → Prop) (P : V → List (List V) → Prop) : Out → List (List V) → Prop := fun o σ' => match o with
  | .ret v => K v σ'
  | .panic v => P v σ'
def FunT (C : Cx) (f : FuncId) (args : List V) (σ : List (List V)) (K : V → List (List V) → Prop) (P : V → List (List V) → Prop) (_ : Tag K) (_ : Tag P) : Prop := Fun C f args σ (retK K P)
def FunOT (C : Cx) (f : FuncId) (pre : List V) (T k : Nat) (rows : List (List D)) (post : List V) (σ : List (List V)) (K : V → List (List V) → Prop) (P : V → List (List V) → Prop) (_ : Tag K) (_ : Tag P) : Prop := FunO C f pre T k rows post σ (retK K P)
def CallT (C : Cx) (f : FuncId) (args : List V) (σ : List (List V)) (k : V → Prop) (_ : Tag k) : Prop := ∃ v, Fun C f args σ (fun o σ' => o = .ret v ∧ σ' = σ) ∧ k v
def appT (C : Cx) (c : Cell) (σ σ2 : List (List V)) (l : List O) (ρ : Slots) (acc : Option (List (List D))) (K : Slots → List (List D) → Prop) (_ : Tag K) : Prop := awpA C c σ σ2 l ρ acc K
def newT (C : Cx) (cn : List V) (σ σ2 : List (List V)) (l : List O) (ρ : Slots) (acc : Option (List V)) (K : Slots → List V → Prop) (_ : Tag K) : Prop := awpN C cn σ σ2 l ρ acc K
def intT (x : V) (k : Int → Prop) (_ : Tag k) : Prop := match x with
  | .d (.lit (.int _ n)) => k n
  | _ => False
theorem intT_int (kd : IntKind) (n : Int) {k : Int → Prop} (t : Tag k) : intT (.d (.lit (.int kd n))) k t = k n := rfl
def stT (C : Cx) (l : List O) (ρ : Slots) (σ : List (List V)) (acc : Option (List (List V))) (K : Slots → List (List V) → Prop) (_ : Tag K) : Prop := awpS C σ l ρ acc K
def CallT2 (C : Cx) (f : FuncId) (args : List V) (σ σ2 : List (List V)) (k : V → Prop) (_ : Tag k) : Prop := ∃ v, Fun C f args σ (fun o σ' => o = .ret v ∧ σ' = σ) ∧ Fun C f args σ2 (fun o σ' => o = .ret v ∧ σ' = σ2) ∧ k v
def appAny (C : Cx) (l : List O) (ρ : Slots) (σ : List (List V)) (K : Slots → List (List V) → Prop) (_ : Tag K) : Prop :=
  ∃ (c : Cell) (cs : List V), σ[c.i]? = some cs ∧ cs[c.off]? = some (.own c.T c.k c.rows) ∧
    awpA C c σ (σ.set c.i (cs.set c.off (.d (.sl c.rows)))) l ρ none fun ρ' rows2 => K ρ' ((σ.set c.i (cs.set c.off (.d (.sl c.rows)))).set c.i (over (cs.set c.off (.d (.sl c.rows))) c.off [.own c.T c.k (c.rows ++ rows2)]))
def tabOf (P : Program) : Tab := fun t =>
  match P.underlying t, P.info? t with
  | some d, some i => match i.zero with
    | some z => if z.cells.size = i.size then some ⟨d, i.size, i.bytes, z⟩ else none
    | none => none
  | _, _ => none
theorem tabOf_ok (P : Program) : TabOK P (tabOf P) := by
  intro t i h
  unfold tabOf at h
  split at h
  · rename_i d inf h1 h2
    split at h
    · rename_i z hz
      split at h
      · rename_i hs
        cases h
        exact ⟨h1, inf, h2, rfl, rfl, hz, hs⟩
      · cases h
    · cases h
  · cases h
def cxk (P : Program) (gl : Nat → Option (List D)) (kp : Nat → Option (Array Value → Prop)) (h : P.follows .mixedOrders = true) : Cx := ⟨P, tabOf P, gl, kp, tabOf_ok P, h, fun t => !P.stoodInHeld t && !P.eqGuardType P.depth t, fun t ht => by simpa using ht⟩
abbrev cx (P : Program) (gl : Nat → Option (List D)) (h : P.follows .mixedOrders = true) : Cx := cxk P gl (fun _ => none) h
section
variable {C : Cx} {ρ : Slots} {σ σ2 : List (List V)} {Q : APost} {K : Slots → Prop} {KA : Slots → List (List D) → Prop} {cc : Cell} {acc : Option (List (List D))} {KN : Slots → List V → Prop} {cn : List V} {accn : Option (List V)} {KS : Slots → List (List V) → Prop} {accs : Option (List (List V))} {n0 : Nat}
theorem ev_t (n : Nat) : ev C ρ (.t n) = get ρ n := rfl
theorem ev_k (v : V) : ev C ρ (.k v) = v := rfl
theorem ev_g (n : Nat) : ev C ρ (.g n) = match C.gl n with | some cs => .row cs 0 | none => .junk := rfl
theorem get_cons (s : Nat) (u : V) (r : Slots) (t : Nat) : get ((s, u) :: r) t = if s = t then u else get r t := rfl
theorem get_nil (t : Nat) : get [] t = .junk := rfl
theorem put_cons (s : Nat) (u : V) (r : Slots) (t : Nat) (v : V) : put ((s, u) :: r) t v = if t < s then (t, v) :: (s, u) :: r else if t = s then (t, v) :: r else (s, u) :: put r t v := rfl
theorem put_nil (t : Nat) (v : V) : put [] t v = [(t, v)] := rfl
theorem putd_some (t : Nat) (v : V) : putd ρ (some t) v = put ρ t v := rfl
theorem putd_none (v : V) : putd ρ none v = ρ := rfl
theorem keepOnly_nil (l : List Nat) : keepOnly l [] = [] := rfl
theorem keepOnly_cons (l : List Nat) (s : Nat) (u : V) (r : Slots) : keepOnly l ((s, u) :: r) = if l.contains s = true then (s, u) :: keepOnly l r else keepOnly l r := by
  unfold keepOnly; rw [List.filter_cons]
theorem t_mv (x : X) (d : Option Nat) (r : List O) (t : Tag Q) : opsT C (⟨d, .mv x, none⟩ :: r) ρ σ Q t = opsT C r (putd ρ d (ev C ρ x).copy) σ Q .mk := rfl
theorem c_mv (x : X) (d : Option Nat) (r : List O) (t : Tag K) : calmT C (⟨d, .mv x, none⟩ :: r) ρ σ K t = calmT C r (putd ρ d (ev C ρ x).copy) σ K .mk := rfl
theorem t_pick (x y z : X) (d : Option Nat) (r : List O) (t : Tag Q) : opsT C (⟨d, .pick x y z, none⟩ :: r) ρ σ Q t = optT (pickV (ev C ρ x) (ev C ρ y) (ev C ρ z)) (fun v => opsT C r (putd ρ d v) σ Q .mk) .mk := rfl
theorem c_pick (x y z : X) (d : Option Nat) (r : List O) (t : Tag K) : calmT C (⟨d, .pick x y z, none⟩ :: r) ρ σ K t = optT (pickV (ev C ρ x) (ev C ρ y) (ev C ρ z)) (fun v => calmT C r (putd ρ d v) σ K .mk) .mk := by
  unfold calmT optT; simp only [awpCalm, calmO, isPure, pv]; cases pickV (ev C ρ x) (ev C ρ y) (ev C ρ z) <;> rfl
theorem t_bin (o : BinOp) (x y : X) (d : Option Nat) (r : List O) (t : Tag Q) : opsT C (⟨d, .bin o x y, none⟩ :: r) ρ σ Q t = optT (binV o (ev C ρ x) (ev C ρ y)) (fun v => opsT C r (putd ρ d v) σ Q .mk) .mk := rfl
theorem c_bin (o : BinOp) (x y : X) (d : Option Nat) (r : List O) (t : Tag K) : calmT C (⟨d, .bin o x y, none⟩ :: r) ρ σ K t = optT (binV o (ev C ρ x) (ev C ρ y)) (fun v => calmT C r (putd ρ d v) σ K .mk) .mk := by
  unfold calmT optT; simp only [awpCalm, calmO, isPure, pv]; cases binV o (ev C ρ x) (ev C ρ y) <;> rfl
theorem t_binb (o : BinOp) (x y : X) (d : Option Nat) (r : List O) (t : Tag Q) : opsT C (⟨d, .binb o x y, none⟩ :: r) ρ σ Q t = optT (binbV o (ev C ρ x) (ev C ρ y)) (fun v => opsT C r (putd ρ d v) σ Q .mk) .mk := rfl
theorem c_binb (o : BinOp) (x y : X) (d : Option Nat) (r : List O) (t : Tag K) : calmT C (⟨d, .binb o x y, none⟩ :: r) ρ σ K t = optT (binbV o (ev C ρ x) (ev C ρ y)) (fun v => calmT C r (putd ρ d v) σ K .mk) .mk := by
  unfold calmT optT; simp only [awpCalm, calmO, isPure, pv]; cases binbV o (ev C ρ x) (ev C ρ y) <;> rfl
theorem t_eqa (neq : Bool) (T : TypeId) (ks : List Kd) (x y : X) (d : Option Nat) (r : List O) (t : Tag Q) : opsT C (⟨d, .eqa neq T ks x y, none⟩ :: r) ρ σ Q t = onT (C.eqs T = true) (fun _ => optT (eqaV neq ks (ev C ρ x) (ev C ρ y)) (fun v => opsT C r (putd ρ d v) σ Q .mk) .mk) .mk := by
  unfold opsT optT onT
  by_cases h : C.eqs T = true
  · simp only [awpOps, runO, isPure, pv, h, if_true, true_and]; cases eqaV neq ks (ev C ρ x) (ev C ρ y) <;> simp
  · simp only [awpOps, runO, isPure, pv, if_neg h]; simp [h]
theorem t_nif (neq : Bool) (x : X) (d : Option Nat) (r : List O) (t : Tag Q) : opsT C (⟨d, .nif neq x, none⟩ :: r) ρ σ Q t = optT (nifV neq (ev C ρ x)) (fun v => opsT C r (putd ρ d v) σ Q .mk) .mk := by
  unfold opsT optT; simp only [awpOps, runO, isPure, pv]; cases nifV neq (ev C ρ x) <;> simp
theorem c_eqa (neq : Bool) (T : TypeId) (ks : List Kd) (x y : X) (d : Option Nat) (r : List O) (t : Tag K) : calmT C (⟨d, .eqa neq T ks x y, none⟩ :: r) ρ σ K t = onT (C.eqs T = true) (fun _ => optT (eqaV neq ks (ev C ρ x) (ev C ρ y)) (fun v => calmT C r (putd ρ d v) σ K .mk) .mk) .mk := by
  unfold calmT optT onT
  by_cases h : C.eqs T = true
  · simp only [awpCalm, calmO, isPure, pv, h, if_true, true_and]; cases eqaV neq ks (ev C ρ x) (ev C ρ y) <;> simp
  · simp only [awpCalm, calmO, isPure, pv, if_neg h]; simp [h]
theorem c_nif (neq : Bool) (x : X) (d : Option Nat) (r : List O) (t : Tag K) : calmT C (⟨d, .nif neq x, none⟩ :: r) ρ σ K t = optT (nifV neq (ev C ρ x)) (fun v => calmT C r (putd ρ d v) σ K .mk) .mk := by
  unfold calmT optT; simp only [awpCalm, calmO, isPure, pv]; cases nifV neq (ev C ρ x) <;> simp
theorem t_un (o : UnOp) (x : X) (d : Option Nat) (r : List O) (t : Tag Q) : opsT C (⟨d, .un o x, none⟩ :: r) ρ σ Q t = optT (unV o (ev C ρ x)) (fun v => opsT C r (putd ρ d v) σ Q .mk) .mk := rfl
theorem c_un (o : UnOp) (x : X) (d : Option Nat) (r : List O) (t : Tag K) : calmT C (⟨d, .un o x, none⟩ :: r) ρ σ K t = optT (unV o (ev C ρ x)) (fun v => calmT C r (putd ρ d v) σ K .mk) .mk := by
  unfold calmT optT; simp only [awpCalm, calmO, isPure, pv]; cases unV o (ev C ρ x) <;> rfl
theorem t_conv (kd : IntKind) (x : X) (d : Option Nat) (r : List O) (t : Tag Q) : opsT C (⟨d, .conv kd x, none⟩ :: r) ρ σ Q t = optT (convV kd (ev C ρ x)) (fun v => opsT C r (putd ρ d v) σ Q .mk) .mk := rfl
theorem c_conv (kd : IntKind) (x : X) (d : Option Nat) (r : List O) (t : Tag K) : calmT C (⟨d, .conv kd x, none⟩ :: r) ρ σ K t = optT (convV kd (ev C ρ x)) (fun v => calmT C r (putd ρ d v) σ K .mk) .mk := by
  unfold calmT optT; simp only [awpCalm, calmO, isPure, pv]; cases convV kd (ev C ρ x) <;> rfl
theorem t_cstr (x : X) (d : Option Nat) (r : List O) (t : Tag Q) : opsT C (⟨d, .cstr x, none⟩ :: r) ρ σ Q t = optT (cstrV (ev C ρ x)) (fun v => opsT C r (putd ρ d v) σ Q .mk) .mk := rfl
theorem t_cbs (x : X) (d : Option Nat) (r : List O) (t : Tag Q) : opsT C (⟨d, .cbs x, none⟩ :: r) ρ σ Q t = optT (cbsV σ (ev C ρ x)) (fun v => opsT C r (putd ρ d v) σ Q .mk) .mk := rfl
theorem c_cstr (x : X) (d : Option Nat) (r : List O) (t : Tag K) : calmT C (⟨d, .cstr x, none⟩ :: r) ρ σ K t = optT (cstrV (ev C ρ x)) (fun v => calmT C r (putd ρ d v) σ K .mk) .mk := by
  unfold calmT optT; simp only [awpCalm, calmO, isPure, pv]; cases cstrV (ev C ρ x) <;> rfl
theorem c_cbs (x : X) (d : Option Nat) (r : List O) (t : Tag K) : calmT C (⟨d, .cbs x, none⟩ :: r) ρ σ K t = optT (cbsV σ (ev C ρ x)) (fun v => calmT C r (putd ρ d v) σ K .mk) .mk := by
  unfold calmT optT; simp only [awpCalm, calmO, isPure, pv]; cases cbsV σ (ev C ρ x) <;> rfl
theorem t_nilck (x : X) (d : Option Nat) (r : List O) (t : Tag Q) : opsT C (⟨d, .nilck x, none⟩ :: r) ρ σ Q t = optT (nilckV (ev C ρ x)) (fun v => opsT C r (putd ρ d v) σ Q .mk) .mk := rfl
theorem c_nilck (x : X) (d : Option Nat) (r : List O) (t : Tag K) : calmT C (⟨d, .nilck x, none⟩ :: r) ρ σ K t = optT (nilckV (ev C ρ x)) (fun v => calmT C r (putd ρ d v) σ K .mk) .mk := by
  unfold calmT optT; simp only [awpCalm, calmO, isPure, pv]; cases nilckV (ev C ρ x) <;> rfl
theorem calmO_mono1 {op : OP} {ρ : Slots} {σ : List (List V)} {C : Cx} {k k' : V → Prop} (hk : ∀ v, k v → k' v) (h : calmO C op ρ σ k) : calmO C op ρ σ k' := by
  obtain ⟨v, h1, h2⟩ := calmO_split h
  unfold calmO at h1 ⊢
  split at h1
  · obtain ⟨u, g1, g2⟩ := h1; subst g2; exact ⟨u, g1, hk _ h2⟩
  · split at h1
    · obtain ⟨u, g1, g2⟩ := h1; subst g2; exact ⟨u, g1, hk _ h2⟩
    · exact h1.elim
  · split at h1
    · exact ⟨h1.1, by rw [h1.2]; exact hk _ h2⟩
    · exact h1.elim
  · obtain ⟨u, g1, g2⟩ := h1; subst g2; exact ⟨u, g1, hk _ h2⟩
  · split at h1
    · subst h1; exact hk _ h2
    · exact h1.elim
def kvT (a : Option (List (Key × V))) (b : Option Key) (f : List (Key × V) → Key → Prop) (_ : Tag f) : Prop := match a, b with | some kv, some key => f kv key | _, _ => False
theorem kvT_some (kv : List (Key × V)) (key : Key) (f : List (Key × V) → Key → Prop) (t : Tag f) : kvT (some kv) (some key) f t = f kv key := rfl
def bslT (v : V) (f : Nat → Nat → Nat → Prop) (_ : Tag f) : Prop := match asB v with | some (i, off, n) => f i off n | none => False
theorem bslT_bsl (i off n : Nat) (f : Nat → Nat → Nat → Prop) (t : Tag f) : bslT (.bsl i off n 1) f t = f i off n := rfl
theorem bslT_bsc (i n c : Nat) (f : Nat → Nat → Nat → Prop) (t : Tag f) : bslT (.bsc i n c) f t = f i 0 n := rfl
theorem t_mlk (st ok : Bool) (z : V) (x y : X) (d : Option Nat) (r : List O) (t : Tag Q) : opsT C (⟨d, .mlk st ok z x y, none⟩ :: r) ρ σ Q t = optT (mlkV st ok z σ (ev C ρ x) (ev C ρ y)) (fun v => opsT C r (putd ρ d v) σ Q .mk) .mk := rfl
theorem c_mlk (st ok : Bool) (z : V) (x y : X) (d : Option Nat) (r : List O) (t : Tag K) : calmT C (⟨d, .mlk st ok z x y, none⟩ :: r) ρ σ K t = optT (mlkV st ok z σ (ev C ρ x) (ev C ρ y)) (fun v => calmT C r (putd ρ d v) σ K .mk) .mk := by
  unfold calmT optT; simp only [awpCalm, calmO, isPure, pv]; cases mlkV st ok z σ (ev C ρ x) (ev C ρ y) <;> rfl
theorem t_mln (x : X) (d : Option Nat) (r : List O) (t : Tag Q) : opsT C (⟨d, .mln x, none⟩ :: r) ρ σ Q t = optT (mlnV σ (ev C ρ x)) (fun v => opsT C r (putd ρ d v) σ Q .mk) .mk := rfl
theorem c_mln (x : X) (d : Option Nat) (r : List O) (t : Tag K) : calmT C (⟨d, .mln x, none⟩ :: r) ρ σ K t = optT (mlnV σ (ev C ρ x)) (fun v => calmT C r (putd ρ d v) σ K .mk) .mk := by
  unfold calmT optT; simp only [awpCalm, calmO, isPure, pv]; cases mlnV σ (ev C ρ x) <;> rfl
theorem t_mmk (st : Bool) (d : Option Nat) (r : List O) (t : Tag Q) : opsT C (⟨d, .mmk st, none⟩ :: r) ρ σ Q t = opsT C r (putd ρ d (.mp σ.length)) (σ ++ [[.mapc st []]]) Q .mk := rfl
theorem t_mst (st : Bool) (x y z : X) (d : Option Nat) (r : List O) (t : Tag Q) : opsT C (⟨d, .mst st x y z, none⟩ :: r) ρ σ Q t = kvT (mapAt st σ (ev C ρ x)) (keyV st (ev C ρ y)) (fun kv key => opsT C r ρ (setMp σ st (mput key (ev C ρ z).copy kv) (ev C ρ x)) Q .mk) .mk := by
  unfold opsT kvT; simp only [awpOps, runO]; cases mapAt st σ (ev C ρ x) <;> cases keyV st (ev C ρ y) <;> rfl
theorem t_mdl (st : Bool) (x y : X) (d : Option Nat) (r : List O) (t : Tag Q) : opsT C (⟨d, .mdl st x y, none⟩ :: r) ρ σ Q t = kvT (mapAt st σ (ev C ρ x)) (keyV st (ev C ρ y)) (fun kv key => opsT C r ρ (setMp σ st (mdel key kv) (ev C ρ x)) Q .mk) .mk := by
  unfold opsT kvT; simp only [awpOps, runO]; cases mapAt st σ (ev C ρ x) <;> cases keyV st (ev C ρ y) <;> rfl
def empT (v : V) (f g : Unit → Prop) (_ : Tag f) (_ : Tag g) : Prop := if isEmpD v = true then f () else g ()
theorem empT_d (f g : Unit → Prop) (s : Tag f) (t : Tag g) : empT (.d (.sl [])) f g s t = f () := rfl
theorem empT_bsl (i off n : Nat) (f g : Unit → Prop) (s : Tag f) (t : Tag g) : empT (.bsl i off n 1) f g s t = g () := rfl
theorem empT_bsc (i n c : Nat) (f g : Unit → Prop) (s : Tag f) (t : Tag g) : empT (.bsc i n c) f g s t = g () := rfl
def avT (x : V) (src : List V) (bytes : Nat) (z : V) (σ : List (List V)) (f : V → List (List V) → Prop) (_ : Tag f) : Prop := appvR σ x src bytes z f
theorem avT_nil (src : List V) (bytes : Nat) (z : V) (σ : List (List V)) (f : V → List (List V) → Prop) (t : Tag f) : avT .nil src bytes z σ f t = (src.length * bytes ≤ 140737488355328 ∧ ∀ c, src.length ≤ c → f (.bsc σ.length src.length c) (σ ++ [src ++ List.replicate (c - src.length) z])) := rfl
theorem t_mkv (T : Nat) (xs : List X) (d : Option Nat) (r : List O) (t : Tag Q) : opsT C (⟨d, .mkv T xs, none⟩ :: r) ρ σ Q t = bxT (onesV (xs.map (ev C ρ))) (fun l => opsT C r (putd ρ d (.bsc σ.length l.length l.length)) (σ ++ [l]) Q .mk) .mk := by
  unfold opsT bxT; simp only [awpOps, runO]; cases onesV (xs.map (ev C ρ)) <;> rfl
theorem ones_nil : onesV [] = some [] := rfl
theorem ones_bsl (i o n k : Nat) (r : List V) : onesV (.bsl i o n k :: r) = (onesV r).map fun l => .bsl i o n k :: l := by
  simp only [onesV, V.boxable1]; cases onesV r <;> rfl
theorem ones_d (x : D) (r : List V) : onesV (.d x :: r) = (onesV r).map fun l => .d x :: l := by
  simp only [onesV, V.boxable1]; cases onesV r <;> rfl
theorem t_appv (T bytes : Nat) (z : V) (s : Nat) (y : X) (d : Option Nat) (r : List O) (t : Tag Q) : opsT C (⟨d, .appv T bytes z s y, none⟩ :: r) ρ σ Q t = bxT (srcV σ (ev C ρ y)) (fun src => onT (0 < src.length) (fun _ => avT (get ρ s) src bytes z σ (fun v σ' => opsT C r (putd ρ d v) σ' Q .mk) .mk) .mk) .mk := by
  unfold opsT bxT onT avT; simp only [awpOps, runO]
  cases srcV σ (ev C ρ y) <;> simp
theorem v_len_bsc (i n c : Nat) : lenV false (.bsc i n c) = some (vint .i64 n) := rfl
theorem v_ia_bsc (b n c : Nat) (kd : IntKind) (j : Nat) : iaV 1 (.bsc b n c) (.d (.lit (.int kd (j : Int)))) = if j < n then some (.ptr b j) else none := by
  unfold iaV
  simp only [Int.toNat_natCast, and_true, Nat.mul_one, Nat.zero_add]
  by_cases h : j < n
  · rw [if_pos h, if_pos (by omega)]
  · rw [if_neg h, if_neg (by omega)]
theorem cp_bsc (i n c : Nat) : (V.bsc i n c).copy = .bsc i n c := rfl
theorem t_clr (z : V) (x : X) (d : Option Nat) (r : List O) (t : Tag Q) : opsT C (⟨d, .clr z x, none⟩ :: r) ρ σ Q t = empT (ev C ρ x) (fun _ => opsT C r ρ σ Q .mk) (fun _ => bslT (ev C ρ x) (fun i off n => bxT σ[i]? (fun cs => onT (off + n ≤ cs.length ∧ noMap cs = true) (fun _ => opsT C r ρ (σ.set i (over cs off (List.replicate n z))) Q .mk) .mk) .mk) .mk) .mk .mk := by
  unfold opsT empT bslT bxT onT; simp only [awpOps, runO]
  generalize ev C ρ x = v
  by_cases he : isEmpD v = true
  · simp only [if_pos he]
  · simp only [if_neg he]
    generalize asB v = q
    cases q with
    | none => rfl
    | some q =>
      obtain ⟨i, off, n⟩ := q
      cases hs : σ[i]? <;> simp [hs]
theorem t_cpy (x y : X) (d : Option Nat) (r : List O) (t : Tag Q) : opsT C (⟨d, .cpy x y, none⟩ :: r) ρ σ Q t = bslT (ev C ρ x) (fun i off n => bxT σ[i]? (fun cs => bxT (srcV σ (ev C ρ y)) (fun src => onT (off + n ≤ cs.length ∧ noMap cs = true) (fun _ => opsT C r (putd ρ d (vint .i64 (min n src.length : Nat))) (σ.set i (over cs off (src.take (min n src.length)))) Q .mk) .mk) .mk) .mk) .mk := by
  unfold opsT bslT bxT onT; simp only [awpOps, runO]
  generalize asB (ev C ρ x) = q
  cases q with
  | none => rfl
  | some q =>
    obtain ⟨i, off, n⟩ := q
    cases hs : σ[i]? <;> cases hy : srcV σ (ev C ρ y) <;> simp [hs]
def mlkK (st ok : Bool) (z : V) (a : Option (List (Key × V))) (b : Option Key) : Option V := match a, b with | some kv, some key => some (mres ok z (mget key kv)) | _, _ => none
theorem v_mlk (st ok : Bool) (z : V) (i : Nat) (y : V) : mlkV st ok z σ (.mp i) y = mlkK st ok z (mapV st σ[i]?) (keyV st y) := by
  unfold mlkV mlkK mapAt; rfl
theorem mlkK_some (st ok : Bool) (z : V) (kv : List (Key × V)) (key : Key) : mlkK st ok z (some kv) (some key) = some (mres ok z (mget key kv)) := rfl
theorem mapV_some (st : Bool) (kv : List (Key × V)) : mapV st (some [.mapc st kv]) = some kv := by simp [mapV]
theorem v_key_i (n : Int) : keyV false (.d (.lit (.int .i64 n))) = some (.i n) := rfl
theorem v_key_s (s : ByteArray) : keyV true (.d (.lit (.string s))) = some (.s s) := rfl
theorem mapAt_mp (st : Bool) (i : Nat) : mapAt st σ (.mp i) = mapV st σ[i]? := rfl
theorem setMp_mp (st : Bool) (kv : List (Key × V)) (i : Nat) : setMp σ st kv (.mp i) = σ.set i [.mapc st kv] := rfl
def mlnK (b : Option (List V)) : Option V := match b with | some [.mapc _ kv] => if kv.length ≤ 1000000000 then some (vint .i64 kv.length) else none | _ => none
theorem v_mln (i : Nat) : mlnV σ (.mp i) = mlnK σ[i]? := rfl
theorem mlnK_some (st : Bool) (kv : List (Key × V)) : mlnK (some [.mapc st kv]) = if kv.length ≤ 1000000000 then some (vint .i64 kv.length) else none := rfl
theorem mres_f (z v : V) : mres false z (some v) = v := rfl
theorem mres_fn (z : V) : mres false z none = z := rfl
theorem mres_t (z v : V) : mres true z (some v) = .tup [v, vbool true] := rfl
theorem mres_tn (z : V) : mres true z none = .tup [z, vbool false] := rfl
theorem cp_d (x : D) : (V.d x).copy = .d x := rfl
theorem cp_bsl (i o n k : Nat) : (V.bsl i o n k).copy = .bsl i o n k := rfl
theorem cp_own (T k : Nat) (rows : List (List D)) : (V.own T k rows).copy = .d (.sl rows) := rfl
theorem cp_nil : V.nil.copy = .nil := rfl
theorem cp_agg (cs : List V) : (V.agg cs).copy = .agg cs := rfl
theorem cp_mp (i : Nat) : (V.mp i).copy = .mp i := rfl
def srcK (n off : Nat) (b : Option (List V)) : Option (List V) := match b with | some cs => if off + n ≤ cs.length ∧ noMap cs = true then some (((cs.drop off).take n).map V.copy) else none | none => none
theorem srcK_some (n off : Nat) (cs : List V) : srcK n off (some cs) = if off + n ≤ cs.length ∧ noMap cs = true then some (((cs.drop off).take n).map V.copy) else none := rfl
theorem v_src_bsl (i off n : Nat) : srcV σ (.bsl i off n 1) = srcK n off σ[i]? := by
  unfold srcV srcK cellsV
  simp only
  cases σ[i]? with
  | none => rfl
  | some cs => simp only; split <;> rfl
theorem v_src_d (rows : List (List D)) : srcV σ (.d (.sl rows)) = if rows.all (fun r => r.length == 1) = true then some (rows.flatten.map V.d) else none := rfl
theorem t_fa (off : Nat) (x : X) (d : Option Nat) (r : List O) (t : Tag Q) : opsT C (⟨d, .fa off x, none⟩ :: r) ρ σ Q t = optT (faV off (ev C ρ x)) (fun v => opsT C r (putd ρ d v) σ Q .mk) .mk := rfl
theorem c_fa (off : Nat) (x : X) (d : Option Nat) (r : List O) (t : Tag K) : calmT C (⟨d, .fa off x, none⟩ :: r) ρ σ K t = optT (faV off (ev C ρ x)) (fun v => calmT C r (putd ρ d v) σ K .mk) .mk := by
  unfold calmT optT; simp only [awpCalm, calmO, isPure, pv]; cases faV off (ev C ρ x) <;> rfl
theorem t_ia (kk : Nat) (x i : X) (d : Option Nat) (r : List O) (t : Tag Q) : opsT C (⟨d, .ia kk x i, none⟩ :: r) ρ σ Q t = optT (iaV kk (ev C ρ x) (ev C ρ i)) (fun v => opsT C r (putd ρ d v) σ Q .mk) .mk := rfl
theorem c_ia (kk : Nat) (x i : X) (d : Option Nat) (r : List O) (t : Tag K) : calmT C (⟨d, .ia kk x i, none⟩ :: r) ρ σ K t = optT (iaV kk (ev C ρ x) (ev C ρ i)) (fun v => calmT C r (putd ρ d v) σ K .mk) .mk := by
  unfold calmT optT; simp only [awpCalm, calmO, isPure, pv]; cases iaV kk (ev C ρ x) (ev C ρ i) <;> rfl
theorem t_aa (kk m : Nat) (x i : X) (d : Option Nat) (r : List O) (t : Tag Q) : opsT C (⟨d, .aa kk m x i, none⟩ :: r) ρ σ Q t = optT (aaV kk m (ev C ρ x) (ev C ρ i)) (fun v => opsT C r (putd ρ d v) σ Q .mk) .mk := rfl
theorem c_aa (kk m : Nat) (x i : X) (d : Option Nat) (r : List O) (t : Tag K) : calmT C (⟨d, .aa kk m x i, none⟩ :: r) ρ σ K t = optT (aaV kk m (ev C ρ x) (ev C ρ i)) (fun v => calmT C r (putd ρ d v) σ K .mk) .mk := by
  unfold calmT optT; simp only [awpCalm, calmO, isPure, pv]; cases aaV kk m (ev C ρ x) (ev C ρ i) <;> rfl
theorem t_ix (x i : X) (d : Option Nat) (r : List O) (t : Tag Q) : opsT C (⟨d, .ix x i, none⟩ :: r) ρ σ Q t = optT (ixV (ev C ρ x) (ev C ρ i)) (fun v => opsT C r (putd ρ d v) σ Q .mk) .mk := rfl
theorem c_ix (x i : X) (d : Option Nat) (r : List O) (t : Tag K) : calmT C (⟨d, .ix x i, none⟩ :: r) ρ σ K t = optT (ixV (ev C ρ x) (ev C ρ i)) (fun v => calmT C r (putd ρ d v) σ K .mk) .mk := by
  unfold calmT optT; simp only [awpCalm, calmO, isPure, pv]; cases ixV (ev C ρ x) (ev C ρ i) <;> rfl
theorem t_fld (off kk : Nat) (ag : Bool) (x : X) (d : Option Nat) (r : List O) (t : Tag Q) : opsT C (⟨d, .fld off kk ag x, none⟩ :: r) ρ σ Q t = optT (fldV off kk ag (ev C ρ x)) (fun v => opsT C r (putd ρ d v) σ Q .mk) .mk := rfl
theorem c_fld (off kk : Nat) (ag : Bool) (x : X) (d : Option Nat) (r : List O) (t : Tag K) : calmT C (⟨d, .fld off kk ag x, none⟩ :: r) ρ σ K t = optT (fldV off kk ag (ev C ρ x)) (fun v => calmT C r (putd ρ d v) σ K .mk) .mk := by
  unfold calmT optT; simp only [awpCalm, calmO, isPure, pv]; cases fldV off kk ag (ev C ρ x) <;> rfl
theorem t_len (s : Bool) (x : X) (d : Option Nat) (r : List O) (t : Tag Q) : opsT C (⟨d, .len s x, none⟩ :: r) ρ σ Q t = optT (lenV s (ev C ρ x)) (fun v => opsT C r (putd ρ d v) σ Q .mk) .mk := rfl
theorem c_len (s : Bool) (x : X) (d : Option Nat) (r : List O) (t : Tag K) : calmT C (⟨d, .len s x, none⟩ :: r) ρ σ K t = optT (lenV s (ev C ρ x)) (fun v => calmT C r (putd ρ d v) σ K .mk) .mk := by
  unfold calmT optT; simp only [awpCalm, calmO, isPure, pv]; cases lenV s (ev C ρ x) <;> rfl
theorem t_ext (x : X) (i : Nat) (d : Option Nat) (r : List O) (t : Tag Q) : opsT C (⟨d, .ext x i, none⟩ :: r) ρ σ Q t = optT (extV (ev C ρ x) i) (fun v => opsT C r (putd ρ d v) σ Q .mk) .mk := rfl
theorem c_ext (x : X) (i : Nat) (d : Option Nat) (r : List O) (t : Tag K) : calmT C (⟨d, .ext x i, none⟩ :: r) ρ σ K t = optT (extV (ev C ρ x) i) (fun v => calmT C r (putd ρ d v) σ K .mk) .mk := by
  unfold calmT optT; simp only [awpCalm, calmO, isPure, pv]; cases extV (ev C ρ x) i <;> rfl
theorem t_load (kk : Nat) (ag : Bool) (x : X) (d : Option Nat) (r : List O) (t : Tag Q) : opsT C (⟨d, .load kk ag x, none⟩ :: r) ρ σ Q t = optT (loadV σ kk ag (ev C ρ x)) (fun v => opsT C r (putd ρ d v) σ Q .mk) .mk := rfl
theorem c_load (kk : Nat) (ag : Bool) (x : X) (d : Option Nat) (r : List O) (t : Tag K) : calmT C (⟨d, .load kk ag x, none⟩ :: r) ρ σ K t = optT (loadV σ kk ag (ev C ρ x)) (fun v => calmT C r (putd ρ d v) σ K .mk) .mk := by
  unfold calmT optT; simp only [awpCalm, calmO, isPure, pv]; cases loadV σ kk ag (ev C ρ x) <;> rfl
theorem t_bld (zs : List V) (ps : List (Nat × Nat × X)) (d : Option Nat) (r : List O) (t : Tag Q) : opsT C (⟨d, .bld zs ps, none⟩ :: r) ρ σ Q t = optT ((bldV (ev C ρ) zs ps).map V.agg) (fun v => opsT C r (putd ρ d v) σ Q .mk) .mk := rfl
theorem c_bld (zs : List V) (ps : List (Nat × Nat × X)) (d : Option Nat) (r : List O) (t : Tag K) : calmT C (⟨d, .bld zs ps, none⟩ :: r) ρ σ K t = optT ((bldV (ev C ρ) zs ps).map V.agg) (fun v => calmT C r (putd ρ d v) σ K .mk) .mk := by
  unfold calmT optT; simp only [awpCalm, calmO, isPure, pv]; cases bldV (ev C ρ) zs ps <;> rfl
theorem t_sub (s : Bool) (kk : Nat) (x : X) (lo hi : Option X) (d : Option Nat) (r : List O) (t : Tag Q) : opsT C (⟨d, .sub s kk x lo hi, none⟩ :: r) ρ σ Q t = optT (subV s kk (ev C ρ x) (lo.map (ev C ρ)) (hi.map (ev C ρ))) (fun v => opsT C r (putd ρ d v) σ Q .mk) .mk := rfl
theorem c_sub (s : Bool) (kk : Nat) (x : X) (lo hi : Option X) (d : Option Nat) (r : List O) (t : Tag K) : calmT C (⟨d, .sub s kk x lo hi, none⟩ :: r) ρ σ K t = optT (subV s kk (ev C ρ x) (lo.map (ev C ρ)) (hi.map (ev C ρ))) (fun v => calmT C r (putd ρ d v) σ K .mk) .mk := by
  unfold calmT optT; simp only [awpCalm, calmO, isPure, pv]; cases subV s kk (ev C ρ x) (lo.map (ev C ρ)) (hi.map (ev C ρ)) <;> rfl
theorem t_mkfn (f : FuncId) (cap : List X) (d : Option Nat) (r : List O) (t : Tag Q) : opsT C (⟨d, .mkfn f cap, none⟩ :: r) ρ σ Q t = opsT C r (putd ρ d (.fn f (cap.map (ev C ρ)))) σ Q .mk := rfl
theorem c_mkfn (f : FuncId) (cap : List X) (d : Option Nat) (r : List O) (t : Tag K) : calmT C (⟨d, .mkfn f cap, none⟩ :: r) ρ σ K t = calmT C r (putd ρ d (.fn f (cap.map (ev C ρ)))) σ K .mk := rfl
theorem t_mki (ty : TypeId) (x : X) (d : Option Nat) (r : List O) (t : Tag Q) : opsT C (⟨d, .mki ty x, none⟩ :: r) ρ σ Q t = optT (mkiV ty (ev C ρ x)) (fun v => opsT C r (putd ρ d v) σ Q .mk) .mk := rfl
theorem c_mki (ty : TypeId) (x : X) (d : Option Nat) (r : List O) (t : Tag K) : calmT C (⟨d, .mki ty x, none⟩ :: r) ρ σ K t = optT (mkiV ty (ev C ρ x)) (fun v => calmT C r (putd ρ d v) σ K .mk) .mk := by
  unfold calmT optT; simp only [awpCalm, calmO, isPure, pv]; cases mkiV ty (ev C ρ x) <;> rfl
theorem t_mx (g : Bool) (x y : X) (d : Option Nat) (r : List O) (t : Tag Q) : opsT C (⟨d, .mx g x y, none⟩ :: r) ρ σ Q t = optT (mxV g (ev C ρ x) (ev C ρ y)) (fun v => opsT C r (putd ρ d v) σ Q .mk) .mk := rfl
theorem c_mx (g : Bool) (x y : X) (d : Option Nat) (r : List O) (t : Tag K) : calmT C (⟨d, .mx g x y, none⟩ :: r) ρ σ K t = optT (mxV g (ev C ρ x) (ev C ρ y)) (fun v => calmT C r (putd ρ d v) σ K .mk) .mk := by
  unfold calmT optT; simp only [awpCalm, calmO, isPure, pv]; cases mxV g (ev C ρ x) (ev C ρ y) <;> rfl
theorem t_call (f : FuncId) (args : List X) (d : Option Nat) (r : List O) (t : Tag Q) : opsT C (⟨d, .call f args, none⟩ :: r) ρ σ Q t = FunT C f (args.map fun x => (ev C ρ x).lend) σ (fun v σ' => opsT C r (putd ρ d v) σ' Q .mk) (fun v σ' => Q (.panic v) ρ σ') .mk .mk := rfl
theorem t_callv (x : X) (args : List X) (d : Option Nat) (r : List O) (t : Tag Q) : opsT C (⟨d, .callv x args, none⟩ :: r) ρ σ Q t = fnT (ev C ρ x) (fun f cap => FunT C f ((args.map fun x => (ev C ρ x).lend) ++ cap) σ (fun v σ' => opsT C r (putd ρ d v) σ' Q .mk) (fun v σ' => Q (.panic v) ρ σ') .mk .mk) .mk := rfl
theorem t_new (T : Nat) (cs : List V) (d : Option Nat) (r : List O) (t : Tag Q) : opsT C (⟨d, .new T cs, none⟩ :: r) ρ σ Q t = opsT C r (putd ρ d (.ptr σ.length 0)) (σ ++ [cs]) Q .mk := rfl
theorem t_box (T : Nat) (x : X) (d : Option Nat) (r : List O) (t : Tag Q) : opsT C (⟨d, .box T x, none⟩ :: r) ρ σ Q t = onT ((ev C ρ x).boxable = true) (fun _ => opsT C r (putd ρ d (.ptr σ.length 0)) (σ ++ [(ev C ρ x).cells]) Q .mk) .mk := rfl
theorem t_sto (kk : Nat) (x y : X) (d : Option Nat) (r : List O) (t : Tag Q) : opsT C (⟨d, .sto kk x y, none⟩ :: r) ρ σ Q t = ptrT (ev C ρ x) (fun i o => bxT σ[i]? (fun cs => onT ((ev C ρ y).boxable = true ∧ (ev C ρ y).cells.length = kk ∧ o + kk ≤ cs.length ∧ noMap cs = true) (fun _ => opsT C r ρ (σ.set i (over cs o (ev C ρ y).cells)) Q .mk) .mk) .mk) .mk := rfl
theorem t_stoo (x : X) (s : Nat) (d : Option Nat) (r : List O) (t : Tag Q) : opsT C (⟨d, .stoo x s, none⟩ :: r) ρ σ Q t = ptrT (ev C ρ x) (fun i o => ownT (get ρ s) (fun T k rows => bxT σ[i]? (fun cs => onT (o < cs.length ∧ noMap cs = true) (fun _ => opsT C r (put ρ s (.d (.sl rows))) (σ.set i (over cs o [.own T k rows])) Q .mk) .mk) .mk) .mk) .mk := by
  unfold opsT ptrT ownT bxT onT
  simp only [awpOps, runO]
  cases ev C ρ x <;> simp only
  cases get ρ s <;> rfl
theorem t_ldo (x : X) (d : Option Nat) (r : List O) (t : Tag Q) : opsT C (⟨d, .ldo x, none⟩ :: r) ρ σ Q t = ptrT (ev C ρ x) (fun i o => bxT σ[i]? (fun cs => ownT (cs.getD o .junk) (fun T k rows => opsT C r (putd ρ d (.own T k rows)) (σ.set i (cs.set o (.d (.sl rows)))) Q .mk) .mk) .mk) .mk := by
  unfold opsT ptrT ownT bxT
  simp only [awpOps, runO]
  cases ev C ρ x <;> simp only
  rename_i i o
  cases σ[i]? <;> simp only
  rename_i cs
  rw [List.getD_eq_getElem?_getD]
  cases cs[o]? with
  | none => rfl
  | some v => cases v <;> rfl
theorem t_mvo (s : Nat) (d : Option Nat) (r : List O) (t : Tag Q) : opsT C (⟨d, .mvo s, none⟩ :: r) ρ σ Q t = ownT (get ρ s) (fun T k rows => opsT C r (putd (put ρ s (.d (.sl rows))) d (.own T k rows)) σ Q .mk) .mk := rfl
theorem t_nilo (T k : Nat) (d : Option Nat) (r : List O) (t : Tag Q) : opsT C (⟨d, .nilo T k, none⟩ :: r) ρ σ Q t = opsT C r (putd ρ d (.own T k [])) σ Q .mk := rfl
theorem t_app (T k bytes s : Nat) (y : X) (d : Option Nat) (r : List O) (t : Tag Q) : opsT C (⟨d, .app T k bytes s y, none⟩ :: r) ρ σ Q t = ownT (get ρ s) (fun T' k' rows => rwT (rowsV (ev C ρ y)) (fun rows2 => onT (T' = T ∧ k' = k ∧ rows2.all (fun r => r.length == k) = true ∧ (rows.length + rows2.length) * bytes ≤ 140737488355328) (fun _ => opsT C r (putd (put ρ s (.d (.sl rows))) d (.own T k (rows ++ rows2))) σ Q .mk) .mk) .mk) .mk := by
  unfold opsT ownT rwT onT
  simp only [awpOps, runO]
  cases get ρ s <;> simp only
  cases rowsV (ev C ρ y) <;> rfl
theorem t_mks (T k : Nat) (xs : List X) (d : Option Nat) (r : List O) (t : Tag Q) : opsT C (⟨d, .mks T k xs, none⟩ :: r) ρ σ Q t = rwT (rowsOf (xs.map (ev C ρ))) (fun rows => onT (rows.all (fun r => r.length == k) = true) (fun _ => opsT C r (putd ρ d (.d (.sl rows))) σ Q .mk) .mk) .mk := rfl
theorem t_mkc (T k bytes : Nat) (x : X) (d : Option Nat) (r : List O) (t : Tag Q) : opsT C (⟨d, .mkc T k bytes x, none⟩ :: r) ρ σ Q t = intT (ev C ρ x) (fun n => onT (0 ≤ n ∧ n * bytes ≤ 140737488355328) (fun _ => opsT C r (putd ρ d (.own T k [])) σ Q .mk) .mk) .mk := by
  unfold opsT intT onT
  simp only [awpOps, runO]
  cases ev C ρ x with
  | d z => cases z with
    | lit v => cases v <;> rfl
    | sl rows => rfl
  | _ => rfl
theorem t_mkso (T k : Nat) (xs : List X) (d : Option Nat) (r : List O) (t : Tag Q) : opsT C (⟨d, .mkso T k xs, none⟩ :: r) ρ σ Q t = rwT (rowsOf (xs.map (ev C ρ))) (fun rows => onT (rows.all (fun r => r.length == k) = true) (fun _ => opsT C r (putd ρ d (.own T k rows)) σ Q .mk) .mk) .mk := rfl
theorem t_mkb (T bytes : Nat) (z : V) (x : X) (d : Option Nat) (r : List O) (t : Tag Q) : opsT C (⟨d, .mkb T bytes z x, none⟩ :: r) ρ σ Q t = intT (ev C ρ x) (fun n => onT (0 ≤ n ∧ n * bytes ≤ 140737488355328) (fun _ => opsT C r (putd ρ d (.bsl σ.length 0 n.toNat 1)) (σ ++ [List.replicate n.toNat z]) Q .mk) .mk) .mk := by
  unfold opsT intT onT
  simp only [awpOps, runO]
  cases ev C ρ x with
  | d y => cases y with
    | lit v => cases v <;> rfl
    | sl rows => rfl
  | _ => rfl
theorem t_tas (T : TypeId) (z : V) (x : X) (d : Option Nat) (r : List O) (t : Tag Q) : opsT C (⟨d, .tas T z x, none⟩ :: r) ρ σ Q t = optT (tasV T z (ev C ρ x)) (fun v => opsT C r (putd ρ d v) σ Q .mk) .mk := rfl
theorem c_tas (T : TypeId) (z : V) (x : X) (d : Option Nat) (r : List O) (t : Tag K) : calmT C (⟨d, .tas T z x, none⟩ :: r) ρ σ K t = optT (tasV T z (ev C ρ x)) (fun v => calmT C r (putd ρ d v) σ K .mk) .mk := by
  unfold calmT optT; simp only [awpCalm, calmO, isPure, pv]; cases tasV T z (ev C ρ x) <;> rfl
theorem t_clip (x y z : X) (d : Option Nat) (r : List O) (t : Tag Q) : opsT C (⟨d, .clip x y z, none⟩ :: r) ρ σ Q t = optT (clipV (ev C ρ x) (ev C ρ y) (ev C ρ z)) (fun v => opsT C r (putd ρ d v) σ Q .mk) .mk := rfl
theorem t_pan (x : X) (d : Option Nat) (r : List O) (t : Tag Q) : opsT C (⟨d, .pan x, none⟩ :: r) ρ σ Q t = ifT (ev C ρ x) (fun ty v => Q (.panic (.iface ty v)) ρ σ) .mk := rfl
theorem t_guard (d : Option Nat) (op : OP) (s : Nat) (b : Bool) (r : List O) (t : Tag Q) : opsT C (⟨d, op, some (s, b)⟩ :: r) ρ σ Q t = boolU (get ρ s) (fun c => iteT (c == b) (fun _ => opsT C (⟨d, op, none⟩ :: r) (put ρ s (.d (.lit (.bool b)))) σ Q .mk) (fun _ => opsT C r (putd (put ρ s (.d (.lit (.bool (!b))))) d (.tup [])) σ Q .mk) .mk .mk) (fun _ => opsT C r (putd ρ d (.tup [])) σ Q .mk) .mk .mk := by
  unfold opsT boolU iteT
  simp only [awpOps, beq_iff_eq, beq_eq_false_iff_ne, ne_eq]
  all_goals rfl
theorem t_nil (t : Tag Q) : opsT C [] ρ σ Q t = Q .normal ρ σ := rfl
theorem c_call (f : FuncId) (args : List X) (d : Option Nat) (r : List O) (t : Tag K) : calmT C (⟨d, .call f args, none⟩ :: r) ρ σ K t = CallT C f (args.map fun x => (ev C ρ x).lend) σ (fun v => calmT C r (putd ρ d v) σ K .mk) .mk := rfl
theorem t_calln (f : FuncId) (args : List X) (d : Option Nat) (r : List O) (t : Tag Q) : opsT C (⟨d, .calln f args, none⟩ :: r) ρ σ Q t = FunT C f (args.map fun x => (ev C ρ x).copy) σ (fun v σ' => opsT C r (putd ρ d v) σ' Q .mk) (fun v σ' => Q (.panic v) ρ σ') .mk .mk := rfl
theorem t_callm (x : X) (args : List X) (s : Nat) (d : Option Nat) (r : List O) (t : Tag Q) : opsT C (⟨d, .callm x args s, none⟩ :: r) ρ σ Q t = fnT (ev C ρ x) (fun f cap => ownT (get ρ s) (fun T k rows => FunOT C f (args.map fun x => (ev C ρ x).lend) T k rows cap σ (fun v σ' => opsT C r (putd (put ρ s (.d (.sl rows))) d v) σ' Q .mk) (fun v σ' => Q (.panic v) (put ρ s (.d (.sl rows))) σ') .mk .mk) .mk) .mk := by
  unfold fnT ownT FunOT opsT
  simp only [awpOps, runO]
  cases ev C ρ x <;> cases get ρ s <;> rfl
theorem c_calln (f : FuncId) (args : List X) (d : Option Nat) (r : List O) (t : Tag K) : calmT C (⟨d, .calln f args, none⟩ :: r) ρ σ K t = CallT C f (args.map fun x => (ev C ρ x).copy) σ (fun v => calmT C r (putd ρ d v) σ K .mk) .mk := rfl
theorem c_callv (x : X) (args : List X) (d : Option Nat) (r : List O) (t : Tag K) : calmT C (⟨d, .callv x args, none⟩ :: r) ρ σ K t = fnT (ev C ρ x) (fun f cap => CallT C f ((args.map fun x => (ev C ρ x).lend) ++ cap) σ (fun v => calmT C r (putd ρ d v) σ K .mk) .mk) .mk := rfl
theorem c_mks (T k : Nat) (xs : List X) (d : Option Nat) (r : List O) (t : Tag K) : calmT C (⟨d, .mks T k xs, none⟩ :: r) ρ σ K t = rwT (rowsOf (xs.map (ev C ρ))) (fun rows => onT (rows.all (fun r => r.length == k) = true) (fun _ => calmT C r (putd ρ d (.d (.sl rows))) σ K .mk) .mk) .mk := rfl
theorem c_guard (d : Option Nat) (op : OP) (s : Nat) (b : Bool) (r : List O) (t : Tag K) : calmT C (⟨d, op, some (s, b)⟩ :: r) ρ σ K t = boolU (get ρ s) (fun c => iteT (c == b) (fun _ => calmT C (⟨d, op, none⟩ :: r) (put ρ s (.d (.lit (.bool b)))) σ K .mk) (fun _ => calmT C r (putd (put ρ s (.d (.lit (.bool (!b))))) d (.tup [])) σ K .mk) .mk .mk) (fun _ => calmT C r (putd ρ d (.tup [])) σ K .mk) .mk .mk := by
  unfold calmT boolU iteT
  simp only [awpCalm, beq_iff_eq, beq_eq_false_iff_ne, ne_eq]
  all_goals rfl
theorem c_nil (t : Tag K) : calmT C [] ρ σ K t = K ρ := rfl
theorem a_mv (x : X) (d : Option Nat) (r : List O) (t : Tag KA) : appT C cc σ σ2 (⟨d, .mv x, none⟩ :: r) ρ acc KA t = appT C cc σ σ2 r (putd ρ d (ev C ρ x).copy) acc KA .mk := by
  unfold appT; simp only [awpA, calmO2, calmO, isPure, pv, true_and]
theorem a_pick (x y z : X) (d : Option Nat) (r : List O) (t : Tag KA) : appT C cc σ σ2 (⟨d, .pick x y z, none⟩ :: r) ρ acc KA t = optT (pickV (ev C ρ x) (ev C ρ y) (ev C ρ z)) (fun v => appT C cc σ σ2 r (putd ρ d v) acc KA .mk) .mk := by
  unfold appT optT; simp only [awpA, calmO2, calmO, isPure, pv]; cases (pickV (ev C ρ x) (ev C ρ y) (ev C ρ z)) <;> simp
theorem a_bin (o : BinOp) (x y : X) (d : Option Nat) (r : List O) (t : Tag KA) : appT C cc σ σ2 (⟨d, .bin o x y, none⟩ :: r) ρ acc KA t = optT (binV o (ev C ρ x) (ev C ρ y)) (fun v => appT C cc σ σ2 r (putd ρ d v) acc KA .mk) .mk := by
  unfold appT optT; simp only [awpA, calmO2, calmO, isPure, pv]; cases (binV o (ev C ρ x) (ev C ρ y)) <;> simp
theorem a_binb (o : BinOp) (x y : X) (d : Option Nat) (r : List O) (t : Tag KA) : appT C cc σ σ2 (⟨d, .binb o x y, none⟩ :: r) ρ acc KA t = optT (binbV o (ev C ρ x) (ev C ρ y)) (fun v => appT C cc σ σ2 r (putd ρ d v) acc KA .mk) .mk := by
  unfold appT optT; simp only [awpA, calmO2, calmO, isPure, pv]; cases (binbV o (ev C ρ x) (ev C ρ y)) <;> simp
theorem a_eqa (neq : Bool) (T : TypeId) (ks : List Kd) (x y : X) (d : Option Nat) (r : List O) (t : Tag KA) : appT C cc σ σ2 (⟨d, .eqa neq T ks x y, none⟩ :: r) ρ acc KA t = onT (C.eqs T = true) (fun _ => optT (eqaV neq ks (ev C ρ x) (ev C ρ y)) (fun v => appT C cc σ σ2 r (putd ρ d v) acc KA .mk) .mk) .mk := by
  unfold appT optT onT
  by_cases h : C.eqs T = true
  · simp only [awpA, calmO2, calmO, isPure, pv, h, if_true, true_and]; cases eqaV neq ks (ev C ρ x) (ev C ρ y) <;> simp
  · simp only [awpA, calmO2, calmO, isPure, pv, if_neg h]; simp [h]
theorem a_nif (neq : Bool) (x : X) (d : Option Nat) (r : List O) (t : Tag KA) : appT C cc σ σ2 (⟨d, .nif neq x, none⟩ :: r) ρ acc KA t = optT (nifV neq (ev C ρ x)) (fun v => appT C cc σ σ2 r (putd ρ d v) acc KA .mk) .mk := by
  unfold appT optT; simp only [awpA, calmO2, calmO, isPure, pv]; cases nifV neq (ev C ρ x) <;> simp
theorem a_un (o : UnOp) (x : X) (d : Option Nat) (r : List O) (t : Tag KA) : appT C cc σ σ2 (⟨d, .un o x, none⟩ :: r) ρ acc KA t = optT (unV o (ev C ρ x)) (fun v => appT C cc σ σ2 r (putd ρ d v) acc KA .mk) .mk := by
  unfold appT optT; simp only [awpA, calmO2, calmO, isPure, pv]; cases (unV o (ev C ρ x)) <;> simp
theorem a_conv (kd : IntKind) (x : X) (d : Option Nat) (r : List O) (t : Tag KA) : appT C cc σ σ2 (⟨d, .conv kd x, none⟩ :: r) ρ acc KA t = optT (convV kd (ev C ρ x)) (fun v => appT C cc σ σ2 r (putd ρ d v) acc KA .mk) .mk := by
  unfold appT optT; simp only [awpA, calmO2, calmO, isPure, pv]; cases (convV kd (ev C ρ x)) <;> simp
theorem a_cstr (x : X) (d : Option Nat) (r : List O) (t : Tag KA) : appT C cc σ σ2 (⟨d, .cstr x, none⟩ :: r) ρ acc KA t = optT (cstrV (ev C ρ x)) (fun v => appT C cc σ σ2 r (putd ρ d v) acc KA .mk) .mk := by
  unfold appT optT; simp only [awpA, calmO2, calmO, isPure, pv]; cases (cstrV (ev C ρ x)) <;> simp
theorem a_cbs (x : X) (d : Option Nat) (r : List O) (t : Tag KA) : appT C cc σ σ2 (⟨d, .cbs x, none⟩ :: r) ρ acc KA t = optT (cbsV σ (ev C ρ x)) (fun v => onT (cbsV σ2 (ev C ρ x) = some v) (fun _ => appT C cc σ σ2 r (putd ρ d v) acc KA .mk) .mk) .mk := by
  unfold appT optT onT; simp only [awpA, calmO2, calmO, isPure, pv]; cases cbsV σ (ev C ρ x) <;> simp only
  rename_i v
  cases cbsV σ2 (ev C ρ x) <;> simp
theorem a_nilck (x : X) (d : Option Nat) (r : List O) (t : Tag KA) : appT C cc σ σ2 (⟨d, .nilck x, none⟩ :: r) ρ acc KA t = optT (nilckV (ev C ρ x)) (fun v => appT C cc σ σ2 r (putd ρ d v) acc KA .mk) .mk := by
  unfold appT optT; simp only [awpA, calmO2, calmO, isPure, pv]; cases (nilckV (ev C ρ x)) <;> simp
theorem a_fa (off : Nat) (x : X) (d : Option Nat) (r : List O) (t : Tag KA) : appT C cc σ σ2 (⟨d, .fa off x, none⟩ :: r) ρ acc KA t = optT (faV off (ev C ρ x)) (fun v => appT C cc σ σ2 r (putd ρ d v) acc KA .mk) .mk := by
  unfold appT optT; simp only [awpA, calmO2, calmO, isPure, pv]; cases (faV off (ev C ρ x)) <;> simp
theorem a_ia (kk : Nat) (x i : X) (d : Option Nat) (r : List O) (t : Tag KA) : appT C cc σ σ2 (⟨d, .ia kk x i, none⟩ :: r) ρ acc KA t = optT (iaV kk (ev C ρ x) (ev C ρ i)) (fun v => appT C cc σ σ2 r (putd ρ d v) acc KA .mk) .mk := by
  unfold appT optT; simp only [awpA, calmO2, calmO, isPure, pv]; cases (iaV kk (ev C ρ x) (ev C ρ i)) <;> simp
theorem a_aa (kk m : Nat) (x i : X) (d : Option Nat) (r : List O) (t : Tag KA) : appT C cc σ σ2 (⟨d, .aa kk m x i, none⟩ :: r) ρ acc KA t = optT (aaV kk m (ev C ρ x) (ev C ρ i)) (fun v => appT C cc σ σ2 r (putd ρ d v) acc KA .mk) .mk := by
  unfold appT optT; simp only [awpA, calmO2, calmO, isPure, pv]; cases (aaV kk m (ev C ρ x) (ev C ρ i)) <;> simp
theorem a_ix (x i : X) (d : Option Nat) (r : List O) (t : Tag KA) : appT C cc σ σ2 (⟨d, .ix x i, none⟩ :: r) ρ acc KA t = optT (ixV (ev C ρ x) (ev C ρ i)) (fun v => appT C cc σ σ2 r (putd ρ d v) acc KA .mk) .mk := by
  unfold appT optT; simp only [awpA, calmO2, calmO, isPure, pv]; cases (ixV (ev C ρ x) (ev C ρ i)) <;> simp
theorem a_fld (off kk : Nat) (ag : Bool) (x : X) (d : Option Nat) (r : List O) (t : Tag KA) : appT C cc σ σ2 (⟨d, .fld off kk ag x, none⟩ :: r) ρ acc KA t = optT (fldV off kk ag (ev C ρ x)) (fun v => appT C cc σ σ2 r (putd ρ d v) acc KA .mk) .mk := by
  unfold appT optT; simp only [awpA, calmO2, calmO, isPure, pv]; cases (fldV off kk ag (ev C ρ x)) <;> simp
theorem a_len (s : Bool) (x : X) (d : Option Nat) (r : List O) (t : Tag KA) : appT C cc σ σ2 (⟨d, .len s x, none⟩ :: r) ρ acc KA t = optT (lenV s (ev C ρ x)) (fun v => appT C cc σ σ2 r (putd ρ d v) acc KA .mk) .mk := by
  unfold appT optT; simp only [awpA, calmO2, calmO, isPure, pv]; cases (lenV s (ev C ρ x)) <;> simp
theorem a_ext (x : X) (i : Nat) (d : Option Nat) (r : List O) (t : Tag KA) : appT C cc σ σ2 (⟨d, .ext x i, none⟩ :: r) ρ acc KA t = optT (extV (ev C ρ x) i) (fun v => appT C cc σ σ2 r (putd ρ d v) acc KA .mk) .mk := by
  unfold appT optT; simp only [awpA, calmO2, calmO, isPure, pv]; cases (extV (ev C ρ x) i) <;> simp
theorem a_bld (zs : List V) (ps : List (Nat × Nat × X)) (d : Option Nat) (r : List O) (t : Tag KA) : appT C cc σ σ2 (⟨d, .bld zs ps, none⟩ :: r) ρ acc KA t = optT ((bldV (ev C ρ) zs ps).map V.agg) (fun v => appT C cc σ σ2 r (putd ρ d v) acc KA .mk) .mk := by
  unfold appT optT; simp only [awpA, calmO2, calmO, isPure, pv]; cases ((bldV (ev C ρ) zs ps).map V.agg) <;> simp
theorem a_sub (s : Bool) (kk : Nat) (x : X) (lo hi : Option X) (d : Option Nat) (r : List O) (t : Tag KA) : appT C cc σ σ2 (⟨d, .sub s kk x lo hi, none⟩ :: r) ρ acc KA t = optT (subV s kk (ev C ρ x) (lo.map (ev C ρ)) (hi.map (ev C ρ))) (fun v => appT C cc σ σ2 r (putd ρ d v) acc KA .mk) .mk := by
  unfold appT optT; simp only [awpA, calmO2, calmO, isPure, pv]; cases (subV s kk (ev C ρ x) (lo.map (ev C ρ)) (hi.map (ev C ρ))) <;> simp
theorem a_mkfn (f : FuncId) (cap : List X) (d : Option Nat) (r : List O) (t : Tag KA) : appT C cc σ σ2 (⟨d, .mkfn f cap, none⟩ :: r) ρ acc KA t = appT C cc σ σ2 r (putd ρ d (.fn f (cap.map (ev C ρ)))) acc KA .mk := by
  unfold appT; simp only [awpA, calmO2, calmO, isPure, pv, true_and]
theorem a_mki (ty : TypeId) (x : X) (d : Option Nat) (r : List O) (t : Tag KA) : appT C cc σ σ2 (⟨d, .mki ty x, none⟩ :: r) ρ acc KA t = optT (mkiV ty (ev C ρ x)) (fun v => appT C cc σ σ2 r (putd ρ d v) acc KA .mk) .mk := by
  unfold appT optT; simp only [awpA, calmO2, calmO, isPure, pv]; cases (mkiV ty (ev C ρ x)) <;> simp
theorem a_mx (g : Bool) (x y : X) (d : Option Nat) (r : List O) (t : Tag KA) : appT C cc σ σ2 (⟨d, .mx g x y, none⟩ :: r) ρ acc KA t = optT (mxV g (ev C ρ x) (ev C ρ y)) (fun v => appT C cc σ σ2 r (putd ρ d v) acc KA .mk) .mk := by
  unfold appT optT; simp only [awpA, calmO2, calmO, isPure, pv]; cases (mxV g (ev C ρ x) (ev C ρ y)) <;> simp
theorem a_load (kk : Nat) (ag : Bool) (x : X) (d : Option Nat) (r : List O) (t : Tag KA) : appT C cc σ σ2 (⟨d, .load kk ag x, none⟩ :: r) ρ acc KA t = optT (loadV σ kk ag (ev C ρ x)) (fun v => onT (loadV σ2 kk ag (ev C ρ x) = some v) (fun _ => appT C cc σ σ2 r (putd ρ d v) acc KA .mk) .mk) .mk := by
  unfold appT optT onT; simp only [awpA, calmO2, calmO, isPure, pv]; cases loadV σ kk ag (ev C ρ x) <;> simp only
  rename_i v
  cases loadV σ2 kk ag (ev C ρ x) <;> simp
theorem a_call (f : FuncId) (args : List X) (d : Option Nat) (r : List O) (t : Tag KA) : appT C cc σ σ2 (⟨d, .call f args, none⟩ :: r) ρ acc KA t = CallT2 C f (args.map fun x => (ev C ρ x).lend) σ σ2 (fun v => appT C cc σ σ2 r (putd ρ d v) acc KA .mk) .mk := by
  unfold appT CallT2; simp only [awpA, calmO2, calmO]
  exact propext ⟨fun ⟨v, h1, ⟨u, h2, h3⟩, h4⟩ => ⟨v, h1, h3 ▸ h2, h4⟩, fun ⟨v, h1, h2, h3⟩ => ⟨v, h1, ⟨v, h2, rfl⟩, h3⟩⟩
theorem a_mks (T k : Nat) (xs : List X) (d : Option Nat) (r : List O) (t : Tag KA) : appT C cc σ σ2 (⟨d, .mks T k xs, none⟩ :: r) ρ acc KA t = rwT (rowsOf (xs.map (ev C ρ))) (fun rows => onT (rows.all (fun r => r.length == k) = true) (fun _ => appT C cc σ σ2 r (putd ρ d (.d (.sl rows))) acc KA .mk) .mk) .mk := by
  unfold appT rwT onT; simp only [awpA, calmO2, calmO]
  cases rowsOf (xs.map (ev C ρ)) <;> simp only
  rename_i rows
  exact propext ⟨fun ⟨h1, _, h2⟩ => ⟨h1, h2⟩, fun ⟨h1, h2⟩ => ⟨h1, ⟨h1, trivial⟩, h2⟩⟩
theorem a_ldo (y : X) (d : Option Nat) (r : List O) (t : Tag KA) : appT C cc σ σ2 (⟨d, .ldo y, none⟩ :: r) ρ acc KA t = onT (ev C ρ y = .ptr cc.i cc.off) (fun _ => appT C cc σ σ2 r (putd ρ d (.d (.sl cc.rows))) acc KA .mk) .mk := by
  unfold appT onT; simp only [awpA, true_and]
theorem a_app (T k bytes s : Nat) (y : X) (d : Option Nat) (r : List O) (t : Tag KA) : appT C cc σ σ2 (⟨d, .app T k bytes s y, none⟩ :: r) ρ none KA t = rwT (rowsV (ev C ρ y)) (fun rows2 => onT (cc.T = T ∧ cc.k = k ∧ rows2.all (fun r => r.length == k) = true ∧ (cc.rows.length + rows2.length) * bytes ≤ 140737488355328) (fun _ => appT C cc σ σ2 r (putd ρ d (.d (.sl (cc.rows ++ rows2)))) (some rows2) KA .mk) .mk) .mk := by
  unfold appT rwT onT; simp only [awpA, true_and]
  cases rowsV (ev C ρ y) <;> rfl
theorem a_stoo (y : X) (s : Nat) (r : List O) (t : Tag KA) : appT C cc σ σ2 (⟨none, .stoo y s, none⟩ :: r) ρ acc KA t = onT (ev C ρ y = .ptr cc.i cc.off) (fun _ => appT C cc σ σ2 r ρ acc KA .mk) .mk := by
  unfold appT onT; simp only [awpA, true_and]
theorem a_nil (rows2 : List (List D)) (t : Tag KA) : appT C cc σ σ2 [] ρ (some rows2) KA t = KA ρ rows2 := rfl
theorem w_drawa (l : List O) (keep : List Nat) (t : Tag Q) : awpT C n0 (.drawa l keep) ρ σ Q t = appAny C l ρ σ (fun ρ' σ' => Q .normal (keepOnly keep ρ') σ') .mk := rfl
theorem b_mv (x : X) (d : Option Nat) (r : List O) (t : Tag KN) : newT C cn σ σ2 (⟨d, .mv x, none⟩ :: r) ρ accn KN t = newT C cn σ σ2 r (putd ρ d (ev C ρ x).copy) accn KN .mk := by
  unfold newT; simp only [awpN, calmO2, calmO, isPure, pv, true_and]
theorem b_pick (x y z : X) (d : Option Nat) (r : List O) (t : Tag KN) : newT C cn σ σ2 (⟨d, .pick x y z, none⟩ :: r) ρ accn KN t = optT (pickV (ev C ρ x) (ev C ρ y) (ev C ρ z)) (fun v => newT C cn σ σ2 r (putd ρ d v) accn KN .mk) .mk := by
  unfold newT optT; simp only [awpN, calmO2, calmO, isPure, pv]; cases (pickV (ev C ρ x) (ev C ρ y) (ev C ρ z)) <;> simp
theorem b_bin (o : BinOp) (x y : X) (d : Option Nat) (r : List O) (t : Tag KN) : newT C cn σ σ2 (⟨d, .bin o x y, none⟩ :: r) ρ accn KN t = optT (binV o (ev C ρ x) (ev C ρ y)) (fun v => newT C cn σ σ2 r (putd ρ d v) accn KN .mk) .mk := by
  unfold newT optT; simp only [awpN, calmO2, calmO, isPure, pv]; cases (binV o (ev C ρ x) (ev C ρ y)) <;> simp
theorem b_binb (o : BinOp) (x y : X) (d : Option Nat) (r : List O) (t : Tag KN) : newT C cn σ σ2 (⟨d, .binb o x y, none⟩ :: r) ρ accn KN t = optT (binbV o (ev C ρ x) (ev C ρ y)) (fun v => newT C cn σ σ2 r (putd ρ d v) accn KN .mk) .mk := by
  unfold newT optT; simp only [awpN, calmO2, calmO, isPure, pv]; cases (binbV o (ev C ρ x) (ev C ρ y)) <;> simp
theorem b_eqa (neq : Bool) (T : TypeId) (ks : List Kd) (x y : X) (d : Option Nat) (r : List O) (t : Tag KN) : newT C cn σ σ2 (⟨d, .eqa neq T ks x y, none⟩ :: r) ρ accn KN t = onT (C.eqs T = true) (fun _ => optT (eqaV neq ks (ev C ρ x) (ev C ρ y)) (fun v => newT C cn σ σ2 r (putd ρ d v) accn KN .mk) .mk) .mk := by
  unfold newT optT onT
  by_cases h : C.eqs T = true
  · simp only [awpN, calmO2, calmO, isPure, pv, h, if_true, true_and]; cases eqaV neq ks (ev C ρ x) (ev C ρ y) <;> simp
  · simp only [awpN, calmO2, calmO, isPure, pv, if_neg h]; simp [h]
theorem b_nif (neq : Bool) (x : X) (d : Option Nat) (r : List O) (t : Tag KN) : newT C cn σ σ2 (⟨d, .nif neq x, none⟩ :: r) ρ accn KN t = optT (nifV neq (ev C ρ x)) (fun v => newT C cn σ σ2 r (putd ρ d v) accn KN .mk) .mk := by
  unfold newT optT; simp only [awpN, calmO2, calmO, isPure, pv]; cases nifV neq (ev C ρ x) <;> simp
theorem b_un (o : UnOp) (x : X) (d : Option Nat) (r : List O) (t : Tag KN) : newT C cn σ σ2 (⟨d, .un o x, none⟩ :: r) ρ accn KN t = optT (unV o (ev C ρ x)) (fun v => newT C cn σ σ2 r (putd ρ d v) accn KN .mk) .mk := by
  unfold newT optT; simp only [awpN, calmO2, calmO, isPure, pv]; cases (unV o (ev C ρ x)) <;> simp
theorem b_conv (kd : IntKind) (x : X) (d : Option Nat) (r : List O) (t : Tag KN) : newT C cn σ σ2 (⟨d, .conv kd x, none⟩ :: r) ρ accn KN t = optT (convV kd (ev C ρ x)) (fun v => newT C cn σ σ2 r (putd ρ d v) accn KN .mk) .mk := by
  unfold newT optT; simp only [awpN, calmO2, calmO, isPure, pv]; cases (convV kd (ev C ρ x)) <;> simp
theorem b_cstr (x : X) (d : Option Nat) (r : List O) (t : Tag KN) : newT C cn σ σ2 (⟨d, .cstr x, none⟩ :: r) ρ accn KN t = optT (cstrV (ev C ρ x)) (fun v => newT C cn σ σ2 r (putd ρ d v) accn KN .mk) .mk := by
  unfold newT optT; simp only [awpN, calmO2, calmO, isPure, pv]; cases (cstrV (ev C ρ x)) <;> simp
theorem b_cbs (x : X) (d : Option Nat) (r : List O) (t : Tag KN) : newT C cn σ σ2 (⟨d, .cbs x, none⟩ :: r) ρ accn KN t = optT (cbsV σ (ev C ρ x)) (fun v => onT (cbsV σ2 (ev C ρ x) = some v) (fun _ => newT C cn σ σ2 r (putd ρ d v) accn KN .mk) .mk) .mk := by
  unfold newT optT onT; simp only [awpN, calmO2, calmO, isPure, pv]; cases cbsV σ (ev C ρ x) <;> simp only
  rename_i v
  cases cbsV σ2 (ev C ρ x) <;> simp
theorem b_nilck (x : X) (d : Option Nat) (r : List O) (t : Tag KN) : newT C cn σ σ2 (⟨d, .nilck x, none⟩ :: r) ρ accn KN t = optT (nilckV (ev C ρ x)) (fun v => newT C cn σ σ2 r (putd ρ d v) accn KN .mk) .mk := by
  unfold newT optT; simp only [awpN, calmO2, calmO, isPure, pv]; cases (nilckV (ev C ρ x)) <;> simp
theorem b_fa (off : Nat) (x : X) (d : Option Nat) (r : List O) (t : Tag KN) : newT C cn σ σ2 (⟨d, .fa off x, none⟩ :: r) ρ accn KN t = optT (faV off (ev C ρ x)) (fun v => newT C cn σ σ2 r (putd ρ d v) accn KN .mk) .mk := by
  unfold newT optT; simp only [awpN, calmO2, calmO, isPure, pv]; cases (faV off (ev C ρ x)) <;> simp
theorem b_ia (kk : Nat) (x i : X) (d : Option Nat) (r : List O) (t : Tag KN) : newT C cn σ σ2 (⟨d, .ia kk x i, none⟩ :: r) ρ accn KN t = optT (iaV kk (ev C ρ x) (ev C ρ i)) (fun v => newT C cn σ σ2 r (putd ρ d v) accn KN .mk) .mk := by
  unfold newT optT; simp only [awpN, calmO2, calmO, isPure, pv]; cases (iaV kk (ev C ρ x) (ev C ρ i)) <;> simp
theorem b_aa (kk m : Nat) (x i : X) (d : Option Nat) (r : List O) (t : Tag KN) : newT C cn σ σ2 (⟨d, .aa kk m x i, none⟩ :: r) ρ accn KN t = optT (aaV kk m (ev C ρ x) (ev C ρ i)) (fun v => newT C cn σ σ2 r (putd ρ d v) accn KN .mk) .mk := by
  unfold newT optT; simp only [awpN, calmO2, calmO, isPure, pv]; cases (aaV kk m (ev C ρ x) (ev C ρ i)) <;> simp
theorem b_ix (x i : X) (d : Option Nat) (r : List O) (t : Tag KN) : newT C cn σ σ2 (⟨d, .ix x i, none⟩ :: r) ρ accn KN t = optT (ixV (ev C ρ x) (ev C ρ i)) (fun v => newT C cn σ σ2 r (putd ρ d v) accn KN .mk) .mk := by
  unfold newT optT; simp only [awpN, calmO2, calmO, isPure, pv]; cases (ixV (ev C ρ x) (ev C ρ i)) <;> simp
theorem b_fld (off kk : Nat) (ag : Bool) (x : X) (d : Option Nat) (r : List O) (t : Tag KN) : newT C cn σ σ2 (⟨d, .fld off kk ag x, none⟩ :: r) ρ accn KN t = optT (fldV off kk ag (ev C ρ x)) (fun v => newT C cn σ σ2 r (putd ρ d v) accn KN .mk) .mk := by
  unfold newT optT; simp only [awpN, calmO2, calmO, isPure, pv]; cases (fldV off kk ag (ev C ρ x)) <;> simp
theorem b_len (s : Bool) (x : X) (d : Option Nat) (r : List O) (t : Tag KN) : newT C cn σ σ2 (⟨d, .len s x, none⟩ :: r) ρ accn KN t = optT (lenV s (ev C ρ x)) (fun v => newT C cn σ σ2 r (putd ρ d v) accn KN .mk) .mk := by
  unfold newT optT; simp only [awpN, calmO2, calmO, isPure, pv]; cases (lenV s (ev C ρ x)) <;> simp
theorem b_ext (x : X) (i : Nat) (d : Option Nat) (r : List O) (t : Tag KN) : newT C cn σ σ2 (⟨d, .ext x i, none⟩ :: r) ρ accn KN t = optT (extV (ev C ρ x) i) (fun v => newT C cn σ σ2 r (putd ρ d v) accn KN .mk) .mk := by
  unfold newT optT; simp only [awpN, calmO2, calmO, isPure, pv]; cases (extV (ev C ρ x) i) <;> simp
theorem b_bld (zs : List V) (ps : List (Nat × Nat × X)) (d : Option Nat) (r : List O) (t : Tag KN) : newT C cn σ σ2 (⟨d, .bld zs ps, none⟩ :: r) ρ accn KN t = optT ((bldV (ev C ρ) zs ps).map V.agg) (fun v => newT C cn σ σ2 r (putd ρ d v) accn KN .mk) .mk := by
  unfold newT optT; simp only [awpN, calmO2, calmO, isPure, pv]; cases ((bldV (ev C ρ) zs ps).map V.agg) <;> simp
theorem b_sub (s : Bool) (kk : Nat) (x : X) (lo hi : Option X) (d : Option Nat) (r : List O) (t : Tag KN) : newT C cn σ σ2 (⟨d, .sub s kk x lo hi, none⟩ :: r) ρ accn KN t = optT (subV s kk (ev C ρ x) (lo.map (ev C ρ)) (hi.map (ev C ρ))) (fun v => newT C cn σ σ2 r (putd ρ d v) accn KN .mk) .mk := by
  unfold newT optT; simp only [awpN, calmO2, calmO, isPure, pv]; cases (subV s kk (ev C ρ x) (lo.map (ev C ρ)) (hi.map (ev C ρ))) <;> simp
theorem b_mkfn (f : FuncId) (cap : List X) (d : Option Nat) (r : List O) (t : Tag KN) : newT C cn σ σ2 (⟨d, .mkfn f cap, none⟩ :: r) ρ accn KN t = newT C cn σ σ2 r (putd ρ d (.fn f (cap.map (ev C ρ)))) accn KN .mk := by
  unfold newT; simp only [awpN, calmO2, calmO, isPure, pv, true_and]
theorem b_mki (ty : TypeId) (x : X) (d : Option Nat) (r : List O) (t : Tag KN) : newT C cn σ σ2 (⟨d, .mki ty x, none⟩ :: r) ρ accn KN t = optT (mkiV ty (ev C ρ x)) (fun v => newT C cn σ σ2 r (putd ρ d v) accn KN .mk) .mk := by
  unfold newT optT; simp only [awpN, calmO2, calmO, isPure, pv]; cases (mkiV ty (ev C ρ x)) <;> simp
theorem b_mx (g : Bool) (x y : X) (d : Option Nat) (r : List O) (t : Tag KN) : newT C cn σ σ2 (⟨d, .mx g x y, none⟩ :: r) ρ accn KN t = optT (mxV g (ev C ρ x) (ev C ρ y)) (fun v => newT C cn σ σ2 r (putd ρ d v) accn KN .mk) .mk := by
  unfold newT optT; simp only [awpN, calmO2, calmO, isPure, pv]; cases (mxV g (ev C ρ x) (ev C ρ y)) <;> simp
theorem b_load (kk : Nat) (ag : Bool) (x : X) (d : Option Nat) (r : List O) (t : Tag KN) : newT C cn σ σ2 (⟨d, .load kk ag x, none⟩ :: r) ρ accn KN t = optT (loadV σ kk ag (ev C ρ x)) (fun v => onT (loadV σ2 kk ag (ev C ρ x) = some v) (fun _ => newT C cn σ σ2 r (putd ρ d v) accn KN .mk) .mk) .mk := by
  unfold newT optT onT; simp only [awpN, calmO2, calmO, isPure, pv]; cases loadV σ kk ag (ev C ρ x) <;> simp only
  rename_i v
  cases loadV σ2 kk ag (ev C ρ x) <;> simp
theorem b_call (f : FuncId) (args : List X) (d : Option Nat) (r : List O) (t : Tag KN) : newT C cn σ σ2 (⟨d, .call f args, none⟩ :: r) ρ accn KN t = CallT2 C f (args.map fun x => (ev C ρ x).lend) σ σ2 (fun v => newT C cn σ σ2 r (putd ρ d v) accn KN .mk) .mk := by
  unfold newT CallT2; simp only [awpN, calmO2, calmO]
  exact propext ⟨fun ⟨v, h1, ⟨u, h2, h3⟩, h4⟩ => ⟨v, h1, h3 ▸ h2, h4⟩, fun ⟨v, h1, h2, h3⟩ => ⟨v, h1, ⟨v, h2, rfl⟩, h3⟩⟩
theorem b_mks (T k : Nat) (xs : List X) (d : Option Nat) (r : List O) (t : Tag KN) : newT C cn σ σ2 (⟨d, .mks T k xs, none⟩ :: r) ρ accn KN t = rwT (rowsOf (xs.map (ev C ρ))) (fun rows => onT (rows.all (fun r => r.length == k) = true) (fun _ => newT C cn σ σ2 r (putd ρ d (.d (.sl rows))) accn KN .mk) .mk) .mk := by
  unfold newT rwT onT; simp only [awpN, calmO2, calmO]
  cases rowsOf (xs.map (ev C ρ)) <;> simp only
  rename_i rows
  exact propext ⟨fun ⟨h1, _, h2⟩ => ⟨h1, h2⟩, fun ⟨h1, h2⟩ => ⟨h1, ⟨h1, trivial⟩, h2⟩⟩
theorem b_new (T : Nat) (cs' : List V) (d : Option Nat) (r : List O) (t : Tag KN) : newT C cn σ σ2 (⟨d, .new T cs', none⟩ :: r) ρ accn KN t = onT (cs' = cn) (fun _ => newT C cn σ σ2 r (putd ρ d (.ptr σ.length 0)) accn KN .mk) .mk := by
  unfold newT onT; simp only [awpN, true_and]
theorem b_sto (kk : Nat) (y z : X) (r : List O) (t : Tag KN) : newT C cn σ σ2 (⟨none, .sto kk y z, none⟩ :: r) ρ none KN t = ptrT (ev C ρ y) (fun i off => onT (i = σ.length ∧ (ev C ρ z).boxable = true ∧ (ev C ρ z).cells.length = kk ∧ off + kk ≤ cn.length ∧ noMap cn = true) (fun _ => newT C cn σ σ2 r ρ (some (over cn off (ev C ρ z).cells)) KN .mk) .mk) .mk := by
  unfold newT onT ptrT; simp only [awpN, true_and]
  cases ev C ρ y <;> simp only
  exact propext ⟨fun ⟨h1, h2, h3⟩ => ⟨⟨h1, h2⟩, h3⟩, fun ⟨⟨h1, h2⟩, h3⟩ => ⟨h1, h2, h3⟩⟩
theorem b_nil (fin : List V) (t : Tag KN) : newT C cn σ σ2 [] ρ (some fin) KN t = KN ρ fin := rfl
theorem w_drawn (cs : List V) (l : List O) (keep : List Nat) (t : Tag Q) : awpT C n0 (.drawn cs l keep) ρ σ Q t = newT C cs σ (σ ++ [cs]) l ρ none (fun ρ' fin => Q .normal (keepOnly keep ρ') (σ ++ [fin])) .mk := rfl
theorem s_mv (x : X) (d : Option Nat) (r : List O) (t : Tag KS) : stT C (⟨d, .mv x, none⟩ :: r) ρ σ accs KS t = stT C r (putd ρ d (ev C ρ x).copy) σ accs KS .mk := rfl
theorem s_pick (x y z : X) (d : Option Nat) (r : List O) (t : Tag KS) : stT C (⟨d, .pick x y z, none⟩ :: r) ρ σ accs KS t = optT (pickV (ev C ρ x) (ev C ρ y) (ev C ρ z)) (fun v => stT C r (putd ρ d v) σ accs KS .mk) .mk := by
  unfold stT optT; simp only [awpS, calmO, isPure, pv]; cases pickV (ev C ρ x) (ev C ρ y) (ev C ρ z) <;> rfl
theorem s_bin (o : BinOp) (x y : X) (d : Option Nat) (r : List O) (t : Tag KS) : stT C (⟨d, .bin o x y, none⟩ :: r) ρ σ accs KS t = optT (binV o (ev C ρ x) (ev C ρ y)) (fun v => stT C r (putd ρ d v) σ accs KS .mk) .mk := by
  unfold stT optT; simp only [awpS, calmO, isPure, pv]; cases binV o (ev C ρ x) (ev C ρ y) <;> rfl
theorem s_binb (o : BinOp) (x y : X) (d : Option Nat) (r : List O) (t : Tag KS) : stT C (⟨d, .binb o x y, none⟩ :: r) ρ σ accs KS t = optT (binbV o (ev C ρ x) (ev C ρ y)) (fun v => stT C r (putd ρ d v) σ accs KS .mk) .mk := by
  unfold stT optT; simp only [awpS, calmO, isPure, pv]; cases binbV o (ev C ρ x) (ev C ρ y) <;> rfl
theorem s_eqa (neq : Bool) (T : TypeId) (ks : List Kd) (x y : X) (d : Option Nat) (r : List O) (t : Tag KS) : stT C (⟨d, .eqa neq T ks x y, none⟩ :: r) ρ σ accs KS t = onT (C.eqs T = true) (fun _ => optT (eqaV neq ks (ev C ρ x) (ev C ρ y)) (fun v => stT C r (putd ρ d v) σ accs KS .mk) .mk) .mk := by
  unfold stT optT onT
  by_cases h : C.eqs T = true
  · simp only [awpS, calmO, isPure, pv, h, if_true, true_and]; cases eqaV neq ks (ev C ρ x) (ev C ρ y) <;> simp
  · simp only [awpS, calmO, isPure, pv, if_neg h]; simp [h]
theorem s_nif (neq : Bool) (x : X) (d : Option Nat) (r : List O) (t : Tag KS) : stT C (⟨d, .nif neq x, none⟩ :: r) ρ σ accs KS t = optT (nifV neq (ev C ρ x)) (fun v => stT C r (putd ρ d v) σ accs KS .mk) .mk := by
  unfold stT optT; simp only [awpS, calmO, isPure, pv]; cases nifV neq (ev C ρ x) <;> simp
theorem s_un (o : UnOp) (x : X) (d : Option Nat) (r : List O) (t : Tag KS) : stT C (⟨d, .un o x, none⟩ :: r) ρ σ accs KS t = optT (unV o (ev C ρ x)) (fun v => stT C r (putd ρ d v) σ accs KS .mk) .mk := by
  unfold stT optT; simp only [awpS, calmO, isPure, pv]; cases unV o (ev C ρ x) <;> rfl
theorem s_conv (kd : IntKind) (x : X) (d : Option Nat) (r : List O) (t : Tag KS) : stT C (⟨d, .conv kd x, none⟩ :: r) ρ σ accs KS t = optT (convV kd (ev C ρ x)) (fun v => stT C r (putd ρ d v) σ accs KS .mk) .mk := by
  unfold stT optT; simp only [awpS, calmO, isPure, pv]; cases convV kd (ev C ρ x) <;> rfl
theorem s_cstr (x : X) (d : Option Nat) (r : List O) (t : Tag KS) : stT C (⟨d, .cstr x, none⟩ :: r) ρ σ accs KS t = optT (cstrV (ev C ρ x)) (fun v => stT C r (putd ρ d v) σ accs KS .mk) .mk := by
  unfold stT optT; simp only [awpS, calmO, isPure, pv]; cases cstrV (ev C ρ x) <;> rfl
theorem s_cbs (x : X) (d : Option Nat) (r : List O) (t : Tag KS) : stT C (⟨d, .cbs x, none⟩ :: r) ρ σ accs KS t = optT (cbsV σ (ev C ρ x)) (fun v => stT C r (putd ρ d v) σ accs KS .mk) .mk := by
  unfold stT optT; simp only [awpS, calmO, isPure, pv]; cases cbsV σ (ev C ρ x) <;> rfl
theorem s_nilck (x : X) (d : Option Nat) (r : List O) (t : Tag KS) : stT C (⟨d, .nilck x, none⟩ :: r) ρ σ accs KS t = optT (nilckV (ev C ρ x)) (fun v => stT C r (putd ρ d v) σ accs KS .mk) .mk := by
  unfold stT optT; simp only [awpS, calmO, isPure, pv]; cases nilckV (ev C ρ x) <;> rfl
theorem s_fa (off : Nat) (x : X) (d : Option Nat) (r : List O) (t : Tag KS) : stT C (⟨d, .fa off x, none⟩ :: r) ρ σ accs KS t = optT (faV off (ev C ρ x)) (fun v => stT C r (putd ρ d v) σ accs KS .mk) .mk := by
  unfold stT optT; simp only [awpS, calmO, isPure, pv]; cases faV off (ev C ρ x) <;> rfl
theorem s_ia (kk : Nat) (x i : X) (d : Option Nat) (r : List O) (t : Tag KS) : stT C (⟨d, .ia kk x i, none⟩ :: r) ρ σ accs KS t = optT (iaV kk (ev C ρ x) (ev C ρ i)) (fun v => stT C r (putd ρ d v) σ accs KS .mk) .mk := by
  unfold stT optT; simp only [awpS, calmO, isPure, pv]; cases iaV kk (ev C ρ x) (ev C ρ i) <;> rfl
theorem s_aa (kk m : Nat) (x i : X) (d : Option Nat) (r : List O) (t : Tag KS) : stT C (⟨d, .aa kk m x i, none⟩ :: r) ρ σ accs KS t = optT (aaV kk m (ev C ρ x) (ev C ρ i)) (fun v => stT C r (putd ρ d v) σ accs KS .mk) .mk := by
  unfold stT optT; simp only [awpS, calmO, isPure, pv]; cases aaV kk m (ev C ρ x) (ev C ρ i) <;> rfl
theorem s_ix (x i : X) (d : Option Nat) (r : List O) (t : Tag KS) : stT C (⟨d, .ix x i, none⟩ :: r) ρ σ accs KS t = optT (ixV (ev C ρ x) (ev C ρ i)) (fun v => stT C r (putd ρ d v) σ accs KS .mk) .mk := by
  unfold stT optT; simp only [awpS, calmO, isPure, pv]; cases ixV (ev C ρ x) (ev C ρ i) <;> rfl
theorem s_fld (off kk : Nat) (ag : Bool) (x : X) (d : Option Nat) (r : List O) (t : Tag KS) : stT C (⟨d, .fld off kk ag x, none⟩ :: r) ρ σ accs KS t = optT (fldV off kk ag (ev C ρ x)) (fun v => stT C r (putd ρ d v) σ accs KS .mk) .mk := by
  unfold stT optT; simp only [awpS, calmO, isPure, pv]; cases fldV off kk ag (ev C ρ x) <;> rfl
theorem s_len (s : Bool) (x : X) (d : Option Nat) (r : List O) (t : Tag KS) : stT C (⟨d, .len s x, none⟩ :: r) ρ σ accs KS t = optT (lenV s (ev C ρ x)) (fun v => stT C r (putd ρ d v) σ accs KS .mk) .mk := by
  unfold stT optT; simp only [awpS, calmO, isPure, pv]; cases lenV s (ev C ρ x) <;> rfl
theorem s_ext (x : X) (i : Nat) (d : Option Nat) (r : List O) (t : Tag KS) : stT C (⟨d, .ext x i, none⟩ :: r) ρ σ accs KS t = optT (extV (ev C ρ x) i) (fun v => stT C r (putd ρ d v) σ accs KS .mk) .mk := by
  unfold stT optT; simp only [awpS, calmO, isPure, pv]; cases extV (ev C ρ x) i <;> rfl
theorem s_load (kk : Nat) (ag : Bool) (x : X) (d : Option Nat) (r : List O) (t : Tag KS) : stT C (⟨d, .load kk ag x, none⟩ :: r) ρ σ accs KS t = optT (loadV σ kk ag (ev C ρ x)) (fun v => stT C r (putd ρ d v) σ accs KS .mk) .mk := by
  unfold stT optT; simp only [awpS, calmO, isPure, pv]; cases loadV σ kk ag (ev C ρ x) <;> rfl
theorem s_bld (zs : List V) (ps : List (Nat × Nat × X)) (d : Option Nat) (r : List O) (t : Tag KS) : stT C (⟨d, .bld zs ps, none⟩ :: r) ρ σ accs KS t = optT ((bldV (ev C ρ) zs ps).map V.agg) (fun v => stT C r (putd ρ d v) σ accs KS .mk) .mk := by
  unfold stT optT; simp only [awpS, calmO, isPure, pv]; cases bldV (ev C ρ) zs ps <;> rfl
theorem s_sub (s : Bool) (kk : Nat) (x : X) (lo hi : Option X) (d : Option Nat) (r : List O) (t : Tag KS) : stT C (⟨d, .sub s kk x lo hi, none⟩ :: r) ρ σ accs KS t = optT (subV s kk (ev C ρ x) (lo.map (ev C ρ)) (hi.map (ev C ρ))) (fun v => stT C r (putd ρ d v) σ accs KS .mk) .mk := by
  unfold stT optT; simp only [awpS, calmO, isPure, pv]; cases subV s kk (ev C ρ x) (lo.map (ev C ρ)) (hi.map (ev C ρ)) <;> rfl
theorem s_mkfn (f : FuncId) (cap : List X) (d : Option Nat) (r : List O) (t : Tag KS) : stT C (⟨d, .mkfn f cap, none⟩ :: r) ρ σ accs KS t = stT C r (putd ρ d (.fn f (cap.map (ev C ρ)))) σ accs KS .mk := rfl
theorem s_mki (ty : TypeId) (x : X) (d : Option Nat) (r : List O) (t : Tag KS) : stT C (⟨d, .mki ty x, none⟩ :: r) ρ σ accs KS t = optT (mkiV ty (ev C ρ x)) (fun v => stT C r (putd ρ d v) σ accs KS .mk) .mk := by
  unfold stT optT; simp only [awpS, calmO, isPure, pv]; cases mkiV ty (ev C ρ x) <;> rfl
theorem s_mx (g : Bool) (x y : X) (d : Option Nat) (r : List O) (t : Tag KS) : stT C (⟨d, .mx g x y, none⟩ :: r) ρ σ accs KS t = optT (mxV g (ev C ρ x) (ev C ρ y)) (fun v => stT C r (putd ρ d v) σ accs KS .mk) .mk := by
  unfold stT optT; simp only [awpS, calmO, isPure, pv]; cases mxV g (ev C ρ x) (ev C ρ y) <;> rfl
theorem s_call (f : FuncId) (args : List X) (d : Option Nat) (r : List O) (t : Tag KS) : stT C (⟨d, .call f args, none⟩ :: r) ρ σ accs KS t = CallT C f (args.map fun x => (ev C ρ x).lend) σ (fun v => stT C r (putd ρ d v) σ accs KS .mk) .mk := rfl
theorem s_callv (x : X) (args : List X) (d : Option Nat) (r : List O) (t : Tag KS) : stT C (⟨d, .callv x args, none⟩ :: r) ρ σ accs KS t = fnT (ev C ρ x) (fun f cap => CallT C f ((args.map fun x => (ev C ρ x).lend) ++ cap) σ (fun v => stT C r (putd ρ d v) σ accs KS .mk) .mk) .mk := rfl
theorem s_mks (T k : Nat) (xs : List X) (d : Option Nat) (r : List O) (t : Tag KS) : stT C (⟨d, .mks T k xs, none⟩ :: r) ρ σ accs KS t = rwT (rowsOf (xs.map (ev C ρ))) (fun rows => onT (rows.all (fun r => r.length == k) = true) (fun _ => stT C r (putd ρ d (.d (.sl rows))) σ accs KS .mk) .mk) .mk := rfl
theorem s_sto (kk : Nat) (y z : X) (r : List O) (t : Tag KS) : stT C (⟨none, .sto kk y z, none⟩ :: r) ρ σ none KS t = ptrT (ev C ρ y) (fun i off => bxT σ[i]? (fun cs => onT ((ev C ρ z).boxable = true ∧ (ev C ρ z).cells.length = kk ∧ off + kk ≤ cs.length ∧ noMap cs = true) (fun _ => stT C r ρ σ (some (σ.set i (over cs off (ev C ρ z).cells))) KS .mk) .mk) .mk) .mk := by
  unfold stT onT ptrT bxT; simp only [awpS, true_and]
  cases ev C ρ y <;> first | rfl | (simp only; done) | (simp only; rfl)
theorem s_nil (σf : List (List V)) (t : Tag KS) : stT C [] ρ σ (some σf) KS t = KS ρ σf := rfl
theorem w_draws (l : List O) (keep : List Nat) (t : Tag Q) : awpT C n0 (.draws l keep) ρ σ Q t = stT C l ρ σ none (fun ρ' σ' => Q .normal (keepOnly keep ρ') σ') .mk := rfl
theorem w_drawb (s d0 d1 T k bytes : Nat) (y : X) (l : List O) (keep : List Nat) (t : Tag Q) : awpT C n0 (.drawb s d0 d1 T k bytes y l keep) ρ σ Q t = ownT (get ρ s) (fun T' k' rows => onT (T' = T ∧ k' = k) (fun _ => calmT C l ρ σ (fun ρ' => rwT (rowsV (ev C ρ' y)) (fun r2 => onT (r2.all (fun r => r.length == k) = true ∧ (rows.length + r2.length) * bytes ≤ 140737488355328) (fun _ => Q .normal (keepOnly keep (put (put (put ρ' s (.own T k (rows ++ r2))) d0 (.d (.sl rows))) d1 (.d (.sl (rows ++ r2))))) σ) .mk) .mk) .mk) .mk) .mk := by
  unfold awpT ownT rwT onT calmT
  first | (simp only [awp, awpB, endB, and_assoc]; done) | (simp only [awp, awpB, endB, and_assoc]; rfl)
def actT (C : Cx) (f : FuncId) (vs : List V) (pre : List O) (ρ ρ1 : Slots) (σ : List (List V)) (k : V → List (List V) → Prop) (P : V → List (List V) → Prop) (_ : Tag k) (_ : Tag P) : Prop :=
  (∃ v σ1, Fun C f vs σ (fun o σ' => o = .ret v ∧ σ' = σ1) ∧ awpCalm C pre ρ σ1 (fun ρ' => ρ' = ρ1) ∧ k v σ1) ∨ Fun C f vs σ (fun o σ' => ∃ u, o = .panic u ∧ P u σ')
theorem w_drawx (pre : List O) (d : Option Nat) (f : FuncId) (args : List X) (post : List O) (kk : Nat) (y z : X) (keep : List Nat) (t : Tag Q) : awpT C n0 (.drawx pre d f args post kk y z keep) ρ σ Q t = calmT C pre ρ σ (fun ρ1 => actT C f (args.map fun x => (ev C ρ1 x).lend) pre ρ ρ1 σ (fun v σ1 => calmT C post (putd ρ1 d v) σ1 (fun ρ2 => ptrT (ev C ρ2 y) (fun i off => bxT σ1[i]? (fun cs => onT ((ev C ρ2 z).boxable = true ∧ (ev C ρ2 z).cells.length = kk ∧ off + kk ≤ cs.length ∧ noMap cs = true) (fun _ => Q .normal (keepOnly keep ρ2) (σ1.set i (over cs off (ev C ρ2 z).cells))) .mk) .mk) .mk) .mk) (fun u σ' => ∀ ρ', Q (.panic u) (keepOnly keep ρ') σ') .mk .mk) .mk := by
  have key : ∀ (ρ2 : Slots) (σ1 : List (List V)), (∃ i off cs, ev C ρ2 y = .ptr i off ∧ σ1[i]? = some cs ∧ ((ev C ρ2 z).boxable = true ∧ (ev C ρ2 z).cells.length = kk ∧ off + kk ≤ cs.length ∧ noMap cs = true) ∧ Q .normal (keepOnly keep ρ2) (σ1.set i (over cs off (ev C ρ2 z).cells))) = ptrT (ev C ρ2 y) (fun i off => bxT σ1[i]? (fun cs => onT ((ev C ρ2 z).boxable = true ∧ (ev C ρ2 z).cells.length = kk ∧ off + kk ≤ cs.length ∧ noMap cs = true) (fun _ => Q .normal (keepOnly keep ρ2) (σ1.set i (over cs off (ev C ρ2 z).cells))) .mk) .mk) .mk := by
    intro ρ2 σ1
    unfold ptrT bxT onT
    apply propext
    constructor
    · rintro ⟨i, off, cs, h1, h2, h3, h4⟩
      rw [h1]; simp only [h2]; exact ⟨h3, h4⟩
    · intro h
      cases hy : ev C ρ2 y <;> rw [hy] at h <;> simp only at h <;> first | exact h.elim | skip
      rename_i i off
      cases hc : σ1[i]? with
      | none => rw [hc] at h; exact h.elim
      | some cs => rw [hc] at h; exact ⟨i, off, cs, rfl, hc, h.1, h.2⟩
  unfold awpT calmT actT
  simp only [awp, awpX, key]
def gT (C : Cx) (l : List (O × GK)) (m : Nat) (h : List (List (List V))) (p : List PendG) (ρ : Slots) (σ : List (List V)) (k : Slots → List (List V) → Prop) (P : V → List (List V) → Prop) (_ : Tag k) (_ : Tag P) : Prop := awpG C P k l m h p ρ σ
def gnx (F : Slots → List (List V) → Prop) : APost := fun e ρ σ => e = .normal ∧ F ρ σ
theorem gnx_normal (F : Slots → List (List V) → Prop) : gnx F .normal ρ σ = F ρ σ := by simp [gnx]
section
variable {m : Nat} {h : List (List (List V))} {p : List PendG} {k : Slots → List (List V) → Prop} {P : V → List (List V) → Prop} {r : List (O × GK)}
theorem g_nil (s : Tag k) (t : Tag P) : gT C [] m h p ρ σ k P s t = k ρ σ := rfl
theorem g_free (o : O) (lo : Nat) (s : Tag k) (t : Tag P) : gT C ((o, .free lo) :: r) m h p ρ σ k P s t = calmT C [o] ρ σ (fun ρ' => gT C r m h p ρ' σ k P .mk .mk) .mk := rfl
theorem g_calm (o : O) (lo hi : Nat) (s : Tag k) (t : Tag P) : gT C ((o, .calm lo hi) :: r) m h p ρ σ k P s t = calmT C [o] ρ σ (fun ρ' => onT (backG C o ρ ρ' (m - lo) h) (fun _ => gT C r m h (pushG m hi ⟨o, ρ, ρ', hi⟩ p) ρ' σ k P .mk .mk) .mk) .mk := rfl
theorem g_slot (o : O) (lo : Nat) (s : Tag k) (t : Tag P) : gT C ((o, .slot lo) :: r) m h p ρ σ k P s t = opsT C [o] ρ σ (gnx fun ρ' σ' => gT C r m h p ρ' σ' k P .mk .mk) .mk := rfl
def actG (C : Cx) (f : FuncId) (vs : List V) (σ : List (List V)) (R : List (List V) → Prop) (kk : V → List (List V) → Prop) (P : V → List (List V) → Prop) (pn : Unit → Prop) (_ : Tag R) (_ : Tag kk) (_ : Tag P) (_ : Tag pn) : Prop :=
  (∃ v σ1, Fun C f vs σ (fun o σ' => o = .ret v ∧ σ' = σ1) ∧ R σ1 ∧ kk v σ1) ∨ (Fun C f vs σ (fun o σ' => ∃ u, o = .panic u ∧ P u σ') ∧ pn ())
theorem g_call (d : Option Nat) (f : FuncId) (args : List X) (s : Tag k) (t : Tag P) : gT C ((⟨d, .call f args, none⟩, .act) :: r) m h p ρ σ k P s t = actG C f (args.map fun x => (ev C ρ x).lend) σ (fun σ1 => reG C (m + 1) σ1 p) (fun v σ1 => gT C r (m + 1) (σ :: h) p (putd ρ d v) σ1 k P .mk .mk) P (fun _ => panG C r m h (putd ρ d .junk) σ) .mk .mk .mk .mk := by
  unfold gT actG; simp only [awpG]
theorem g_callv (d : Option Nat) (x : X) (args : List X) (s : Tag k) (t : Tag P) : gT C ((⟨d, .callv x args, none⟩, .act) :: r) m h p ρ σ k P s t = fnT (ev C ρ x) (fun f cap => actG C f ((args.map fun x => (ev C ρ x).lend) ++ cap) σ (fun σ1 => reG C (m + 1) σ1 p) (fun v σ1 => gT C r (m + 1) (σ :: h) p (putd ρ d v) σ1 k P .mk .mk) P (fun _ => panG C r m h (putd ρ d .junk) σ) .mk .mk .mk .mk) .mk := by
  unfold gT actG fnT; simp only [awpG]
  apply propext
  constructor
  · rintro ⟨f, cap, e, hh⟩
    rw [e]; exact hh
  · intro hh
    cases hy : ev C ρ x <;> rw [hy] at hh <;> simp only at hh <;> first | exact hh.elim | skip
    exact ⟨_, _, rfl, hh⟩
theorem g_sto (d : Option Nat) (kk : Nat) (x y : X) (s : Tag k) (t : Tag P) : gT C ((⟨d, .sto kk x y, none⟩, .act) :: r) m h p ρ σ k P s t = opsT C [⟨d, .sto kk x y, none⟩] ρ σ (gnx fun ρ' σ' => onT (reG C (m + 1) σ' p) (fun _ => gT C r (m + 1) (σ :: h) p ρ' σ' k P .mk .mk) .mk) .mk := by
  unfold gT; simp only [awpG]; rfl
theorem g_stoo (d : Option Nat) (x : X) (y : Nat) (s : Tag k) (t : Tag P) : gT C ((⟨d, .stoo x y, none⟩, .act) :: r) m h p ρ σ k P s t = opsT C [⟨d, .stoo x y, none⟩] ρ σ (gnx fun ρ' σ' => onT (reG C (m + 1) σ' p) (fun _ => gT C r (m + 1) (σ :: h) p ρ' σ' k P .mk .mk) .mk) .mk := by
  unfold gT; simp only [awpG]; rfl
theorem g_ldo (d : Option Nat) (x : X) (s : Tag k) (t : Tag P) : gT C ((⟨d, .ldo x, none⟩, .act) :: r) m h p ρ σ k P s t = opsT C [⟨d, .ldo x, none⟩] ρ σ (gnx fun ρ' σ' => onT (reG C (m + 1) σ' p) (fun _ => gT C r (m + 1) (σ :: h) p ρ' σ' k P .mk .mk) .mk) .mk := by
  unfold gT; simp only [awpG]; rfl
theorem g_new (d : Option Nat) (T : Nat) (cs : List V) (s : Tag k) (t : Tag P) : gT C ((⟨d, .new T cs, none⟩, .act) :: r) m h p ρ σ k P s t = opsT C [⟨d, .new T cs, none⟩] ρ σ (gnx fun ρ' σ' => onT (reG C (m + 1) σ' p) (fun _ => gT C r (m + 1) (σ :: h) p ρ' σ' k P .mk .mk) .mk) .mk := by
  unfold gT; simp only [awpG]; rfl
theorem g_box (d : Option Nat) (T : Nat) (x : X) (s : Tag k) (t : Tag P) : gT C ((⟨d, .box T x, none⟩, .act) :: r) m h p ρ σ k P s t = opsT C [⟨d, .box T x, none⟩] ρ σ (gnx fun ρ' σ' => onT (reG C (m + 1) σ' p) (fun _ => gT C r (m + 1) (σ :: h) p ρ' σ' k P .mk .mk) .mk) .mk := by
  unfold gT; simp only [awpG]; rfl
theorem g_cpy (d : Option Nat) (x y : X) (s : Tag k) (t : Tag P) : gT C ((⟨d, .cpy x y, none⟩, .act) :: r) m h p ρ σ k P s t = opsT C [⟨d, .cpy x y, none⟩] ρ σ (gnx fun ρ' σ' => onT (reG C (m + 1) σ' p) (fun _ => gT C r (m + 1) (σ :: h) p ρ' σ' k P .mk .mk) .mk) .mk := by
  unfold gT; simp only [awpG]; rfl
theorem g_mst (d : Option Nat) (st : Bool) (x y z : X) (s : Tag k) (t : Tag P) : gT C ((⟨d, .mst st x y z, none⟩, .act) :: r) m h p ρ σ k P s t = opsT C [⟨d, .mst st x y z, none⟩] ρ σ (gnx fun ρ' σ' => onT (reG C (m + 1) σ' p) (fun _ => gT C r (m + 1) (σ :: h) p ρ' σ' k P .mk .mk) .mk) .mk := by
  unfold gT; simp only [awpG]; rfl
theorem g_mkb (d : Option Nat) (T bytes : Nat) (z : V) (x : X) (s : Tag k) (t : Tag P) : gT C ((⟨d, .mkb T bytes z x, none⟩, .act) :: r) m h p ρ σ k P s t = opsT C [⟨d, .mkb T bytes z x, none⟩] ρ σ (gnx fun ρ' σ' => onT (reG C (m + 1) σ' p) (fun _ => gT C r (m + 1) (σ :: h) p ρ' σ' k P .mk .mk) .mk) .mk := by
  unfold gT; simp only [awpG]; rfl
theorem re_nil (σ' : List (List V)) : reG C m σ' [] = True := rfl
theorem re_cons (o : O) (ρ1 ρ2 : Slots) (hi : Nat) (σ' : List (List V)) : reG C m σ' (⟨o, ρ1, ρ2, hi⟩ :: p) = onT (if m ≤ hi then calmT C [o] ρ1 σ' (fun ρ' => ρ' = ρ2) .mk else True) (fun _ => reG C m σ' p) .mk := rfl
theorem back_zero (o : O) (ρ1 ρ2 : Slots) : backG C o ρ1 ρ2 0 h = True := by cases h <;> rfl
theorem back_succ (o : O) (ρ1 ρ2 : Slots) (n : Nat) : backG C o ρ1 ρ2 (n + 1) (σ :: h) = onT (calmT C [o] ρ1 σ (fun ρ' => ρ' = ρ2) .mk) (fun _ => backG C o ρ1 ρ2 n h) .mk := rfl
theorem push_if (hi : Nat) (x : PendG) : pushG m hi x p = if m < hi then x :: p else p := rfl
theorem p_nil : panG C [] m h ρ σ = True := rfl
theorem p_free (o : O) (lo : Nat) : panG C ((o, .free lo) :: r) m h ρ σ = if lo ≤ m then calmT C [o] ρ σ (fun ρ' => panG C r m h ρ' σ) .mk else panG C r m h (ap o (.junk, .junk) ρ) σ := rfl
theorem p_calm (o : O) (lo hi : Nat) : panG C ((o, .calm lo hi) :: r) m h ρ σ = if lo ≤ m then calmT C [o] ρ σ (fun ρ' => onT (backG C o ρ ρ' (m - lo) h) (fun _ => panG C r m h ρ' σ) .mk) .mk else panG C r m h (ap o (.junk, .junk) ρ) σ := rfl
theorem p_slot (o : O) (lo : Nat) : panG C ((o, .slot lo) :: r) m h ρ σ = if lo ≤ m then opsT C [o] ρ σ (gnx fun ρ' _ => panG C r m h ρ' σ) .mk else panG C r m h (ap o (.junk, .junk) ρ) σ := rfl
theorem p_act (o : O) : panG C ((o, .act) :: r) m h ρ σ = panG C r m h (ap o (.junk, .junk) ρ) σ := rfl
end
theorem w_drawg (l : List (O × GK)) (keep : List Nat) (t : Tag Q) : awpT C n0 (.drawg l keep) ρ σ Q t = gT C l 0 [] [] ρ σ (fun ρ' σ' => Q .normal (keepOnly keep ρ') σ') (fun u σ' => ∀ ρ', Q (.panic u) (keepOnly keep ρ') σ') .mk .mk := rfl
def vT (C : Cx) (p : AV) (σ : List (List V)) (K : Slots → List (List V) → Prop) (l : List O) (pend : List (O × Slots × V)) (ρ : Slots) (_ : Tag K) : Prop := awpV C p σ K l pend ρ
theorem w_drawv (p : AV) (l : List O) (keep : List Nat) (t : Tag Q) : awpT C n0 (.drawv p l keep) ρ σ Q t = vT C p σ (fun ρ' σ' => Q .normal (keepOnly keep ρ') σ') l [] ρ .mk := rfl
theorem vv_cons (p : AV) (K : Slots → List (List V) → Prop) (d : Option Nat) (op : OP) (r : List O) (pend : List (O × Slots × V)) (t : Tag K) : vT C p σ K (⟨d, op, none⟩ :: r) pend ρ t = calmT C [⟨some 0, op, none⟩] ρ σ (fun ρ' => vT C p σ K r ((⟨d, op, none⟩, ρ, get ρ' 0) :: pend) (putd ρ d (get ρ' 0)) .mk) .mk := by
  unfold vT calmT
  simp only [awpV, awpCalm, true_and, putd]
  refine propext ⟨calmO_mono1 fun v hh => ?_, calmO_mono1 fun v hh => ?_⟩
  · simpa only [get_put, if_true] using hh
  · simpa only [get_put, if_true] using hh
theorem vv_nil (d T bytes : Nat) (z : V) (s : Nat) (y : X) (st : Bool) (x k v : X) (K : Slots → List (List V) → Prop) (pend : List (O × Slots × V)) (t : Tag K) : vT C ⟨d, T, bytes, z, s, y, st, x, k, v⟩ σ K [] pend ρ t = bxT (srcV σ (ev C ρ y)) (fun src => onT (0 < src.length) (fun _ => avT (get ρ s) src bytes z σ (fun u σ1 => onT (reV C σ1 pend) (fun _ =>
    kvT (mapAt st σ1 (ev C (put ρ d u) x)) (keyV st (ev C (put ρ d u) k)) (fun kv key => K (put ρ d u) (setMp σ1 st (mput key (ev C (put ρ d u) v).copy kv) (ev C (put ρ d u) x))) .mk) .mk) .mk) .mk) .mk := by
  unfold vT bxT onT avT
  simp only [awpV]
  have inner : ∀ u σ1, (reV C σ1 pend ∧ finV C ⟨d, T, bytes, z, s, y, st, x, k, v⟩ K (put ρ d u) σ1) = (reV C σ1 pend ∧ kvT (mapAt st σ1 (ev C (put ρ d u) x)) (keyV st (ev C (put ρ d u) k)) (fun kv key => K (put ρ d u) (setMp σ1 st (mput key (ev C (put ρ d u) v).copy kv) (ev C (put ρ d u) x))) .mk) := fun u σ1 => by
    unfold finV kvT
    simp only
    cases mapAt st σ1 (ev C (put ρ d u) x) <;> cases keyV st (ev C (put ρ d u) k) <;> simp
  simp only [inner]
  cases srcV σ (ev C ρ y) <;> simp
theorem rev_nil : reV C σ [] = True := rfl
theorem rev_cons (d : Option Nat) (op : OP) (g : Option (Nat × Bool)) (ρ1 : Slots) (v : V) (r : List (O × Slots × V)) : reV C σ ((⟨d, op, g⟩, ρ1, v) :: r) = onT (calmT C [⟨some 0, op, none⟩] ρ1 σ (fun ρ' => get ρ' 0 = v) .mk) (fun _ => reV C σ r) .mk := by
  unfold onT calmT
  simp only [reV, awpCalm, putd]
  refine propext ⟨fun ⟨h1, h2⟩ => ⟨calmO_mono1 (fun u hh => ?_) h1, h2⟩, fun ⟨h1, h2⟩ => ⟨calmO_mono1 (fun u hh => ?_) h1, h2⟩⟩
  · simpa only [get_put, if_true] using hh
  · simpa only [get_put, if_true] using hh
theorem w_skip (t : Tag Q) : awpT C n0 .skip ρ σ Q t = Q .normal ρ σ := rfl
theorem w_ops (l : List O) (keep : List Nat) (t : Tag Q) : awpT C n0 (.ops l keep) ρ σ Q t = opsT C l ρ σ (fun e ρ' σ' => Q e (keepOnly keep ρ') σ') .mk := rfl
theorem w_draw (l : List O) (keep : List Nat) (t : Tag Q) : awpT C n0 (.draw l keep) ρ σ Q t = calmT C l ρ σ (fun ρ' => Q .normal (keepOnly keep ρ') σ) .mk := rfl
theorem w_seq (a b : Cd) (t : Tag Q) : awpT C n0 (.seq a b) ρ σ Q t = awpT C n0 a ρ σ (andThen (fun ρ' σ' => awpT C n0 b ρ' σ' Q .mk) Q) .mk := rfl
theorem w_cond (x : X) (a b : Cd) (t : Tag Q) : awpT C n0 (.cond x a b) ρ σ Q t = boolT (ev C ρ x) (fun c => iteT c (fun _ => awpT C n0 a ρ σ Q .mk) (fun _ => awpT C n0 b ρ σ Q .mk) .mk .mk) .mk := rfl
theorem w_block (id : Nat) (a : Cd) (t : Tag Q) : awpT C n0 (.block id a) ρ σ Q t = awpT C n0 a ρ σ (inBlk id Q) .mk := rfl
theorem w_exit (id : Nat) (t : Tag Q) : awpT C n0 (.exit id) ρ σ Q t = Q (.exit id) ρ σ := rfl
theorem w_ret (t : Tag Q) : awpT C n0 .ret ρ σ Q t = Q .ret ρ σ := rfl
theorem then_normal (next : Slots → List (List V) → Prop) : andThen next Q .normal ρ σ = next ρ σ := rfl
theorem then_ret (next : Slots → List (List V) → Prop) : andThen next Q .ret ρ σ = Q .ret ρ σ := rfl
theorem then_exit (next : Slots → List (List V) → Prop) (i : Nat) : andThen next Q (.exit i) ρ σ = Q (.exit i) ρ σ := rfl
theorem then_panic (next : Slots → List (List V) → Prop) (v : V) : andThen next Q (.panic v) ρ σ = Q (.panic v) ρ σ := rfl
theorem blk_normal (id : Nat) : inBlk id Q .normal ρ σ = Q .normal ρ σ := rfl
theorem blk_ret (id : Nat) : inBlk id Q .ret ρ σ = Q .ret ρ σ := rfl
theorem blk_exit (id j : Nat) : inBlk id Q (.exit j) ρ σ = if j = id then Q .normal ρ σ else Q (.exit j) ρ σ := rfl
theorem blk_panic (id : Nat) (v : V) : inBlk id Q (.panic v) ρ σ = Q (.panic v) ρ σ := rfl
theorem awpOps_mono {Q' : APost} (hq : ∀ e ρ σ, Q e ρ σ → Q' e ρ σ) : ∀ {l : List O} {ρ : Slots} {σ : List (List V)}, awpOps C l ρ σ Q → awpOps C l ρ σ Q'
  | [], ρ, σ, h => hq _ _ _ h
  | o :: r, ρ, σ, h => by
    have step : ∀ {ρ : Slots} {K K' : Slots → List (List V) → Prop}, (∀ ρ σ, K ρ σ → K' ρ σ) → runO C o.op o.dst ρ σ K Q → runO C o.op o.dst ρ σ K' Q' := by
      intro ρ K K' hk hr
      have hout : ∀ (o' : Out) (σ' : List (List V)), (match o' with | .ret v => K (putd ρ o.dst v) σ' | .panic v => Q (.panic v) ρ σ') → (match o' with | .ret v => K' (putd ρ o.dst v) σ' | .panic v => Q' (.panic v) ρ σ') := by
        intro o' σ' hh
        cases o' with
        | ret v => exact hk _ _ hh
        | panic v => exact hq _ _ _ hh
      generalize o.op = op at hr ⊢
      unfold runO at hr ⊢
      cases op <;> (try simp only at hr ⊢)
      case call f args => exact hr.mono hout
      case callv x args => generalize ev C ρ x = z at hr ⊢; cases z <;> (try simp only at hr ⊢) <;> first | exact hr.elim | exact hr.mono hout
      case calln f args => exact hr.mono hout
      case callm x args t =>
        generalize ev C ρ x = z at hr ⊢
        generalize get ρ t = z' at hr ⊢
        split at hr
        case h_2 => exact hr.elim
        refine hr.mono fun o' σ' hh => ?_
        cases o' with
        | ret v => exact hk _ _ hh
        | panic v => exact hq _ _ _ hh
      case new T cs => exact hk _ _ hr
      case box T x => exact ⟨hr.1, hk _ _ hr.2⟩
      case sto k x y =>
        generalize ev C ρ x = z at hr ⊢; cases z <;> (try simp only at hr ⊢) <;> first | exact hr.elim | skip
        rename_i i off
        generalize σ[i]? = z at hr ⊢; cases z <;> (try simp only at hr ⊢) <;> first | exact hr.elim | exact ⟨hr.1, hk _ _ hr.2⟩
      case stoo x t =>
        generalize ev C ρ x = z at hr ⊢; cases z <;> (try simp only at hr ⊢) <;> first | exact hr.elim | skip
        rename_i i off
        generalize get ρ t = z at hr ⊢; cases z <;> (try simp only at hr ⊢) <;> first | exact hr.elim | skip
        generalize σ[i]? = z at hr ⊢; cases z <;> (try simp only at hr ⊢) <;> first | exact hr.elim | exact ⟨hr.1, hk _ _ hr.2⟩
      case ldo x =>
        generalize ev C ρ x = z at hr ⊢; cases z <;> (try simp only at hr ⊢) <;> first | exact hr.elim | skip
        rename_i i off
        generalize σ[i]? = z at hr ⊢; cases z <;> (try simp only at hr ⊢) <;> first | exact hr.elim | skip
        rename_i cs
        generalize cs[off]? = z at hr ⊢; cases z <;> (try simp only at hr ⊢) <;> first | exact hr.elim | skip
        rename_i v
        cases v <;> (try simp only at hr ⊢) <;> first | exact hr.elim | exact hk _ _ hr
      case mvo t => generalize get ρ t = z at hr ⊢; cases z <;> (try simp only at hr ⊢) <;> first | exact hr.elim | exact hk _ _ hr
      case nilo T k => exact hk _ _ hr
      case app T k b t y =>
        generalize get ρ t = z at hr ⊢; cases z <;> (try simp only at hr ⊢) <;> first | exact hr.elim | skip
        generalize rowsV (ev C ρ y) = z at hr ⊢; cases z <;> (try simp only at hr ⊢) <;> first | exact hr.elim | exact ⟨hr.1, hk _ _ hr.2⟩
      case mks T k xs => generalize rowsOf (xs.map (ev C ρ)) = z at hr ⊢; cases z <;> (try simp only at hr ⊢) <;> first | exact hr.elim | exact ⟨hr.1, hk _ _ hr.2⟩
      case mkso T k xs => generalize rowsOf (xs.map (ev C ρ)) = z at hr ⊢; cases z <;> (try simp only at hr ⊢) <;> first | exact hr.elim | exact ⟨hr.1, hk _ _ hr.2⟩
      case mkc T k bytes x =>
        generalize ev C ρ x = z at hr ⊢
        cases z <;> (try simp only at hr ⊢) <;> first | exact hr.elim | skip
        rename_i z
        cases z <;> (try simp only at hr ⊢) <;> first | exact hr.elim | skip
        rename_i z
        cases z <;> (try simp only at hr ⊢) <;> first | exact hr.elim | exact ⟨hr.1, hk _ _ hr.2⟩
      case mkb T bytes q x =>
        generalize ev C ρ x = z at hr ⊢
        cases z <;> (try simp only at hr ⊢) <;> first | exact hr.elim | skip
        rename_i z
        cases z <;> (try simp only at hr ⊢) <;> first | exact hr.elim | skip
        rename_i z
        cases z <;> (try simp only at hr ⊢) <;> first | exact hr.elim | exact ⟨hr.1, hk _ _ hr.2⟩
      case pan x => generalize ev C ρ x = z at hr ⊢; cases z <;> (try simp only at hr ⊢) <;> first | exact hr.elim | exact hq _ _ _ hr
      case mmk st => exact hk _ _ hr
      case mkv T xs => generalize onesV (xs.map (ev C ρ)) = z at hr ⊢; cases z <;> (try simp only at hr ⊢) <;> first | exact hr.elim | exact hk _ _ hr
      case appv T bytes z t y =>
        generalize srcV σ (ev C ρ y) = q at hr ⊢; cases q <;> (try simp only at hr ⊢) <;> first | exact hr.elim | exact ⟨hr.1, appvR_mono (fun v σ' hh => hk _ _ hh) hr.2⟩
      case mst st x k v =>
        generalize mapAt st σ (ev C ρ x) = z at hr ⊢; cases z <;> (try simp only at hr ⊢) <;> first | exact hr.elim | skip
        generalize keyV st (ev C ρ k) = z at hr ⊢; cases z <;> (try simp only at hr ⊢) <;> first | exact hr.elim | exact hk _ _ hr
      case mdl st x k =>
        generalize mapAt st σ (ev C ρ x) = z at hr ⊢; cases z <;> (try simp only at hr ⊢) <;> first | exact hr.elim | skip
        generalize keyV st (ev C ρ k) = z at hr ⊢; cases z <;> (try simp only at hr ⊢) <;> first | exact hr.elim | exact hk _ _ hr
      case clr z x =>
        generalize ev C ρ x = v at hr ⊢
        by_cases he : isEmpD v = true
        · rw [if_pos he] at hr ⊢; exact hk _ _ hr
        · rw [if_neg he] at hr ⊢
          generalize asB v = q at hr ⊢
          cases q with
          | none => exact hr.elim
          | some q =>
            obtain ⟨i, off, n⟩ := q
            simp only at hr ⊢
            generalize σ[i]? = z at hr ⊢; cases z <;> (try simp only at hr ⊢) <;> first | exact hr.elim | exact ⟨hr.1, hk _ _ hr.2⟩
      case cpy x y =>
        generalize asB (ev C ρ x) = q at hr ⊢
        cases q with
        | none => exact hr.elim
        | some q =>
          obtain ⟨i, off, n⟩ := q
          simp only at hr ⊢
          generalize srcV σ (ev C ρ y) = z2 at hr ⊢
          generalize σ[i]? = z at hr ⊢
          cases z <;> cases z2 <;> (try simp only at hr ⊢) <;> first | exact hr.elim | exact ⟨hr.1, hk _ _ hr.2⟩
      all_goals (split at hr <;> first | exact hk _ _ hr | exact hr.elim)
    simp only [awpOps] at h ⊢
    cases hg : o.g with
    | none => rw [hg] at h; exact step (fun _ _ hh => awpOps_mono hq hh) h
    | some p =>
      obtain ⟨t, want⟩ := p
      rw [hg] at h
      simp only at h ⊢
      split at h
      · rename_i b hb
        exact ⟨fun e => step (fun _ _ hh => awpOps_mono hq hh) (h.1 e), fun e => awpOps_mono hq (h.2 e)⟩
      · rename_i hb
        exact awpOps_mono hq h
      · exact h.elim
theorem calmO_mono {op : OP} {k k' : V → Prop} (hk : ∀ v, k v → k' v) (h : calmO C op ρ σ k) : calmO C op ρ σ k' := by
  obtain ⟨v, h1, h2⟩ := calmO_split h
  unfold calmO at h1 ⊢
  split at h1
  · obtain ⟨u, g1, g2⟩ := h1; subst g2; exact ⟨u, g1, hk _ h2⟩
  · split at h1
    · obtain ⟨u, g1, g2⟩ := h1; subst g2; exact ⟨u, g1, hk _ h2⟩
    · exact h1.elim
  · split at h1
    · exact ⟨h1.1, hk _ (h1.2 ▸ h2)⟩
    · exact h1.elim
  · obtain ⟨u, g1, g2⟩ := h1; subst g2; exact ⟨u, g1, hk _ h2⟩
  · split at h1
    · subst h1; exact hk _ h2
    · exact h1.elim
theorem awpCalm_mono {K K' : Slots → Prop} (hk : ∀ ρ, K ρ → K' ρ) : ∀ {l : List O} {ρ : Slots}, awpCalm C l ρ σ K → awpCalm C l ρ σ K'
  | [], ρ, h => hk _ h
  | o :: r, ρ, h => by
    simp only [awpCalm] at h ⊢
    cases hg : o.g with
    | none => rw [hg] at h; exact calmO_mono (fun _ hh => awpCalm_mono hk hh) h
    | some p =>
      obtain ⟨t, want⟩ := p
      rw [hg] at h
      simp only at h ⊢
      split at h
      · rename_i b hb
        exact ⟨fun e => calmO_mono (fun _ hh => awpCalm_mono hk hh) (h.1 e), fun e => awpCalm_mono hk (h.2 e)⟩
      · rename_i hb
        exact awpCalm_mono hk h
      · exact h.elim
theorem awpA_mono {c : Cell} {K K' : Slots → List (List D) → Prop} (hk : ∀ ρ r, K ρ r → K' ρ r) : ∀ {l : List O} {ρ : Slots} {acc : Option (List (List D))}, awpA C c σ σ2 l ρ acc K → awpA C c σ σ2 l ρ acc K'
  | [], ρ, acc, h => by
    cases acc with
    | none => exact h.elim
    | some r => exact hk _ _ h
  | o :: r, ρ, acc, h => by
    unfold awpA at h ⊢
    split at h
    · exact ⟨h.1, h.2.1, awpA_mono hk h.2.2⟩
    · refine ⟨h.1, ?_⟩
      have h2 := h.2
      split at h2
      · exact ⟨h2.1, awpA_mono hk h2.2⟩
      · exact h2.elim
    · exact ⟨h.1, h.2.1, h.2.2.1, awpA_mono hk h.2.2.2⟩
    · split at h
      · exact calmO_mono (fun v hh => ⟨hh.1, awpA_mono hk hh.2⟩) h
      · split at h
        · exact ⟨fun e => calmO_mono (fun v hh => ⟨hh.1, awpA_mono hk hh.2⟩) (h.1 e), fun e => awpA_mono hk (h.2 e)⟩
        · exact awpA_mono hk h
        · exact h.elim
theorem awpN_mono {cn : List V} {K K' : Slots → List V → Prop} (hk : ∀ ρ r, K ρ r → K' ρ r) : ∀ {l : List O} {ρ : Slots} {acc : Option (List V)}, awpN C cn σ σ2 l ρ acc K → awpN C cn σ σ2 l ρ acc K'
  | [], ρ, acc, h => by
    cases acc with
    | none => exact h.elim
    | some r => exact hk _ _ h
  | o :: r, ρ, acc, h => by
    unfold awpN at h ⊢
    split at h
    · exact ⟨h.1, h.2.1, awpN_mono hk h.2.2⟩
    · refine ⟨h.1, h.2.1, ?_⟩
      have h2 := h.2.2
      split at h2
      · exact ⟨h2.1, h2.2.1, awpN_mono hk h2.2.2⟩
      · exact h2.elim
    · split at h
      · exact calmO_mono (fun v hh => ⟨hh.1, awpN_mono hk hh.2⟩) h
      · split at h
        · exact ⟨fun e => calmO_mono (fun v hh => ⟨hh.1, awpN_mono hk hh.2⟩) (h.1 e), fun e => awpN_mono hk (h.2 e)⟩
        · exact awpN_mono hk h
        · exact h.elim
theorem awpV_mono {p : AV} {K K' : Slots → List (List V) → Prop} (hk : ∀ ρ r, K ρ r → K' ρ r) : ∀ {l : List O} {pend : List (O × Slots × V)} {ρ : Slots}, awpV C p σ K l pend ρ → awpV C p σ K' l pend ρ
  | [], pend, ρ, ⟨src, h1, h2, h3⟩ => ⟨src, h1, h2, appvR_mono (fun u σ1 ⟨g1, kv, key, g2, g3, g4⟩ => ⟨g1, kv, key, g2, g3, hk _ _ g4⟩) h3⟩
  | o :: r, pend, ρ, ⟨hg, h⟩ => ⟨hg, calmO_mono (fun v hh => awpV_mono hk hh) h⟩
theorem awpS_mono {K K' : Slots → List (List V) → Prop} (hk : ∀ ρ r, K ρ r → K' ρ r) : ∀ {l : List O} {ρ : Slots} {acc : Option (List (List V))}, awpS C σ l ρ acc K → awpS C σ l ρ acc K'
  | [], ρ, acc, h => by
    cases acc with
    | none => exact h.elim
    | some r => exact hk _ _ h
  | o :: r, ρ, acc, h => by
    unfold awpS at h ⊢
    split at h
    · refine ⟨h.1, h.2.1, ?_⟩
      have h2 := h.2.2
      split at h2
      · split at h2
        · exact ⟨h2.1, awpS_mono hk h2.2⟩
        · exact h2.elim
      · exact h2.elim
    · split at h
      · exact calmO_mono (fun v hh => awpS_mono hk hh) h
      · split at h
        · exact ⟨fun e => calmO_mono (fun v hh => awpS_mono hk hh) (h.1 e), fun e => awpS_mono hk (h.2 e)⟩
        · exact awpS_mono hk h
        · exact h.elim
theorem awpG_mono {K K' : Slots → List (List V) → Prop} {P P' : V → List (List V) → Prop} (hk : ∀ ρ r, K ρ r → K' ρ r) (hp : ∀ u r, P u r → P' u r) : ∀ {l : List (O × GK)} {m : Nat} {h : List (List (List V))} {p : List PendG} {ρ : Slots} {σ : List (List V)}, awpG C P K l m h p ρ σ → awpG C P' K' l m h p ρ σ
  | [], _, _, _, _, _, hg => hk _ _ hg
  | (o, .free _) :: r, _, _, _, _, _, hg => by
    simp only [awpG] at hg ⊢
    exact awpCalm_mono (fun ρ' hh => awpG_mono hk hp hh) hg
  | (o, .calm _ _) :: r, _, _, _, _, _, hg => by
    simp only [awpG] at hg ⊢
    exact awpCalm_mono (fun ρ' hh => ⟨hh.1, awpG_mono hk hp hh.2⟩) hg
  | (o, .slot _) :: r, _, _, _, _, _, hg => by
    simp only [awpG] at hg ⊢
    exact awpOps_mono (fun e ρ' σ' hh => ⟨hh.1, awpG_mono hk hp hh.2⟩) hg
  | (⟨d, op, g⟩, .act) :: r, m, h, p, ρ, σ, hg => by
    have call : ∀ {f : FuncId} {vs : List V}, ((∃ v σ1, Fun C f vs σ (fun o σ' => o = .ret v ∧ σ' = σ1) ∧ reG C (m + 1) σ1 p ∧ awpG C P K r (m + 1) (σ :: h) p (putd ρ d v) σ1) ∨ (Fun C f vs σ (fun o σ' => ∃ u, o = .panic u ∧ P u σ') ∧ panG C r m h (putd ρ d .junk) σ)) →
        ((∃ v σ1, Fun C f vs σ (fun o σ' => o = .ret v ∧ σ' = σ1) ∧ reG C (m + 1) σ1 p ∧ awpG C P' K' r (m + 1) (σ :: h) p (putd ρ d v) σ1) ∨ (Fun C f vs σ (fun o σ' => ∃ u, o = .panic u ∧ P' u σ') ∧ panG C r m h (putd ρ d .junk) σ)) := fun {f vs} hh => by
      rcases hh with ⟨v, σ1, h1, h2, h3⟩ | ⟨h1, h2⟩
      · exact .inl ⟨v, σ1, h1, h2, awpG_mono hk hp h3⟩
      · exact .inr ⟨h1.mono fun o σ' ⟨u, e1, e2⟩ => ⟨u, e1, hp _ _ e2⟩, h2⟩
    cases op
    case call f args => simp only [awpG] at hg ⊢; exact call hg
    case callv x args =>
      simp only [awpG] at hg ⊢
      obtain ⟨f, cap, e, hh⟩ := hg
      exact ⟨f, cap, e, call hh⟩
    all_goals
      simp only [awpG] at hg ⊢
      exact awpOps_mono (fun e ρ' σ' hh => ⟨hh.1, hh.2.1, awpG_mono hk hp hh.2.2⟩) hg
theorem awp_mono : ∀ {c : Cd} {ρ : Slots} {σ : List (List V)} {Q Q' : APost}, (∀ e ρ σ, Q e ρ σ → Q' e ρ σ) → awp C n0 c ρ σ Q → awp C n0 c ρ σ Q' := by
  intro c
  induction c with
  | skip => exact fun hq h => hq _ _ _ h
  | ops l keep => exact fun hq h => awpOps_mono (fun e ρ σ => hq e _ σ) h
  | draw l keep => exact fun hq h => awpCalm_mono (fun ρ => hq _ _ _) h
  | drawa l keep =>
    intro ρ σ Q Q' hq h
    obtain ⟨c, cs, h1, h2, h3⟩ := h
    exact ⟨c, cs, h1, h2, awpA_mono (fun ρ r hh => hq _ _ _ hh) h3⟩
  | drawn cs l keep => exact fun hq h => awpN_mono (fun ρ r hh => hq _ _ _ hh) h
  | draws l keep => exact fun hq h => awpS_mono (fun ρ r hh => hq _ _ _ hh) h
  | drawx pre d f args post kk y z keep =>
    intro ρ σ Q Q' hq h
    simp only [awp, awpX] at h ⊢
    refine awpCalm_mono (fun ρ1 hh => ?_) h
    rcases hh with ⟨v, σ1, h1, h2, h3⟩ | h1
    · exact .inl ⟨v, σ1, h1, h2, awpCalm_mono (fun ρ2 ⟨i, off, cs, k1, k2, k3, k4⟩ => ⟨i, off, cs, k1, k2, k3, hq _ _ _ k4⟩) h3⟩
    · exact .inr (h1.mono fun o σ' ⟨u, e1, e2⟩ => ⟨u, e1, fun ρ' => hq _ _ _ (e2 ρ')⟩)
  | drawv p l keep => exact fun hq h => awpV_mono (fun ρ r hh => hq _ _ _ hh) h
  | drawg l keep =>
    intro ρ σ Q Q' hq h
    exact awpG_mono (fun ρ σ hh => hq _ _ _ hh) (fun u σ hh ρ' => hq _ _ _ (hh ρ')) h
  | drawb s d0 d1 T k bytes y l keep =>
    intro ρ σ Q Q' hq h
    simp only [awp, awpB] at h ⊢
    split at h
    · refine ⟨h.1, h.2.1, awpCalm_mono (fun ρ' hh => ?_) h.2.2⟩
      split at hh
      · exact ⟨hh.1, hq _ _ _ hh.2⟩
      · exact hh.elim
    · exact h.elim
  | seq a b iha ihb =>
    exact fun hq h => iha (fun e ρ σ hh => by
      cases e with
      | normal => exact ihb hq hh
      | ret => exact hq _ _ _ hh
      | exit i => exact hq _ _ _ hh
      | panic v => exact hq _ _ _ hh) h
  | cond x a b iha ihb =>
    intro ρ σ Q Q' hq h
    simp only [awp] at h ⊢
    generalize ev C ρ x = z at h ⊢; cases z <;> (try simp only at h ⊢) <;> first | exact h.elim | skip
    rename_i x
    cases x <;> (try simp only at h ⊢) <;> first | exact h.elim | skip
    rename_i v
    cases v <;> (try simp only at h ⊢) <;> first | exact h.elim | skip
    exact ⟨fun e => iha hq (h.1 e), fun e => ihb hq (h.2 e)⟩
  | block id a ih =>
    exact fun hq h => ih (fun e ρ σ hh => by
      cases e with
      | normal => exact hq _ _ _ hh
      | ret => exact hq _ _ _ hh
      | exit i =>
        simp only [inBlk] at hh ⊢
        split
        · rename_i e; rw [if_pos e] at hh; exact hq _ _ _ hh
        · rename_i e; rw [if_neg e] at hh; exact hq _ _ _ hh
      | panic v => exact hq _ _ _ hh) h
  | loop a ih =>
    intro ρ σ Q Q' hq h
    obtain ⟨ρ1, σ1, h0, I, h1, h2⟩ := h
    exact ⟨ρ1, σ1, h0, I, h1, fun m ρ' σ' hI => ih (fun e ρ σ hh => by
      cases e with
      | normal => exact hh
      | ret => exact hq _ _ _ hh
      | exit i => exact hq _ _ _ hh
      | panic v => exact hq _ _ _ hh) (h2 m ρ' σ' hI)⟩
  | exit id => exact fun hq h => hq _ _ _ h
  | ret => exact fun hq h => hq _ _ _ h
theorem awp_loopS {a : Cd} (I : Nat → Slots → List (List V) → Prop) (m : Nat) {ρ1 : Slots} {σ1 : List (List V)} (hu : Shift n0 ρ σ ρ1 σ1) (h0 : I m ρ1 σ1)
    (h : ∀ m ρ' σ', I m ρ' σ' → awp C n0 a ρ' σ' (andThen (fun ρ'' σ'' => ∃ m', m' < m ∧ ∃ ρ3 σ3, Shift n0 ρ'' σ'' ρ3 σ3 ∧ I m' ρ3 σ3) Q)) : awp C n0 (.loop a) ρ σ Q :=
  ⟨ρ1, σ1, hu, I, ⟨m, h0⟩, h⟩
theorem andThen_imp {R R' : Slots → List (List V) → Prop} {Q : APost} (h : ∀ ρ σ, R ρ σ → R' ρ σ) : ∀ e ρ σ, andThen R Q e ρ σ → andThen R' Q e ρ σ := fun e ρ σ hh => by
  cases e with
  | normal => exact h _ _ hh
  | ret => exact hh
  | exit i => exact hh
  | panic v => exact hh
theorem awp_loopK {a : Cd} (ks : List Nat) (I : Nat → Slots → List (List V) → Prop) (m : Nat) {σ1 : List (List V)} (hu : Up σ σ1) (h0 : I m (keepOnly ks ρ) σ1)
    (h : ∀ m ρ' σ', I m ρ' σ' → awp C n0 a ρ' σ' (andThen (fun ρ'' σ'' => ∃ m', m' < m ∧ ∃ k, n0 ≤ k ∧ boxesBelow k (σ''.take k) = true ∧ slotsBelow k (keepOnly ks ρ'') = true ∧ I m' (keepOnly ks ρ'') (σ''.take k)) Q)) : awp C n0 (.loop a) ρ σ Q :=
  awp_loopS I m ((Shift.keep n0 ks ρ σ).trans (Shift.up n0 _ hu)) h0 fun m ρ' σ' hI => awp_mono (andThen_imp fun ρ'' σ'' ⟨m', h1, k, h2, h3, h4, h5⟩ => ⟨m', h1, _, σ''.take k, (Shift.keep n0 ks ρ'' σ'').trans (.cut h2 h3 h4), h5⟩) (h m ρ' σ' hI)
end
mutual
theorem V.under_mono {k j : Nat} (hj : k ≤ j) : ∀ v : V, V.under k v = true → V.under j v = true
  | .agg cs, h => by simp only [V.under] at h ⊢; exact V.unders_mono hj cs h
  | .tup cs, h => by simp only [V.under] at h ⊢; exact V.unders_mono hj cs h
  | .fn _ cs, h => by simp only [V.under] at h ⊢; exact V.unders_mono hj cs h
  | .iface _ v, h => by simp only [V.under] at h ⊢; exact V.under_mono hj v h
  | .ptr i o, h => by simp only [V.under, decide_eq_true_eq] at h ⊢; omega
  | .bsl i o n m, h => by simp only [V.under, decide_eq_true_eq] at h ⊢; omega
  | .mp i, h => by simp only [V.under, decide_eq_true_eq] at h ⊢; omega
  | .bsc i n c, h => by simp only [V.under, decide_eq_true_eq] at h ⊢; omega
  | .mapc _ kv, h => by simp only [V.under] at h ⊢; exact V.underkv_mono hj kv h
  | .d _, _ => rfl
  | .own _ _ _, _ => rfl
  | .nil, _ => rfl
  | .row _ _, _ => rfl
  | .junk, _ => rfl
theorem V.unders_mono {k j : Nat} (hj : k ≤ j) : ∀ cs : List V, V.unders k cs = true → V.unders j cs = true
  | [], _ => rfl
  | x :: r, h => by
    simp only [V.unders, Bool.and_eq_true] at h ⊢
    exact ⟨V.under_mono hj x h.1, V.unders_mono hj r h.2⟩
theorem V.underkv_mono {k j : Nat} (hj : k ≤ j) : ∀ kv : List (Key × V), V.underkv k kv = true → V.underkv j kv = true
  | [], _ => rfl
  | (q, x) :: r, h => by
    simp only [V.underkv, V.underp, Bool.and_eq_true] at h ⊢
    exact ⟨V.under_mono hj x h.1, V.underkv_mono hj r h.2⟩
end
theorem boxesBelow_mono {σ : List (List V)} {k j : Nat} (h : boxesBelow k σ = true) (hj : k ≤ j) : boxesBelow j σ = true := by
  unfold boxesBelow at *
  rw [List.all_eq_true] at h ⊢
  exact fun cs hcs => V.unders_mono hj cs (h cs hcs)
theorem boxesBelow_app {σ l : List (List V)} (h : boxesBelow σ.length σ = true) (hl : l.all (fun cs => V.unders (σ ++ l).length cs) = true) : boxesBelow (σ ++ l).length (σ ++ l) = true := by
  have := boxesBelow_mono h (j := (σ ++ l).length) (by simp)
  unfold boxesBelow at *
  rw [List.all_append, this, hl]; rfl
theorem fin_ret {σ σ' : List (List V)} {ρ : Slots} {rs : List RV} {Q : Out → List (List V) → Prop} (hb : boxesBelow σ.length σ = true) {v : V} (h : resV σ' ρ rs = some v) (hv : V.under σ.length v = true) (hσ : σ'.take σ.length = σ) (hq : Q (.ret v) σ) : fin σ.length rs Q .ret ρ σ' :=
  ⟨ρ, σ', .refl _ _ _, v, h, σ.length, Nat.le_refl _, by rw [hσ]; exact hb, hv, by rw [hσ]; exact hq⟩
def Nxt (n0 : Nat) (R : Slots → List (List V) → Prop) (ρ : Slots) (σ : List (List V)) (_ : Tag R) : Prop := ∃ k, n0 ≤ k ∧ boxesBelow k (σ.take k) = true ∧ slotsBelow k ρ = true ∧ R ρ (σ.take k)
theorem Nxt.same {n0 : Nat} {R : Slots → List (List V) → Prop} {ρ : Slots} {σ : List (List V)} (hn : n0 ≤ σ.length) (hb : boxesBelow σ.length σ = true) (hs : slotsBelow σ.length ρ = true) (hR : R ρ σ) : Nxt n0 R ρ σ .mk :=
  ⟨σ.length, hn, by rw [List.take_length]; exact hb, hs, by rw [List.take_length]; exact hR⟩
theorem Nxt.drop {n0 : Nat} {R : Slots → List (List V) → Prop} {ρ : Slots} {σ l : List (List V)} (hn : n0 ≤ σ.length) (hb : boxesBelow σ.length σ = true) (hs : slotsBelow σ.length ρ = true) (hR : R ρ σ) : Nxt n0 R ρ (σ ++ l) .mk :=
  ⟨σ.length, hn, by rw [List.take_left]; exact hb, hs, by rw [List.take_left]; exact hR⟩
theorem awp_forKU {C : Cx} {n0 : Nat} {ρ : Slots} {σ : List (List V)} {Q : APost} {a : Cd} (ks : List Nat) (R : Nat → Slots → List (List V) → Prop) (n : Nat) {σ1 : List (List V)} (hu : Up σ σ1) (h0 : R 0 (keepOnly ks ρ) σ1)
    (h : ∀ j ρ' σ', j ≤ n → R j ρ' σ' → awpT C n0 a ρ' σ' (andThen (fun ρ'' σ'' => j < n ∧ Nxt n0 (R (j + 1)) (keepOnly ks ρ'') σ'' .mk) Q) .mk) (t : Tag Q) : awpT C n0 (.loop a) ρ σ Q t :=
  awp_loopK ks (fun m ρ σ => ∃ j, j ≤ n ∧ m = n - j ∧ R j ρ σ) n hu ⟨0, by omega, by omega, h0⟩ fun m ρ' σ' ⟨j, hj, hm, hR⟩ => by
    have hi : ∀ e ρ'' σ'', andThen (fun ρ'' σ'' => j < n ∧ Nxt n0 (R (j + 1)) (keepOnly ks ρ'') σ'' .mk) Q e ρ'' σ'' → andThen (fun ρ'' σ'' => ∃ m', m' < m ∧ ∃ k, n0 ≤ k ∧ boxesBelow k (σ''.take k) = true ∧ slotsBelow k (keepOnly ks ρ'') = true ∧ ∃ j, j ≤ n ∧ m' = n - j ∧ R j (keepOnly ks ρ'') (σ''.take k)) Q e ρ'' σ'' := by
      intro e ρ'' σ'' h
      cases e with
      | normal =>
        obtain ⟨h1, k, h2, h3, h4, h5⟩ := h
        exact ⟨n - (j + 1), by omega, k, h2, h3, h4, j + 1, by omega, rfl, h5⟩
      | ret => exact h
      | exit i => exact h
      | panic v => exact h
    exact awp_mono hi (h j ρ' σ' hj hR)
theorem awp_forK {C : Cx} {n0 : Nat} {ρ : Slots} {σ : List (List V)} {Q : APost} {a : Cd} (ks : List Nat) (R : Nat → Slots → List (List V) → Prop) (n : Nat) (h0 : R 0 (keepOnly ks ρ) σ)
    (h : ∀ j ρ' σ', j ≤ n → R j ρ' σ' → awpT C n0 a ρ' σ' (andThen (fun ρ'' σ'' => j < n ∧ Nxt n0 (R (j + 1)) (keepOnly ks ρ'') σ'' .mk) Q) .mk) (t : Tag Q) : awpT C n0 (.loop a) ρ σ Q t := awp_forKU ks R n (.refl σ) h0 h t
theorem fin_frz {σ σ' : List (List V)} {ρ : Slots} (ρ2 : Slots) {rs : List RV} {Q : Out → List (List V) → Prop} (hb : boxesBelow σ.length σ = true) {v : V} (hσ : σ'.take σ.length = σ) (hf : ∀ p, p ∈ ρ2 → FrzV σ' σ.length (get ρ p.1) p.2) (h : resV σ ρ2 rs = some v) (hv : V.under σ.length v = true) (hq : Q (.ret v) σ) : fin σ.length rs Q .ret ρ σ' :=
  ⟨ρ2, σ, by have := Shift.frz (n0 := σ.length) (k := σ.length) (ρ := ρ) (ρ' := ρ2) (σ := σ') (Nat.le_refl _) (by rw [hσ]; exact hb) hf; rwa [hσ] at this, v, h, σ.length, Nat.le_refl _, by rw [List.take_length]; exact hb, hv, by rw [List.take_length]; exact hq⟩
def NxtS (n0 : Nat) (R : Slots → List (List V) → Prop) (ρ : Slots) (σ : List (List V)) (_ : Tag R) : Prop := ∃ ρ3 σ3, Shift n0 ρ σ ρ3 σ3 ∧ R ρ3 σ3
theorem NxtS.of {n0 : Nat} {R : Slots → List (List V) → Prop} {ρ : Slots} {σ : List (List V)} (h : Nxt n0 R ρ σ .mk) : NxtS n0 R ρ σ .mk := by
  obtain ⟨k, h1, h2, h3, h4⟩ := h
  exact ⟨ρ, σ.take k, .cut h1 h2 h3, h4⟩
theorem awp_forS {C : Cx} {n0 : Nat} {ρ : Slots} {σ : List (List V)} {Q : APost} {a : Cd} (ks : List Nat) (R : Nat → Slots → List (List V) → Prop) (n : Nat) {ρ1 : Slots} {σ1 : List (List V)} (hu : Shift n0 (keepOnly ks ρ) σ ρ1 σ1) (h0 : R 0 ρ1 σ1)
    (h : ∀ j ρ' σ', j ≤ n → R j ρ' σ' → awpT C n0 a ρ' σ' (andThen (fun ρ'' σ'' => j < n ∧ NxtS n0 (R (j + 1)) (keepOnly ks ρ'') σ'' .mk) Q) .mk) (t : Tag Q) : awpT C n0 (.loop a) ρ σ Q t :=
  awp_loopS (fun m ρ σ => ∃ j, j ≤ n ∧ m = n - j ∧ R j ρ σ) n ((Shift.keep n0 ks ρ σ).trans hu) ⟨0, by omega, by omega, h0⟩ fun m ρ' σ' ⟨j, hj, hm, hR⟩ =>
    awp_mono (andThen_imp fun ρ'' σ'' ⟨h1, ρ3, σ3, h2, h3⟩ => ⟨n - (j + 1), by omega, ρ3, σ3, (Shift.keep n0 ks ρ'' σ'').trans h2, j + 1, by omega, rfl, h3⟩) (h j ρ' σ' hj hR)
def RetV (v : V) (σ : List (List V)) : Out → List (List V) → Prop := fun o σ' => o = .ret v ∧ σ' = σ
theorem fun_ret {C : Cx} {f : FuncId} {args : List V} {σ : List (List V)} {v : V} {K P : V → List (List V) → Prop} {s : Tag K} {t : Tag P} (h : Fun C f args σ (RetV v σ)) (hk : K v σ) : FunT C f args σ K P s t :=
  h.mono fun o σ' ⟨e1, e2⟩ => by subst e1; subst e2; exact hk
theorem calm_ret {C : Cx} {f : FuncId} {args : List V} {σ : List (List V)} {v : V} {k : V → Prop} {t : Tag k} (h : Fun C f args σ (RetV v σ)) (hk : k v) : CallT C f args σ k t := ⟨v, h, hk⟩
theorem fun_mono {C : Cx} {f : FuncId} {args : List V} {σ : List (List V)} {K P : V → List (List V) → Prop} {s : Tag K} {t : Tag P} {Q : Out → List (List V) → Prop} (h : Fun C f args σ Q) (hk : ∀ o σ', Q o σ' → retK K P o σ') : FunT C f args σ K P s t := h.mono hk
theorem fun_code {C : Cx} {f : FuncId} {fn : Func} {c : Cd} {rs : List RV} {args : List V} {σ : List (List V)} {Q : Out → List (List V) → Prop} (hf : C.P.funcs[f]? = some fn) (hok : okFn C.tab fn args.length c rs = true) (hno : args.all (! ·.isOwn) = true)
    (h : boxesBelow σ.length σ = true → (∀ i (h : i < args.length), V.Wf args[i]) → awpT C σ.length c (slots0 0 args) σ (fin σ.length rs Q) .mk) : Fun C f args σ Q := fun_intro hf hok hno h
section
variable {σ : List (List V)}
theorem v_len_d (rows : List (List D)) : lenV false (.d (.sl rows)) = some (vint .i64 rows.length) := rfl
theorem v_len_own (T k : Nat) (rows : List (List D)) : lenV false (.own T k rows) = some (vint .i64 rows.length) := rfl
theorem v_len_nil : lenV false .nil = some (vint .i64 0) := rfl
theorem v_len_str (s : ByteArray) : lenV true (.d (.lit (.string s))) = some (vint .i64 s.size) := rfl
theorem v_rows_d (rows : List (List D)) : rowsV (.d (.sl rows)) = some rows := rfl
theorem v_rows_own (T k : Nat) (rows : List (List D)) : rowsV (.own T k rows) = some rows := rfl
theorem v_rows_nil : rowsV .nil = some [] := rfl
theorem v_add (k : IntKind) (a b : Int) : binV .add (.d (.lit (.int k a))) (.d (.lit (.int k b))) = some (vint k (k.wrap (a + b))) := by simp [binV, isShift, binI]
theorem v_sub (k : IntKind) (a b : Int) : binV .sub (.d (.lit (.int k a))) (.d (.lit (.int k b))) = some (vint k (k.wrap (a - b))) := by simp [binV, isShift, binI]
theorem v_mul (k : IntKind) (a b : Int) : binV .mul (.d (.lit (.int k a))) (.d (.lit (.int k b))) = some (vint k (k.wrap (a * b))) := by simp [binV, isShift, binI]
theorem v_quo (k : IntKind) (a b : Int) : binV .quo (.d (.lit (.int k a))) (.d (.lit (.int k b))) = if b = 0 then none else some (vint k (k.wrap (a.tdiv b))) := by simp [binV, isShift, binI]
theorem v_rem (k : IntKind) (a b : Int) : binV .rem (.d (.lit (.int k a))) (.d (.lit (.int k b))) = if b = 0 then none else some (vint k (a.tmod b)) := by simp [binV, isShift, binI]
theorem v_band (k : IntKind) (a b : Int) : binV .and (.d (.lit (.int k a))) (.d (.lit (.int k b))) = some (vint k (k.wrap (BitVec.ofInt k.bits a &&& BitVec.ofInt k.bits b).toNat)) := by simp only [binV, isShift, Bool.false_eq_true, if_false, if_true, binI]
theorem v_bor (k : IntKind) (a b : Int) : binV .or (.d (.lit (.int k a))) (.d (.lit (.int k b))) = some (vint k (k.wrap (BitVec.ofInt k.bits a ||| BitVec.ofInt k.bits b).toNat)) := by simp only [binV, isShift, Bool.false_eq_true, if_false, if_true, binI]
theorem v_bxor (k : IntKind) (a b : Int) : binV .xor (.d (.lit (.int k a))) (.d (.lit (.int k b))) = some (vint k (k.wrap (BitVec.ofInt k.bits a ^^^ BitVec.ofInt k.bits b).toNat)) := by simp only [binV, isShift, Bool.false_eq_true, if_false, if_true, binI]
theorem v_eql (k : IntKind) (a b : Int) : binV .eql (.d (.lit (.int k a))) (.d (.lit (.int k b))) = some (vbool (decide (a = b))) := by simp [binV, isShift, binI]; rfl
theorem v_neq (k : IntKind) (a b : Int) : binV .neq (.d (.lit (.int k a))) (.d (.lit (.int k b))) = some (vbool (!decide (a = b))) := by simp [binV, isShift, binI]; rfl
theorem v_lss (k : IntKind) (a b : Int) : binV .lss (.d (.lit (.int k a))) (.d (.lit (.int k b))) = some (vbool (decide (a < b))) := by simp [binV, isShift, binI]
theorem v_leq (k : IntKind) (a b : Int) : binV .leq (.d (.lit (.int k a))) (.d (.lit (.int k b))) = some (vbool (decide (a ≤ b))) := by simp [binV, isShift, binI]
theorem v_gtr (k : IntKind) (a b : Int) : binV .gtr (.d (.lit (.int k a))) (.d (.lit (.int k b))) = some (vbool (decide (b < a))) := by simp [binV, isShift, binI]
theorem v_geq (k : IntKind) (a b : Int) : binV .geq (.d (.lit (.int k a))) (.d (.lit (.int k b))) = some (vbool (decide (b ≤ a))) := by simp [binV, isShift, binI]
theorem v_shl (k k' : IntKind) (a b : Int) : binV .shl (.d (.lit (.int k a))) (.d (.lit (.int k' b))) = if b < 0 then none else some (vint k (k.wrap (a * 2 ^ (min b.toNat k.bits)))) := by simp [binV, isShift, binSh]
theorem v_shr (k k' : IntKind) (a b : Int) : binV .shr (.d (.lit (.int k a))) (.d (.lit (.int k' b))) = if b < 0 then none else some (vint k (a.fdiv (2 ^ (min b.toNat k.bits)))) := by simp [binV, isShift, binSh]
theorem bytes_eq (a b : ByteArray) : (a.toList == b.toList) = decide (a = b) := by
  rw [ByteArray.toList_eq, ByteArray.toList_eq, Bool.eq_iff_iff]
  simp only [beq_iff_eq, decide_eq_true_eq]
  constructor
  · intro h
    cases a; cases b
    simp only [ByteArray.mk.injEq]
    exact Array.toList_inj.1 h
  · intro h; rw [h]
theorem v_seql (a b : ByteArray) : binV .eql (.d (.lit (.string a))) (.d (.lit (.string b))) = some (vbool (decide (a = b))) := by simp only [binV, binS, bytes_eq]
theorem v_sneq (a b : ByteArray) : binV .neq (.d (.lit (.string a))) (.d (.lit (.string b))) = some (vbool (!decide (a = b))) := by simp only [binV, binS, bytes_eq]
theorem v_sadd (a b : ByteArray) : binV .add (.d (.lit (.string a))) (.d (.lit (.string b))) = if a.size + b.size ≤ 9223372036854775807 then some (vstr (a ++ b)) else none := rfl
theorem v_slss (a b : ByteArray) : binV .lss (.d (.lit (.string a))) (.d (.lit (.string b))) = some (vbool (Op.bytesLess a.toList b.toList)) := rfl
theorem v_eqa (neq : Bool) (ks : List Kd) (a b : List V) : eqaV neq ks (.agg a) (.agg b) = (eqLits ks a b).map fun r => vbool (bif neq then !r else r) := by
  unfold eqaV; simp only; cases eqLits ks a b <;> rfl
theorem q_nil : eqLits [] [] [] = some true := rfl
theorem q_int (k : IntKind) (ks : List Kd) (a b : Int) (r s : List V) : eqLits (.i k :: ks) (.d (.lit (.int k a)) :: r) (.d (.lit (.int k b)) :: s) = (eqLits ks r s).map fun z => decide (a = b) && z := by
  simp only [eqLits, eqLit, and_self, if_true]; cases eqLits ks r s <;> rfl
theorem q_str (ks : List Kd) (a b : ByteArray) (r s : List V) : eqLits (.s :: ks) (.d (.lit (.string a)) :: r) (.d (.lit (.string b)) :: s) = (eqLits ks r s).map fun z => decide (a = b) && z := by
  simp only [eqLits, eqLit]; cases eqLits ks r s <;> rfl
theorem q_bool (ks : List Kd) (a b : Bool) (r s : List V) : eqLits (.b :: ks) (.d (.lit (.bool a)) :: r) (.d (.lit (.bool b)) :: s) = (eqLits ks r s).map fun z => (a == b) && z := by
  simp only [eqLits, eqLit]; cases eqLits ks r s <;> rfl
theorem v_nif_nil (neq : Bool) : nifV neq (.d (.lit .nilIface)) = some (vbool (!neq)) := rfl
theorem v_nif_if (neq : Bool) (t : TypeId) (x : V) : nifV neq (.iface t x) = some (vbool neq) := rfl
theorem v_beql (a b : Bool) : binbV .eql (.d (.lit (.bool a))) (.d (.lit (.bool b))) = some (vbool (a == b)) := rfl
theorem v_bneq (a b : Bool) : binbV .neq (.d (.lit (.bool a))) (.d (.lit (.bool b))) = some (vbool (!(a == b))) := rfl
theorem v_not (b : Bool) : unV .not (.d (.lit (.bool b))) = some (vbool (!b)) := rfl
theorem v_neg (k : IntKind) (n : Int) : unV .neg (.d (.lit (.int k n))) = some (vint k (k.wrap (0 - n))) := rfl
theorem v_pick (c a b : Bool) : pickV (.d (.lit (.bool c))) (.d (.lit (.bool a))) (.d (.lit (.bool b))) = some (vbool (bif c then a else b)) := rfl
theorem v_pick_uf (b : Bool) : pickV (.d (.lit (.bool false))) (.tup []) (.d (.lit (.bool b))) = some (vbool b) := rfl
theorem v_pick_tu (a : Bool) : pickV (.d (.lit (.bool true))) (.d (.lit (.bool a))) (.tup []) = some (vbool a) := rfl
theorem v_pick_jf (b : Bool) : pickV (.d (.lit (.bool false))) .junk (.d (.lit (.bool b))) = some (vbool b) := rfl
theorem v_pick_tj (a : Bool) : pickV (.d (.lit (.bool true))) (.d (.lit (.bool a))) .junk = some (vbool a) := rfl
theorem v_fa_ptr (off i o : Nat) : faV off (.ptr i o) = some (.ptr i (o + off)) := rfl
theorem v_fa_row (off : Nat) (cs : List D) (o : Nat) : faV off (.row cs o) = some (.row cs (o + off)) := rfl
def iaK (k : Nat) (o : Option (List D)) : Option V := match o with | some r => if r.length = k then some (.row r 0) else none | none => none
theorem iaK_some (k : Nat) (r : List D) : iaK k (some r) = if r.length = k then some (.row r 0) else none := rfl
theorem v_ia_nat (k : Nat) (y : D) (kd : IntKind) (j : Nat) : iaV k (.d y) (.d (.lit (.int kd (j : Int)))) = (rowsV (.d y)).bind fun rows => iaK k rows[j]? := by
  unfold iaV
  cases h : rowsV (.d y) with
  | none => simp only [h]; rfl
  | some rows => simp only [h, Option.bind_some, Int.toNat_natCast]; rw [if_pos (by omega)]; rfl
theorem v_ia_own (k T k' : Nat) (rows : List (List D)) (kd : IntKind) (j : Nat) : iaV k (.own T k' rows) (.d (.lit (.int kd (j : Int)))) = iaK k rows[j]? := by
  unfold iaV
  simp only [rowsV, Int.toNat_natCast]; rw [if_pos (by omega)]; rfl
theorem v_ia_bsl (k b off n : Nat) (kd : IntKind) (j : Nat) : iaV k (.bsl b off n k) (.d (.lit (.int kd (j : Int)))) = if j < n then some (.ptr b (off + j * k)) else none := by
  unfold iaV
  simp only [Int.toNat_natCast, and_true]
  by_cases h : j < n
  · rw [if_pos h, if_pos (by omega)]
  · rw [if_neg h, if_neg (by omega)]
theorem v_len_bsl (b off n k : Nat) : lenV false (.bsl b off n k) = some (vint .i64 n) := rfl
theorem v_aa (k n : Nat) (x : V) (kd : IntKind) (j : Int) : aaV k n x (.d (.lit (.int kd j))) = if 0 ≤ j ∧ j < n then faV (j.toNat * k) x else none := rfl
def ixK (o : Option UInt8) : Option V := match o with | some b => some (vint .u8 b.toNat) | none => none
theorem ixK_some (b : UInt8) : ixK (some b) = some (vint .u8 b.toNat) := rfl
theorem v_ix_nat (s : ByteArray) (kd : IntKind) (j : Nat) : ixV (.d (.lit (.string s))) (.d (.lit (.int kd (j : Int)))) = ixK s.data.toList[j]? := by
  simp only [ixV, Int.toNat_natCast]; rw [if_pos (by omega)]; rfl
theorem v_fld (off k : Nat) (ag : Bool) (cs : List V) : fldV off k ag (.agg cs) = if off + k ≤ cs.length then packV ag ((cs.drop off).take k) else none := rfl
theorem v_pack1 (c : V) : packV false [c] = some c.copy := rfl
theorem v_packA (cs : List V) : packV true cs = some (.agg (cs.map V.copy)) := rfl
theorem v_ext (cs : List V) (i : Nat) : extV (.tup cs) i = (cs[i]?).map V.copy := by simp only [extV]; cases cs[i]? <;> rfl
theorem v_conv (k k' : IntKind) (n : Int) : convV k (.d (.lit (.int k' n))) = some (vint k (k.wrap n)) := rfl
theorem v_cstr (s : ByteArray) : cstrV (.d (.lit (.string s))) = some (vstr s) := rfl
theorem v_nilck_ptr (i o : Nat) : nilckV (.ptr i o) = some (.ptr i o) := rfl
theorem v_nilck_row (cs : List D) (o : Nat) : nilckV (.row cs o) = some (.row cs o) := rfl
theorem v_nilck_fn (f : FuncId) (cs : List V) : nilckV (.fn f cs) = some (.fn f cs) := rfl
theorem v_mx (g : Bool) (k : IntKind) (a b : Int) : mxV g (.d (.lit (.int k a))) (.d (.lit (.int k b))) = some (vint k (if g then max a b else min a b)) := by
  have h1 : (if b > a then b else a) = max a b := by rw [Int.max_def]; split <;> split <;> omega
  have h2 : (if b < a then b else a) = min a b := by rw [Int.min_def]; split <;> split <;> omega
  cases g
  · simp only [mxV, if_true, Bool.false_eq_true, if_false, h2]
  · simp only [mxV, if_true, h1]
theorem v_tas_if (T t : TypeId) (z u : V) : tasV T z (.iface t u) = if t = T then some (.tup [u, vbool true]) else some (.tup [z, vbool false]) := rfl
theorem v_clip (rows : List (List D)) (k1 k2 : IntKind) (a b : Int) : clipV (.d (.sl rows)) (.d (.lit (.int k1 a))) (.d (.lit (.int k2 b))) = if a = rows.length ∧ b = rows.length then some (.d (.sl rows)) else none := rfl
theorem v_tas_nil (T : TypeId) (z : V) : tasV T z (.d (.lit .nilIface)) = some (.tup [z, vbool false]) := rfl
theorem v_mki_d (t : TypeId) (x : D) : mkiV t (.d x) = some (.iface t (.d x)) := rfl
theorem v_mki_agg (t : TypeId) (cs : List V) : mkiV t (.agg cs) = some (.iface t (.agg (cs.map V.copy))) := rfl
theorem v_load_row (k : Nat) (ag : Bool) (cs : List D) (o : Nat) : loadV σ k ag (.row cs o) = (if o + k ≤ cs.length then some (((cs.drop o).take k).map V.d) else none).bind (packV ag) := rfl
def ldK (k : Nat) (ag : Bool) (o : Nat) (b : Option (List V)) : Option V := match b with | some cs => if o + k ≤ cs.length ∧ noMap cs = true then packV ag ((cs.drop o).take k) else none | none => none
theorem ldK_some (k : Nat) (ag : Bool) (o : Nat) (cs : List V) : ldK k ag o (some cs) = if o + k ≤ cs.length ∧ noMap cs = true then packV ag ((cs.drop o).take k) else none := rfl
theorem v_load_ptr (k : Nat) (ag : Bool) (i o : Nat) : loadV σ k ag (.ptr i o) = ldK k ag o σ[i]? := by
  unfold loadV cellsV ldK
  simp only
  cases σ[i]? with
  | none => rfl
  | some cs => simp only; split <;> rfl
theorem box_at (l : List (List V)) (j : Nat) : (σ ++ l)[σ.length + j]? = l[j]? := by rw [List.getElem?_append_right (by omega)]; congr 1; omega
theorem box_at0 (l : List (List V)) : (σ ++ l)[σ.length]? = l[0]? := box_at l 0
theorem box_old {i : Nat} {cs : List V} (h : σ[i]? = some cs) (l : List (List V)) : (σ ++ l)[i]? = some cs := by rw [List.getElem?_append_left (List.getElem?_eq_some_iff.1 h).1]; exact h
theorem set_at (l : List (List V)) (j : Nat) (x : List V) : (σ ++ l).set (σ.length + j) x = σ ++ l.set j x := by rw [List.set_append_right _ _ (by omega)]; congr 2; omega
theorem set_at0 (l : List (List V)) (x : List V) : (σ ++ l).set σ.length x = σ ++ l.set 0 x := set_at l 0 x
theorem set_old {i : Nat} {cs : List V} (h : σ[i]? = some cs) (l : List (List V)) (x : List V) : (σ ++ l).set i x = σ.set i x ++ l := by rw [List.set_append_left _ _ (List.getElem?_eq_some_iff.1 h).1]
theorem wrap_i64 {a : Int} (h1 : -9223372036854775808 ≤ a) (h2 : a ≤ 9223372036854775807) : IntKind.i64.wrap a = a := by
  simp [IntKind.wrap, IntKind.bits, IntKind.signed]
  split <;> omega
end
theorem wrap_nat {j n : Nat} (h : j < n) (hn : n ≤ 9223372036854775807) : IntKind.i64.wrap ((j : Int) + 1) = ((j + 1 : Nat) : Int) := by
  rw [wrap_i64 (by omega) (by omega)]; rfl
set_option linter.defProp false in
def aw := And.intro (And.intro @w_drawv (And.intro @vv_cons (And.intro @vv_nil (And.intro @rev_nil @rev_cons)))) (And.intro (And.intro @empT_d (And.intro @empT_bsl (And.intro @empT_bsc (And.intro @avT_nil (And.intro @t_mkv (And.intro @ones_nil (And.intro @ones_bsl (And.intro @ones_d (And.intro @t_appv (And.intro @v_len_bsc (And.intro @v_ia_bsc (And.intro @cp_bsc (And.intro @bslT_bsc (And.intro @g_mst @noMap_bsc)))))))))))))) (And.intro (And.intro @t_mlk (And.intro @c_mlk (And.intro @t_mln (And.intro @c_mln (And.intro @t_mmk (And.intro @t_mst (And.intro @t_mdl (And.intro @t_clr (And.intro @t_cpy (And.intro @kvT_some (And.intro @bslT_bsl (And.intro @v_mlk (And.intro @mlkK_some (And.intro @mapV_some (And.intro @v_key_i (And.intro @v_key_s (And.intro @mapAt_mp (And.intro @setMp_mp (And.intro @v_mln (And.intro @mlnK_some (And.intro @mres_f (And.intro @mres_fn (And.intro @mres_t (And.intro @mres_tn (And.intro @cp_d (And.intro @cp_bsl (And.intro @cp_own (And.intro @cp_nil (And.intro @cp_agg (And.intro @cp_mp (And.intro @srcK_some (And.intro @v_src_bsl (And.intro @v_src_d (And.intro @g_cpy (And.intro @noMap_two (And.intro @noMap_d (And.intro @noMap_own (And.intro @noMap_vnil (And.intro @noMap_agg (And.intro @noMap_ptr (And.intro @noMap_bsl (And.intro @noMap_fn (And.intro @noMap_iface (And.intro @noMap_mp (And.intro @noMap_junk (And.intro @noMap_map (And.intro @noMap_rep @noMap_mid))))))))))))))))))))))))))))))))))))))))))))))) (And.intro (And.intro (And.intro (And.intro (And.intro (And.intro (And.intro (And.intro @a_mv @a_pick) (And.intro @a_bin @a_binb)) (And.intro (And.intro @a_un @a_conv) (And.intro @a_cstr (And.intro @a_cbs @a_nilck)))) (And.intro (And.intro (And.intro @a_fa @a_ia) (And.intro @a_aa (And.intro @a_ix @a_fld))) (And.intro (And.intro @a_len @a_ext) (And.intro @a_bld (And.intro @a_sub @a_mkfn))))) (And.intro (And.intro (And.intro (And.intro @a_mki @a_mx) (And.intro @a_load (And.intro @a_call @a_mks))) (And.intro (And.intro @a_ldo @a_app) (And.intro @a_stoo (And.intro @a_nil @w_drawa)))) (And.intro (And.intro (And.intro @w_drawn @s_mv) (And.intro @s_pick (And.intro @s_bin @s_binb))) (And.intro (And.intro @s_eqa @s_nif) (And.intro @s_un (And.intro @s_conv @s_cstr)))))) (And.intro (And.intro (And.intro (And.intro (And.intro @s_cbs @s_nilck) (And.intro @s_fa (And.intro @s_ia @s_aa))) (And.intro (And.intro @s_ix @s_fld) (And.intro @s_len (And.intro @s_ext @s_load)))) (And.intro (And.intro (And.intro @s_bld @s_sub) (And.intro @s_mkfn (And.intro @s_mki @s_mx))) (And.intro (And.intro @s_call @s_callv) (And.intro @s_mks (And.intro @s_sto @s_nil))))) (And.intro (And.intro (And.intro (And.intro (And.intro (And.intro (And.intro (And.intro @w_draws (And.intro @w_drawb @w_drawx)) (And.intro @g_nil (And.intro @g_free @g_calm))) (And.intro (And.intro @g_slot (And.intro @g_call @g_callv)) (And.intro (And.intro @g_sto @g_stoo) (And.intro @g_ldo @g_new)))) (And.intro (And.intro (And.intro @g_box (And.intro @g_mkb @gnx_normal)) (And.intro (And.intro @w_drawg @re_nil) (And.intro @re_cons @back_zero))) (And.intro (And.intro @back_succ (And.intro @push_if @p_nil)) (And.intro (And.intro @p_free @p_calm) (And.intro @p_slot (And.intro @p_act (And.intro (And.intro (And.intro @t_tas @t_clip) (And.intro @v_clip @c_tas)) (And.intro @v_tas_if @v_tas_nil)))))))) @b_mv) (And.intro @b_pick (And.intro @b_bin @b_binb))) (And.intro (And.intro @b_un @b_conv) (And.intro @b_cstr (And.intro @b_cbs @b_nilck)))) (And.intro (And.intro (And.intro @b_fa @b_ia) (And.intro @b_aa (And.intro @b_ix @b_fld))) (And.intro (And.intro @b_len @b_ext) (And.intro @b_bld (And.intro @b_sub @b_mkfn))))))) (And.intro (And.intro (And.intro (And.intro (And.intro (And.intro @b_mki @b_mx) (And.intro @b_load @b_call)) (And.intro (And.intro @b_mks @b_new) (And.intro @b_sto (And.intro @b_nil @ev_t)))) (And.intro (And.intro (And.intro @ev_k @get_cons) (And.intro @get_nil (And.intro @put_cons @put_nil))) (And.intro (And.intro @putd_some @putd_none) (And.intro @keepOnly_nil (And.intro @keepOnly_cons @optT_some))))) (And.intro (And.intro (And.intro (And.intro @fnT_fn @ptrT_ptr) (And.intro @ownT_own (And.intro @ifT_iface @bxT_some))) (And.intro (And.intro @rwT_some @boolT_bool) (And.intro @iteT_true (And.intro @iteT_false @onT_true)))) (And.intro (And.intro (And.intro @t_mv @c_mv) (And.intro @t_pick (And.intro @c_pick @t_bin))) (And.intro (And.intro @c_bin @t_binb) (And.intro @c_binb (And.intro @t_eqa @c_eqa)))))) (And.intro (And.intro (And.intro (And.intro (And.intro @t_nif @c_nif) (And.intro @a_eqa (And.intro @a_nif @b_eqa))) (And.intro (And.intro @b_nif @v_eqa) (And.intro @q_nil (And.intro @q_int @q_str)))) (And.intro (And.intro (And.intro @q_bool @v_nif_nil) (And.intro @v_nif_if (And.intro @t_un @c_un))) (And.intro (And.intro @t_conv @c_conv) (And.intro @t_cstr (And.intro @c_cstr @t_cbs))))) (And.intro (And.intro (And.intro (And.intro @c_cbs @t_nilck) (And.intro @c_nilck (And.intro @t_fa @c_fa))) (And.intro (And.intro @t_ia @c_ia) (And.intro @t_aa (And.intro @c_aa @t_ix)))) (And.intro (And.intro (And.intro @c_ix @t_fld) (And.intro @c_fld (And.intro @t_len @c_len))) (And.intro (And.intro @t_ext @c_ext) (And.intro @t_load (And.intro @c_load @t_bld)))))))) (And.intro (And.intro (And.intro (And.intro (And.intro (And.intro (And.intro @c_bld @t_sub) (And.intro @c_sub @t_mkfn)) (And.intro (And.intro @c_mkfn @t_mki) (And.intro @c_mki (And.intro @t_mx @c_mx)))) (And.intro (And.intro (And.intro (And.intro @t_call (And.intro @t_calln @t_callm)) @t_callv) (And.intro @t_new (And.intro @t_box @t_sto))) (And.intro (And.intro @t_stoo @t_ldo) (And.intro @t_mvo (And.intro @t_nilo @t_app))))) (And.intro (And.intro (And.intro (And.intro @t_mks @t_mkso) (And.intro @t_mkc (And.intro @intT_int @t_pan))) (And.intro (And.intro @t_guard @t_nil) (And.intro (And.intro @c_call @c_calln) (And.intro @c_callv @c_mks)))) (And.intro (And.intro (And.intro @c_guard @c_nil) (And.intro @w_skip (And.intro @w_ops @w_draw))) (And.intro (And.intro @w_seq @w_cond) (And.intro @w_block (And.intro @w_exit @w_ret)))))) (And.intro (And.intro (And.intro (And.intro (And.intro @then_normal @then_ret) (And.intro @then_exit (And.intro @then_panic @blk_normal))) (And.intro (And.intro @blk_ret @blk_exit) (And.intro @blk_panic (And.intro @v_len_d @v_len_own)))) (And.intro (And.intro (And.intro (And.intro @v_len_nil (And.intro @v_len_bsl (And.intro @v_ia_own (And.intro @v_ia_bsl @t_mkb)))) @v_len_str) (And.intro @v_rows_d (And.intro @v_rows_own @v_rows_nil))) (And.intro (And.intro @v_add @v_sub) (And.intro @v_mul (And.intro @v_quo @v_rem))))) (And.intro (And.intro (And.intro (And.intro @v_band @v_bor) (And.intro @v_bxor (And.intro @v_eql @v_neq))) (And.intro (And.intro @v_lss @v_leq) (And.intro @v_gtr (And.intro @v_geq @v_shl)))) (And.intro (And.intro (And.intro @v_shr @v_seql) (And.intro @v_sneq (And.intro @v_sadd @v_slss))) (And.intro (And.intro @v_beql @v_bneq) (And.intro @v_not (And.intro @v_neg @v_pick))))))) (And.intro (And.intro (And.intro (And.intro (And.intro (And.intro @v_pick_uf @v_pick_tu) (And.intro @boolU_bool @boolU_un)) (And.intro (And.intro @v_pick_jf @v_pick_tj) (And.intro @v_fa_ptr (And.intro @v_fa_row @iaK_some)))) (And.intro (And.intro (And.intro @v_ia_nat @v_aa) (And.intro @ixK_some (And.intro @v_ix_nat @v_fld))) (And.intro (And.intro @v_pack1 @v_packA) (And.intro @v_ext (And.intro @v_conv @v_cstr))))) (And.intro (And.intro (And.intro (And.intro @v_nilck_ptr @v_nilck_row) (And.intro @v_nilck_fn (And.intro @v_mx @v_mki_d))) (And.intro (And.intro @v_mki_agg @v_load_row) (And.intro @ldK_some (And.intro @v_load_ptr @box_at)))) (And.intro (And.intro (And.intro @box_at0 @set_at) (And.intro @set_at0 (And.intro @Option.bind_some.{0,0} @Option.map_some.{0,0}))) (And.intro (And.intro @Option.map_none.{0,0} @List.getElem?_map.{0,0}) (And.intro @List.length_map.{0,0} (And.intro @List.length_append.{0} @List.append_assoc.{0})))))) (And.intro (And.intro (And.intro (And.intro (And.intro @List.cons_append.{0} @List.nil_append.{0}) (And.intro @List.drop_succ_cons.{0} (And.intro @List.drop_zero.{0} @List.take_succ_cons.{0}))) (And.intro (And.intro @List.take_zero.{0} @List.length_cons.{0}) (And.intro @List.length_nil.{0} (And.intro @List.getElem?_cons_zero.{0} @List.getElem?_cons_succ.{0})))) (And.intro (And.intro (And.intro @List.set_cons_zero.{0} @List.set_cons_succ.{0}) (And.intro @Nat.zero_add (And.intro @and_true @true_and))) (And.intro (And.intro @true_implies @not_true_eq_false) (And.intro @not_false_eq_true (And.intro @false_implies @Bool.not_true))))) (And.intro (And.intro (And.intro (And.intro @Bool.not_false @List.contains_cons.{0}) (And.intro @List.contains_nil.{0} (And.intro @List.map_cons.{0,0} @List.map_nil.{0,0}))) (And.intro (And.intro @Bool.or_false @Bool.false_or) (And.intro @Bool.or_true (And.intro @Bool.true_or @Bool.false_eq_true)))) (And.intro (And.intro (And.intro @Bool.true_eq_false @bq_true) (And.intro @bq_false (And.intro @Bool.not_not @decide_not))) (And.intro (And.intro @List.all_cons.{0} @List.all_nil.{0}) (And.intro @Bool.and_true (And.intro @List.getD_cons_zero.{0} @List.getD_cons_succ.{0})))))))))))
end Go.Proofs.Ytinenohgemndiaa
namespace Go.Proofs.Ytinenohgemndiaa
open Go.RowKit
section
variable {C : Cx} {pr : Prot} {n n0 : Nat}
end
end Go.Proofs.Ytinenohgemndiaa
