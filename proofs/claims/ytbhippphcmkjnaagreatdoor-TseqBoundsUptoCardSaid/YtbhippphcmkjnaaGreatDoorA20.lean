/-
  The plain world, all of it: an abstract machine over plain data, and the proof that it is sound.
-/
import Derived.Test.YtbhippphcmkjnaaGreatDoorA13
import Derived.Orders
import Derived.RowKit

/-
  Regions in the text's order; boxes that are dropped. No program is in sight here.
-/
set_option linter.unusedVariables false
set_option linter.unusedSimpArgs false
namespace Go.Proofs.YtbhippphcmkjnaaGreatDoor
open Go.RowKit

/-! ### Boxes that are dropped -/
mutual
/-- The value leads to no box from k on. -/
def V.under (k : Nat) : V → Bool
  | .agg cs => V.unders k cs
  | .tup cs => V.unders k cs
  | .fn _ cs => V.unders k cs
  | .ptr i _ => decide (i < k)
  | .bsl i _ _ _ => decide (i < k)
  | .iface _ v => V.under k v
  | .d _ => true
  | .own _ _ _ => true
  | .nil => true
  | .row _ _ => true
  | .junk => true
def V.unders (k : Nat) : List V → Bool
  | [] => true
  | x :: r => V.under k x && V.unders k r
end
theorem V.unders_get {k : Nat} : ∀ {cs : List V}, V.unders k cs = true → ∀ i (h : i < cs.length), V.under k cs[i] = true
  | x :: r, h, i, hi => by
    simp only [V.unders, Bool.and_eq_true] at h
    cases i with
    | zero => exact h.1
    | succ i => exact V.unders_get h.2 i (by simpa using hi)
theorem V.unders_of {k : Nat} : ∀ {cs : List V}, (∀ i (h : i < cs.length), V.under k cs[i] = true) → V.unders k cs = true
  | [], _ => rfl
  | x :: r, h => by
    simp only [V.unders, Bool.and_eq_true]
    exact ⟨h 0 (by simp), V.unders_of fun i hi => h (i + 1) (by simpa using hi)⟩
theorem Rep.drop {M : Facts} {bm : List Nat} {k : Nat} {x : V} {v : Value} (h : Rep M bm x v) : V.under k x = true → Rep M (bm.take k) x v := by
  induction h with
  | d h => exact fun _ => .d h
  | own h => exact fun _ => .own h
  | nil => exact fun _ => .nil
  | agg hl h h1 ih => exact fun hb => .agg hl (fun i g1 g2 => ih i g1 g2 (V.unders_get (by simpa only [V.under] using hb) i g1)) h1
  | tup hl h ih => exact fun hb => .tup hl (fun i g1 g2 => ih i g1 g2 (V.unders_get (by simpa only [V.under] using hb) i g1))
  | ptr h => exact fun hb => .ptr (by
      simp only [V.under, decide_eq_true_eq] at hb
      rw [List.getElem?_take_of_lt hb]; exact h)
  | row val hf hd => exact fun _ => .row val hf hd
  | bsl h hc hm => exact fun hb => .bsl (by
      simp only [V.under, decide_eq_true_eq] at hb
      rw [List.getElem?_take_of_lt hb]; exact h) hc hm
  | fn hl h ih => exact fun hb => .fn hl (fun i g1 g2 => ih i g1 g2 (V.unders_get (by simpa only [V.under] using hb) i g1))
  | iface h ih => exact fun hb => .iface (ih (by simpa only [V.under] using hb))
  | junk v => exact fun _ => .junk v
theorem Rep.under {M : Facts} {bm : List Nat} {x : V} {v : Value} (h : Rep M bm x v) : V.under bm.length x = true := by
  induction h with
  | d h => rfl
  | own h => rfl
  | nil => rfl
  | agg hl h h1 ih => simp only [V.under]; exact V.unders_of fun i hi => ih i hi (by omega)
  | tup hl h ih => simp only [V.under]; exact V.unders_of fun i hi => ih i hi (by omega)
  | ptr h => simp only [V.under, decide_eq_true_eq]; exact (List.getElem?_eq_some_iff.1 h).1
  | row val hf hd => rfl
  | bsl h hc hm => simp only [V.under, decide_eq_true_eq]; exact (List.getElem?_eq_some_iff.1 h).1
  | fn hl h ih => simp only [V.under]; exact V.unders_of fun i hi => ih i hi (by omega)
  | iface h ih => simpa only [V.under] using ih
  | junk v => rfl
def boxesBelow (k : Nat) (σ : List (List V)) : Bool := σ.all fun cs => V.unders k cs
def slotsBelow (k : Nat) (ρ : Slots) : Bool := ρ.all fun p => V.under k p.2

section
variable {C : Cx} {M : Facts} {bm : List Nat} {tk : Toks} {pr : Nat → Prop} {ρ : Slots} {σ : List (List V)} {n : Nat} {a : Act} {w : World} {K : Slots → List (List V) → Prop} {Q : AEx → Slots → List (List V) → Prop}
theorem Inv.drop (h : Inv M bm σ tk pr w) {k : Nat} (hb : boxesBelow k (σ.take k) = true) : Inv M (bm.take k) (σ.take k) tk pr w := by
  refine ⟨h.facts, by simp [h.len], fun i b cs hi hc => ?_, fun b hb => h.free b (List.mem_of_mem_take hb), h.bmnd.sublist (List.take_sublist _ _), fun i j g hg => ?_, h.inj, h.prlt⟩
  · have hik : i < k := by have := (List.getElem?_eq_some_iff.1 hi).1; simp at this; omega
    have hmem := List.mem_of_getElem? hc
    rw [List.getElem?_take_of_lt hik] at hi hc
    obtain ⟨vs, T, h1, h2, h3⟩ := h.box i b cs hi hc
    have hbl : V.unders k cs = true := List.all_eq_true.1 hb cs hmem
    exact ⟨vs, T, h1, h2, fun j g1 g2 => ⟨⟨(h3 j g1 g2).1.rep.drop (V.unders_get hbl j g1), (h3 j g1 g2).1.own⟩, (h3 j g1 g2).2⟩⟩
  · obtain ⟨t1, t2, t3⟩ := h.tok i j g hg
    exact ⟨t1, fun hm => t2 (List.mem_of_mem_take hm), t3⟩
theorem Inv.under (h : Inv M bm σ tk pr w) : boxesBelow σ.length σ = true := by
  rw [boxesBelow, List.all_eq_true]
  intro cs hcs
  obtain ⟨i, hi, rfl⟩ := List.getElem_of_mem hcs
  obtain ⟨vs, T, h1, h2, h3⟩ := h.box i (bm[i]'(by rw [h.len]; exact hi)) σ[i] (List.getElem?_eq_getElem _) (List.getElem?_eq_getElem _)
  refine V.unders_of fun j hj => ?_
  rw [← h.len]
  exact (h3 j hj (by omega)).1.rep.under
theorem get_below {k : Nat} (h : slotsBelow k ρ = true) (t : Nat) : V.under k (get ρ t) = true := by
  induction ρ with
  | nil => rfl
  | cons p r ih =>
    obtain ⟨s, u⟩ := p
    simp only [slotsBelow, List.all_cons, Bool.and_eq_true] at h
    simp only [get]
    split
    · exact h.1
    · exact ih h.2
theorem SRel.drop (h : SRel M bm tk pr ρ σ n a w) {k : Nat} (h1 : boxesBelow k (σ.take k) = true) (h2 : slotsBelow k ρ = true) : SRel M (bm.take k) tk pr ρ (σ.take k) n a w :=
  ⟨h.inv.drop h1, h.defers, h.size, fun t => ⟨(h.slots t).rep.drop (get_below h2 t), (h.slots t).own⟩⟩
theorem Later.drop {M' : Facts} {bm' : List Nat} {w' : World} (h : Later M bm pr w M' bm' w') {k : Nat} (hk : bm.length ≤ k) : Later M bm pr w M' (bm'.take k) w' := by
  obtain ⟨t, ht⟩ := h.pre
  exact ⟨h.le, ⟨t.take (k - bm.length), by rw [ht, List.take_append, List.take_of_length_le hk]⟩, h.keep, h.facts, h.os, h.tape, h.output, h.size⟩

/-! ### Regions in the text's order -/
theorem Oper.wp_mono2 {P : Program} {o : Oper} {a : Act} {w : World} {K K' : Act → World → Prop} {Q Q' : Exit → Act → World → Prop} (h1 : ∀ a w, K a w → K' a w) (h2 : ∀ e a w, Q e a w → Q' e a w) (hh : o.wp P a w K Q) : o.wp P a w K' Q' := by
  unfold Oper.wp at *
  generalize (execOp a.eval o).run P w = r at *
  cases r with
  | ok n w' =>
    cases n <;> simp only [Oper.upon] at hh ⊢ <;>
      first
        | exact h1 _ _ hh
        | exact Calls.mono hh (fun e w'' he => by
            cases e with
            | returned v => exact h1 _ _ he
            | panicked c => exact h2 _ _ _ he
            | outgrown => obtain ⟨a, w, hq⟩ := he; exact ⟨a, w, h2 _ _ _ hq⟩)
        | exact Rows.mono hh (fun _ _ he => h1 _ _ he)
        | exact hh
  | halt x w' => cases x <;> simp only [Oper.upon] at hh ⊢ <;> first | exact h2 _ _ _ hh | exact hh

theorem yield_sound (h : SRel M bm tk pr ρ σ n a w) {ops : Array Oper} {t j : Nat} {b : Bool} (hg : get ρ t = .d (.lit (.bool b))) (hj : (match ops[j]? with | some q => q.dst == some t | none => false) = true) : yielded ops a.tmps j = some b := by
  split at hj
  · rename_i q hq
    have hq2 : q.dst = some t := by simpa using hj
    have hr := (h.slots t).rep
    rw [hg] at hr
    have hv := hr.bool_inv
    unfold yielded
    rw [hq]
    simp only [Option.bind_some, hq2]
    cases ht : a.tmps[t]? with
    | none =>
      simp only [Array.getD_eq_getD_getElem?, ht, Option.getD_none] at hv
      cases hv
    | some v =>
      simp only [Array.getD_eq_getD_getElem?, ht, Option.getD_some] at hv
      subst hv; rfl
  · cases hj

theorem rep_un {M : Facts} {bm : List Nat} : Rep M bm (.tup []) undef := .tup (vs := []) rfl fun i h => by simp at h
theorem yield_un (h : SRel M bm tk pr ρ σ n a w) {ops : Array Oper} {t j : Nat} (hg : get ρ t = .tup []) (hj : (match ops[j]? with | some q => q.dst == some t | none => false) = true) : yielded ops a.tmps j = none := by
  split at hj
  · rename_i q hq
    have hq2 : q.dst = some t := by simpa using hj
    have hr := (h.slots t).rep
    rw [hg] at hr
    unfold yielded
    rw [hq]
    simp only [Option.bind_some, hq2]
    cases ht : a.tmps[t]? with
    | none => rfl
    | some v =>
      simp only [Array.getD_eq_getD_getElem?, ht, Option.getD_some] at hr
      cases hr with
      | tup _ _ => rfl
  · cases hj

theorem SRel.know (h : SRel M bm tk pr ρ σ n a w) {t : Nat} {b : Bool} (hb : get ρ t = .d (.lit (.bool b))) {c : Bool} (hc : b = c) : SRel M bm tk pr (put ρ t (.d (.lit (.bool c)))) σ n a w :=
  ⟨h.inv, h.defers, h.size, fun s => by
    rw [get_put]
    split
    · rename_i e; subst e; subst hc; rw [← hb]; exact h.slots s
    · exact h.slots s⟩

theorem awpOps_sound {M0 : Facts} {bm0 : List Nat} {w0 : World} (hG : C.glob M0 pr w0) {ops : Array Oper} : ∀ {l : List O} {l' : List Oper} {M : Facts} {bm : List Nat} {tk : Toks} {ρ : Slots} {σ : List (List V)} {a : Act} {w : World},
    okOs C.tab n ops l l' = true → Later M0 bm0 pr w0 M bm w → SRel M bm tk pr ρ σ n a w → awpOps C l ρ σ Q → wpList C.P ops (LiftX M0 bm0 pr w0 n Q) l' a w
  | [], [], M, bm, tk, ρ, σ, a, w, _, hl, h, hq => ⟨M, bm, tk, ρ, σ, _, hq, .normal, h, hl⟩
  | o :: r, o' :: r', M, bm, tk, ρ, σ, a, w, hok, hl, h, hq => by
    simp only [okOs, Bool.and_eq_true] at hok
    obtain ⟨h1, h2⟩ := hok
    have hG' := hG.mono hl
    have step : ∀ {ρ : Slots}, SRel M bm tk pr ρ σ n a w → runO C o.op o.dst ρ σ (fun ρ' σ' => awpOps C r ρ' σ' Q) Q → o'.wp C.P a w (wpList C.P ops (LiftX M0 bm0 pr w0 n Q) r') (LiftX M0 bm0 pr w0 n Q) := fun h hr => by
      refine Oper.wp_mono2 (fun a' w' hL => ?_) (fun e a' w' hL => hL.trans hl) (runO_sound hG' h h1 hr)
      obtain ⟨M', bm', tk', ρ', σ', k1, k2, k3⟩ := hL
      exact awpOps_sound hG h2 (hl.trans k3 (fun _ h => h)) k2 k1
    have hgd : ∀ g, o.g = g → (match g, o'.guard with
        | none, none => true
        | some (t, b), some (j, b') => b == b' && (match ops[j]? with | some q => q.dst == some t | none => false)
        | _, _ => false) = true := fun g hg => by
      subst hg
      unfold okO at h1
      simp only [Bool.and_eq_true] at h1
      exact h1.2
    have hdst : o.dst = o'.dst := by
      unfold okO at h1
      simp only [Bool.and_eq_true, beq_iff_eq] at h1
      exact h1.1.1.2
    have hdn : ∀ d, o'.dst = some d → d < n := by
      unfold okO at h1
      simp only [Bool.and_eq_true] at h1
      intro d hd
      have := h1.1.2
      rw [hd] at this
      simpa using this
    unfold wpList
    simp only [awpOps] at hq
    split at hq
    · rename_i hg
      have := hgd none hg
      split at this
      · rename_i hg2
        rw [if_pos (by simp [Region.wanted, hg2])]
        exact .inl (step h hq)
      · rename_i e _; cases e
      · cases this
    · rename_i t want hg
      have := hgd _ hg
      split at this
      · rename_i e _; cases e
      · rename_i t' b' j b'' e hg2
        cases e
        simp only [Bool.and_eq_true, beq_iff_eq] at this
        obtain ⟨rfl, hj⟩ := this
        split at hq
        · rename_i b hb
          have hy := yield_sound h hb hj
          by_cases hbw : b = want
          · rw [if_pos (by simp [Region.wanted, hg2, hy, hbw])]
            exact .inl (step (h.know hb hbw) (hq.1 hbw))
          · rw [if_neg (by simp [Region.wanted, hg2, hy, hbw])]
            have := hq.2 hbw
            rw [hdst] at this
            exact awpOps_sound hG h2 hl ((h.know hb (c := !want) (by cases b <;> cases want <;> simp_all)).putd hdn rep_un (by simp)) this
        · rename_i hb
          have hy := yield_un h hb hj
          rw [if_neg (by simp [Region.wanted, hg2, hy])]
          rw [hdst] at hq
          exact awpOps_sound hG h2 hl (h.putd hdn rep_un (by simp)) hq
        · exact hq.elim
      · cases this
  | [], _ :: _, _, _, _, _, _, _, _, hok, _, _, _ => by cases hok
  | _ :: _, [], _, _, _, _, _, _, _, hok, _, _, _ => by cases hok
end
end Go.Proofs.YtbhippphcmkjnaaGreatDoor

/-
  Regions that draw their order: where no operation acts on what another one reads, the text's order tells all. No program is in sight here.
-/
set_option linter.unusedVariables false
set_option linter.unusedSimpArgs false
namespace Go.Proofs.YtbhippphcmkjnaaGreatDoor
open Go.RowKit

def X.slots : X → List Nat
  | .t n => [n]
  | _ => []
def OP.slots : OP → List Nat
  | .mv x | .un _ x | .conv _ x | .cstr x | .cbs x | .nilck x | .fa _ x | .fld _ _ _ x | .len _ x | .ext x _ | .load _ _ x | .mki _ x => x.slots
  | .pick c a b => c.slots ++ (a.slots ++ b.slots)
  | .nif _ x => x.slots
  | .eqa _ _ _ x y => x.slots ++ y.slots
  | .bin _ x y | .binb _ x y | .ia _ x y | .aa _ _ x y | .ix x y | .mx _ x y => x.slots ++ y.slots
  | .bld _ ps => ps.flatMap fun p => p.2.2.slots
  | .sub _ _ x lo hi => x.slots ++ (lo.toList ++ hi.toList).flatMap X.slots
  | .mkfn _ cap => cap.flatMap X.slots
  | .mks _ _ xs => xs.flatMap X.slots
  | .call _ args => args.flatMap X.slots
  | .callv x args => x.slots ++ args.flatMap X.slots
  | .calln _ args => args.flatMap X.slots
  | _ => []
/-- An operation that acts on nothing: what it yields. -/
def calmO (C : Cx) (op : OP) (ρ : Slots) (σ : List (List V)) (k : V → Prop) : Prop :=
  match op with
  | .call f args => ∃ v, Fun C f (args.map fun x => (ev C ρ x).lend) σ (fun o σ' => o = .ret v ∧ σ' = σ) ∧ k v
  | .callv x args => match ev C ρ x with
    | .fn f cap => ∃ v, Fun C f ((args.map fun x => (ev C ρ x).lend) ++ cap) σ (fun o σ' => o = .ret v ∧ σ' = σ) ∧ k v
    | _ => False
  | .mks _ kk xs => match rowsOf (xs.map (ev C ρ)) with
    | some rows => rows.all (fun r => r.length == kk) = true ∧ k (.d (.sl rows))
    | none => False
  | .calln f args => ∃ v, Fun C f (args.map fun x => (ev C ρ x).copy) σ (fun o σ' => o = .ret v ∧ σ' = σ) ∧ k v
  | op => match isPure op, pv C op ρ σ with
    | true, some v => k v
    | _, _ => False
def awpCalm (C : Cx) : List O → Slots → List (List V) → (Slots → Prop) → Prop
  | [], ρ, _, K => K ρ
  | o :: r, ρ, σ, K => match o.g with
    | none => calmO C o.op ρ σ fun v => awpCalm C r (putd ρ o.dst v) σ K
    | some (t, want) => match get ρ t with
      | .d (.lit (.bool b)) => (b = want → calmO C o.op (put ρ t (.d (.lit (.bool want)))) σ fun v => awpCalm C r (putd (put ρ t (.d (.lit (.bool want)))) o.dst v) σ K) ∧ (b ≠ want → awpCalm C r (putd (put ρ t (.d (.lit (.bool (!want))))) o.dst (.tup [])) σ K)
      | .tup [] => awpCalm C r (putd ρ o.dst (.tup [])) σ K
      | _ => False

/-! ### Slots after some of the operations -/
def runsS : List (Option Nat × V × Bool) → Slots → Slots
  | [], ρ => ρ
  | (d, x, b) :: r, ρ => runsS r (if b then putd ρ d x else ρ)
theorem get_putd (ρ : Slots) (d : Option Nat) (x : V) (t : Nat) : get (putd ρ d x) t = if d = some t then x else get ρ t := by
  cases d with
  | none => simp [putd]
  | some d => simp only [putd, get_put, Option.some.injEq]; split <;> split <;> first | rfl | omega
theorem get_runsS : ∀ (l : List (Option Nat × V × Bool)) (ρ ρ' : Slots) (t : Nat), get ρ t = get ρ' t → get (runsS l ρ) t = get (runsS l ρ') t
  | [], _, _, _, h => h
  | (d, x, b) :: r, ρ, ρ', t, h => by
    simp only [runsS]
    apply get_runsS r
    cases b
    · exact h
    · simp only [if_true, get_putd]; split
      · rfl
      · exact h
/-- Of the operations only those count that write the slot. -/
theorem runsS_congr : ∀ (l l' : List (Option Nat × V × Bool)) (ρ : Slots) (t : Nat), l.length = l'.length → (∀ i (h : i < l.length) (h' : i < l'.length), l[i].1 = l'[i].1 ∧ l[i].2.1 = l'[i].2.1 ∧ (l[i].1 = some t → l[i].2.2 = l'[i].2.2)) → get (runsS l ρ) t = get (runsS l' ρ) t
  | [], [], _, _, _, _ => rfl
  | (d, x, b) :: r, (d', x', b') :: r', ρ, t, hl, h => by
    simp only [runsS]
    obtain ⟨h1, h2, h3⟩ := h 0 (by simp) (by simp)
    simp only [List.getElem_cons_zero] at h1 h2 h3
    subst h1; subst h2
    have hr := fun ρ => runsS_congr r r' ρ t (by simpa using hl) (fun i g1 g2 => h (i + 1) (by simpa using g1) (by simpa using g2))
    by_cases e : d = some t
    · rw [h3 e]; exact hr _
    · rw [← hr]
      apply get_runsS
      cases b <;> cases b' <;> simp [get_putd, e]
  | [], _ :: _, _, _, hl, _ => by simp at hl
  | _ :: _, [], _, _, hl, _ => by simp at hl
theorem runsS_none : ∀ (l : List (Option Nat × V × Bool)) (ρ : Slots) (t : Nat), (∀ p ∈ l, p.1 = some t → p.2.2 = false) → get (runsS l ρ) t = get ρ t
  | [], _, _, _ => rfl
  | (d, x, b) :: r, ρ, t, h => by
    simp only [runsS]
    rw [runsS_none r _ t (fun p hp => h p (by simp [hp]))]
    cases b
    · rfl
    · simp only [if_true, get_putd]
      split
      · rename_i e; have := h (d, x, true) (by simp) e; cases this
      · rfl
theorem runsS_append : ∀ (l l' : List (Option Nat × V × Bool)) (ρ : Slots), runsS (l ++ l') ρ = runsS l' (runsS l ρ)
  | [], _, _ => rfl
  | (d, x, b) :: r, l', ρ => by simp only [List.cons_append, runsS]; exact runsS_append r l' _
/-- The last writer wins. -/
theorem runsS_last (l : List (Option Nat × V × Bool)) (ρ : Slots) (i : Nat) (h : i < l.length) (t : Nat) (hd : l[i].1 = some t) (hb : l[i].2.2 = true) (hn : ∀ j (hj : j < l.length), i < j → l[j].1 = some t → l[j].2.2 = false) : get (runsS l ρ) t = l[i].2.1 := by
  have e : runsS l ρ = runsS (l.take i ++ (l[i] :: l.drop (i + 1))) ρ := by rw [List.getElem_cons_drop, List.take_append_drop]
  rw [e, runsS_append]
  generalize runsS (l.take i) ρ = ρ1
  generalize hli : l[i] = p at hd hb
  obtain ⟨d, x, b⟩ := p
  simp only at hd hb
  subst hd; subst hb
  simp only [runsS, if_true]
  rw [runsS_none]
  · simp [get_putd]
  · intro p hp hpt
    obtain ⟨j, hj, rfl⟩ := List.getElem_of_mem hp
    simp only [List.getElem_drop] at hpt ⊢
    exact hn (i + 1 + j) (by simp at hj; omega) (by omega) hpt
end Go.Proofs.YtbhippphcmkjnaaGreatDoor

/-
  Regions that draw their order: the theorem. No program is in sight here.
-/
set_option linter.unusedVariables false
set_option linter.unusedSimpArgs false
namespace Go.Proofs.YtbhippphcmkjnaaGreatDoor
open Go.RowKit

def O.looks (o : O) : List Nat := o.op.slots ++ (match o.g with | some (t, _) => [t] | none => [])
def edgesOf (o : Oper) : List Nat := (o.after.toList.filter fun e => Region.binds .any e).map (·.on)
def beforeL : List Oper → List (List Nat) → List (List Nat)
  | [], acc => acc
  | o :: r, acc => beforeL r (acc ++ [edgesOf o ++ (edgesOf o).flatMap fun j => acc.getD j []])
def drawOK (l : List O) (os : List Oper) : Bool :=
  let bf := beforeL os []
  (List.range os.length).all fun i =>
    (match os[i]? with | some o => (edgesOf o).all fun j => decide (j < i) | none => true) &&
    (match l[i]? with
    | some o => (o.looks ++ o.dst.toList).all fun t => (List.range l.length).all fun j => j == i || (match l[j]? with
      | some p => p.dst != some t || (if j < i then (bf.getD i []).contains j else (bf.getD j []).contains i)
      | none => true)
    | none => true)

def steps : List O → List V → Nat → (Nat → Bool) → List (Option Nat × V × Bool)
  | o :: l, x :: xs, k, S => (o.dst, x, S k) :: steps l xs (k + 1) S
  | _, _, _, _ => []
theorem steps_len : ∀ (l : List O) (xs : List V) (k : Nat) (S : Nat → Bool), xs.length = l.length → (steps l xs k S).length = l.length
  | [], [], _, _, _ => rfl
  | o :: l, x :: xs, k, S, h => by simp only [steps, List.length_cons]; rw [steps_len l xs (k + 1) S (by simpa using h)]
  | [], _ :: _, _, _, h => by simp at h
  | _ :: _, [], _, _, h => by simp at h
theorem steps_get : ∀ (l : List O) (xs : List V) (k : Nat) (S : Nat → Bool) (i : Nat) (h : i < (steps l xs k S).length) (h1 : i < l.length) (h2 : i < xs.length), (steps l xs k S)[i] = (l[i].dst, xs[i], S (k + i))
  | o :: l, x :: xs, k, S, 0, h, h1, h2 => rfl
  | o :: l, x :: xs, k, S, i + 1, h, h1, h2 => by
    have := steps_get l xs (k + 1) S i (by simpa [steps] using h) (by simpa using h1) (by simpa using h2)
    simp only [steps, List.getElem_cons_succ]
    rw [this, show k + 1 + i = k + (i + 1) by omega]

def Loc (C : Cx) (o : O) (ρ : Slots) (σ : List (List V)) (x : V) : Prop :=
  match o.g with
  | none => calmO C o.op ρ σ fun v => v = x
  | some (t, want) => match get ρ t with
    | .d (.lit (.bool b)) => (b = want → calmO C o.op ρ σ fun v => v = x) ∧ (b ≠ want → x = .tup [])
    | .tup [] => x = .tup []
    | _ => False

section
variable {C : Cx} {pr : Nat → Prop} {σ : List (List V)} {n : Nat} {Q : AEx → Slots → List (List V) → Prop}
theorem calmO_split {op : OP} {ρ : Slots} {k : V → Prop} (h : calmO C op ρ σ k) : ∃ v, calmO C op ρ σ (fun u => u = v) ∧ k v := by
  unfold calmO at h
  split at h
  · obtain ⟨v, h1, h2⟩ := h
    exact ⟨v, by simp only [calmO]; exact ⟨v, h1, rfl⟩, h2⟩
  · rename_i x args
    split at h
    · rename_i f cap e
      obtain ⟨v, h1, h2⟩ := h
      exact ⟨v, by simp only [calmO, e]; exact ⟨v, h1, rfl⟩, h2⟩
    · exact h.elim
  · split at h
    · rename_i rows e
      obtain ⟨h1, h2⟩ := h
      exact ⟨_, by simp only [calmO, e]; exact ⟨h1, trivial⟩, h2⟩
    · exact h.elim
  · obtain ⟨v, h1, h2⟩ := h
    exact ⟨v, by simp only [calmO]; exact ⟨v, h1, rfl⟩, h2⟩
  · rename_i n1 n2 n3 n4
    split at h
    · rename_i v hp e
      refine ⟨v, ?_, h⟩
      unfold calmO
      split
      · exact absurd rfl (n1 _ _)
      · exact absurd rfl (n2 _ _)
      · exact absurd rfl (n3 _ _ _)
      · exact absurd rfl (n4 _ _)
      · rw [hp, e]
    · exact h.elim

theorem ev_congr {ρ ρ' : Slots} {x : X} (h : ∀ t ∈ x.slots, get ρ t = get ρ' t) : ev C ρ x = ev C ρ' x := by
  cases x with
  | t n => exact h n (by simp [X.slots])
  | k v => rfl
  | g n => rfl
theorem map_congr' {ρ ρ' : Slots} {xs : List X} (h : ∀ t ∈ xs.flatMap X.slots, get ρ t = get ρ' t) : xs.map (ev C ρ) = xs.map (ev C ρ') :=
  List.map_congr_left fun x hx => ev_congr fun t ht => h t (List.mem_flatMap.2 ⟨x, hx, ht⟩)
theorem bld_congr {ρ ρ' : Slots} : ∀ {ps : List (Nat × Nat × X)} {cs : List V}, (∀ t ∈ ps.flatMap (fun p => p.2.2.slots), get ρ t = get ρ' t) → bldV (ev C ρ) cs ps = bldV (ev C ρ') cs ps
  | [], cs, _ => rfl
  | (off, k, x) :: ps, cs, h => by
    have e : ev C ρ x = ev C ρ' x := ev_congr fun t ht => h t (by simp [ht])
    simp only [bldV, e]
    have := fun cs => bld_congr (ps := ps) (cs := cs) (fun t ht => h t (by simp only [List.flatMap_cons, List.mem_append]; exact .inr ht))
    split
    · split <;> first | rfl | exact this _
    · rfl
theorem pv_congr {ρ ρ' : Slots} {op : OP} (h : ∀ t ∈ op.slots, get ρ t = get ρ' t) : pv C op ρ σ = pv C op ρ' σ := by
  have two : ∀ {x y : X}, (∀ t ∈ x.slots ++ y.slots, get ρ t = get ρ' t) → ev C ρ x = ev C ρ' x ∧ ev C ρ y = ev C ρ' y := fun h =>
    ⟨ev_congr fun t ht => h t (by simp [ht]), ev_congr fun t ht => h t (by simp [ht])⟩
  cases op <;> simp only [OP.slots] at h <;> simp only [pv]
  case pick c a b =>
    have e1 : ev C ρ c = ev C ρ' c := ev_congr fun t ht => h t (by simp [ht])
    have e2 : ev C ρ a = ev C ρ' a := ev_congr fun t ht => h t (by simp [ht])
    have e3 : ev C ρ b = ev C ρ' b := ev_congr fun t ht => h t (by simp [ht])
    rw [e1, e2, e3]
  case bin o x y => rw [(two h).1, (two h).2]
  case binb o x y => rw [(two h).1, (two h).2]
  case ia k x y => rw [(two h).1, (two h).2]
  case aa k m x y => rw [(two h).1, (two h).2]
  case ix x y => rw [(two h).1, (two h).2]
  case mx g x y => rw [(two h).1, (two h).2]
  case bld zs ps => rw [bld_congr h]
  case mkfn f cap => rw [map_congr' h]
  case sub s k x lo hi =>
    have e1 : ev C ρ x = ev C ρ' x := ev_congr fun t ht => h t (by simp [ht])
    have e2 : lo.map (ev C ρ) = lo.map (ev C ρ') := by
      cases lo with
      | none => rfl
      | some y => simp only [Option.map_some]; rw [ev_congr fun t ht => h t (by simp [ht])]
    have e3 : hi.map (ev C ρ) = hi.map (ev C ρ') := by
      cases hi with
      | none => rfl
      | some y => simp only [Option.map_some]; rw [ev_congr fun t ht => h t (by simp [ht])]
    rw [e1, e2, e3]
  case eqa neq T ks x y =>
    have e1 : ev C ρ x = ev C ρ' x := ev_congr fun t ht => h t (by simp [ht])
    have e2 : ev C ρ y = ev C ρ' y := ev_congr fun t ht => h t (by simp [ht])
    rw [e1, e2]
  all_goals first
    | rfl
    | rw [ev_congr h]
theorem calmO_congr {ρ ρ' : Slots} {op : OP} {k : V → Prop} (h : ∀ t ∈ op.slots, get ρ t = get ρ' t) (hc : calmO C op ρ σ k) : calmO C op ρ' σ k := by
  unfold calmO at hc
  split at hc
  · rename_i f args
    have e : (args.map fun x => (ev C ρ x).lend) = args.map fun x => (ev C ρ' x).lend := List.map_congr_left fun x hx => by rw [ev_congr fun t ht => h t (List.mem_flatMap.2 ⟨x, hx, ht⟩)]
    rw [e] at hc
    exact hc
  · rename_i x args
    simp only [OP.slots] at h
    have e : (args.map fun x => (ev C ρ x).lend) = args.map fun x => (ev C ρ' x).lend := List.map_congr_left fun x hx => by rw [ev_congr fun t ht => h t (List.mem_append_right _ (List.mem_flatMap.2 ⟨x, hx, ht⟩))]
    have e2 : ev C ρ x = ev C ρ' x := ev_congr fun t ht => h t (by simp [ht])
    rw [e, e2] at hc
    exact hc
  · rename_i T kk xs
    rw [map_congr' (C := C) h] at hc
    exact hc
  · rename_i f args
    have e : (args.map fun x => (ev C ρ x).copy) = args.map fun x => (ev C ρ' x).copy := List.map_congr_left fun x hx => by rw [ev_congr fun t ht => h t (List.mem_flatMap.2 ⟨x, hx, ht⟩)]
    rw [e] at hc
    exact hc
  · rename_i n1 n2 n3 n4
    rw [pv_congr h] at hc
    unfold calmO
    split
    · exact absurd rfl (n1 _ _)
    · exact absurd rfl (n2 _ _)
    · exact absurd rfl (n3 _ _ _)
    · exact absurd rfl (n4 _ _)
    · exact hc
theorem Loc.congr {ρ ρ' : Slots} {o : O} {x : V} (h : ∀ t ∈ o.looks, get ρ t = get ρ' t) (hc : Loc C o ρ σ x) : Loc C o ρ' σ x := by
  unfold O.looks at h
  unfold Loc at hc ⊢
  split at hc
  · rename_i hg
    rw [hg] at h
    exact calmO_congr (fun t ht => h t (by simp [ht])) hc
  · rename_i t want hg
    rw [hg] at h
    have e : get ρ t = get ρ' t := h t (by simp)
    rw [e] at hc
    split at hc
    · rename_i b hb
      exact ⟨fun hw => calmO_congr (fun t ht => h t (by simp [ht])) (hc.1 hw), hc.2⟩
    · exact hc
    · exact hc.elim

theorem calm_ex : ∀ {l : List O} {ρ : Slots} {k : Nat} {K : Slots → Prop}, awpCalm C l ρ σ K →
    ∃ xs : List V, xs.length = l.length ∧ (∃ ρ', K ρ' ∧ ∀ t, get ρ' t = get (runsS (steps l xs k fun _ => true) ρ) t) ∧
      ∀ i (h : i < l.length) (h' : i < xs.length), ∃ ρi, Loc C l[i] ρi σ xs[i] ∧ ∀ t, get ρi t = get (runsS (steps l xs k fun j => decide (j < k + i)) ρ) t
  | [], ρ, k, K, h => ⟨[], rfl, ⟨ρ, h, fun _ => rfl⟩, fun i h => by simp at h⟩
  | o :: r, ρ, k, K, h => by
    have key : ∀ x ρ2, (∀ t, get ρ2 t = get ρ t) → Loc C o ρ σ x → awpCalm C r (putd ρ2 o.dst x) σ K → ∃ xs : List V, xs.length = (o :: r).length ∧ (∃ ρ', K ρ' ∧ ∀ t, get ρ' t = get (runsS (steps (o :: r) xs k fun _ => true) ρ) t) ∧
        ∀ i (h : i < (o :: r).length) (h' : i < xs.length), ∃ ρi, Loc C (o :: r)[i] ρi σ xs[i] ∧ ∀ t, get ρi t = get (runsS (steps (o :: r) xs k fun j => decide (j < k + i)) ρ) t := by
      intro x ρ2 h2e hx hr
      obtain ⟨xs, h1, ⟨ρ', h2, h3⟩, h4⟩ := calm_ex (k := k + 1) hr
      have hput : ∀ t, get (putd ρ2 o.dst x) t = get (putd ρ o.dst x) t := fun t => by rw [get_putd, get_putd, h2e]
      refine ⟨x :: xs, by simp [h1], ⟨ρ', h2, fun t => ?_⟩, fun i hi hi' => ?_⟩
      · simp only [steps, runsS, if_true]; rw [h3 t]; exact get_runsS _ _ _ _ (hput t)
      · cases i with
        | zero =>
          refine ⟨ρ, hx, fun t => ?_⟩
          rw [runsS_none]
          intro p hp _
          obtain ⟨j, hj, rfl⟩ := List.getElem_of_mem hp
          have hl := steps_len (o :: r) (x :: xs) k (fun j => decide (j < k + 0)) (by simp [h1])
          rw [hl] at hj
          rw [steps_get _ _ _ _ _ (by rw [hl]; exact hj) hj (by simp [h1]; simpa using hj)]
          simp
        | succ i =>
          obtain ⟨ρi, g1, g2⟩ := h4 i (by simpa using hi) (by simpa using hi')
          refine ⟨ρi, g1, fun t => ?_⟩
          simp only [steps, runsS]
          rw [if_pos (by simp), g2 t, show k + 1 + i = k + (i + 1) by omega]
          exact get_runsS _ _ _ _ (hput t)
    have know : ∀ {t : Nat} {b c : Bool}, get ρ t = .d (.lit (.bool b)) → b = c → ∀ s, get (put ρ t (.d (.lit (.bool c)))) s = get ρ s := fun hb hc s => by
      rw [get_put]
      split
      · rename_i e; subst e; subst hc; exact hb.symm
      · rfl
    simp only [awpCalm] at h
    split at h
    · rename_i hg
      obtain ⟨v, h1, h2⟩ := calmO_split h
      exact key v ρ (fun _ => rfl) (by unfold Loc; rw [hg]; exact h1) h2
    · rename_i t want hg
      split at h
      · rename_i b hb
        by_cases e : b = want
        · obtain ⟨v, h1, h2⟩ := calmO_split (h.1 e)
          exact key v _ (know hb e) (by unfold Loc; rw [hg]; simp only; rw [hb]; exact ⟨fun _ => calmO_congr (fun s _ => know hb e s) h1, fun ne => absurd e ne⟩) h2
        · exact key (.tup []) _ (know hb (c := !want) (by cases b <;> cases want <;> simp_all)) (by unfold Loc; rw [hg]; simp only; rw [hb]; exact ⟨(fun ee => absurd ee e), (fun _ => by trivial)⟩) (h.2 e)
      · rename_i hb
        exact key (.tup []) ρ (fun _ => rfl) (by unfold Loc; rw [hg]; simp only; rw [hb]; trivial) h
      · exact h.elim
end
end Go.Proofs.YtbhippphcmkjnaaGreatDoor

/-
  Regions that draw their order: the theorem. No program is in sight here.
-/
set_option linter.unusedVariables false
set_option linter.unusedSimpArgs false
namespace Go.Proofs.YtbhippphcmkjnaaGreatDoor
open Go.RowKit

theorem beforeL_pre : ∀ (os : List Oper) (acc : List (List Nat)), (beforeL os acc).length = acc.length + os.length ∧ ∀ i, i < acc.length → (beforeL os acc)[i]? = acc[i]?
  | [], acc => ⟨rfl, fun _ _ => rfl⟩
  | o :: r, acc => by
    obtain ⟨h1, h2⟩ := beforeL_pre r (acc ++ [edgesOf o ++ (edgesOf o).flatMap fun j => acc.getD j []])
    simp only [beforeL]
    refine ⟨by rw [h1]; simp; omega, fun i hi => ?_⟩
    rw [h2 i (by simp; omega), List.getElem?_append_left hi]
theorem beforeL_at (os : List Oper) : ∀ (acc : List (List Nat)) (i : Nat) (o : Oper), os[i]? = some o → ∃ pre : List (List Nat), (beforeL os acc)[acc.length + i]? = some (edgesOf o ++ (edgesOf o).flatMap fun j => pre.getD j []) ∧ ∀ j, j < acc.length + i → pre[j]? = (beforeL os acc)[j]? := by
  induction os with
  | nil => intro acc i o h; simp at h
  | cons o' r ih =>
    intro acc i o h
    simp only [beforeL]
    cases i with
    | zero =>
      simp at h; subst h
      obtain ⟨h1, h2⟩ := beforeL_pre r (acc ++ [edgesOf o' ++ (edgesOf o').flatMap fun j => acc.getD j []])
      refine ⟨acc, ?_, fun j hj => ?_⟩
      · rw [h2 _ (by simp)]
        rw [List.getElem?_append_right (by simp)]
        simp
      · rw [h2 j (by simp; omega), List.getElem?_append_left (by omega)]
    | succ i =>
      obtain ⟨pre, h1, h2⟩ := ih (acc ++ [edgesOf o' ++ (edgesOf o').flatMap fun j => acc.getD j []]) i o (by simpa using h)
      rw [List.length_append, List.length_singleton] at h1 h2
      rw [show acc.length + (i + 1) = acc.length + 1 + i by omega]
      exact ⟨pre, h1, h2⟩
theorem before_closed {os : List Oper} (hlt : ∀ (i : Nat) (o : Oper), os[i]? = some o → ∀ j ∈ edgesOf o, j < i) {S : Nat → Prop} (hcl : ∀ (i : Nat) (o : Oper), os[i]? = some o → S i → ∀ j ∈ edgesOf o, S j) :
    ∀ (i : Nat) (o : Oper), os[i]? = some o → (∀ j ∈ edgesOf o, S j) → ∀ j ∈ (beforeL os []).getD i [], S j := by
  intro i
  induction i using Nat.strongRecOn with
  | _ i ih =>
  intro o ho he j hj
  obtain ⟨pre, h1, h2⟩ := beforeL_at os [] i o ho
  simp only [List.length_nil, Nat.zero_add] at h1 h2
  rw [List.getD_eq_getElem?_getD, h1, Option.getD_some] at hj
  rcases List.mem_append.1 hj with hj | hj
  · exact he j hj
  · obtain ⟨e, g1, g2⟩ := List.mem_flatMap.1 hj
    have hei := hlt i o ho e g1
    rw [List.getD_eq_getElem?_getD, h2 e hei, ← List.getD_eq_getElem?_getD] at g2
    have hlen : e < os.length := by have := (List.getElem?_eq_some_iff.1 ho).1; omega
    exact ih e hei os[e] (List.getElem?_eq_getElem hlen) (hcl e _ (List.getElem?_eq_getElem hlen) (he e g1)) j g2

theorem drawOK_facts {l : List O} {os : List Oper} (hl : l.length = os.length) (h : drawOK l os = true) :
    (∀ (i : Nat) (o : Oper), os[i]? = some o → ∀ j ∈ edgesOf o, j < i) ∧
    ∀ (i : Nat) (o : O), l[i]? = some o → ∀ t ∈ o.looks ++ o.dst.toList, ∀ (j : Nat) (p : O), l[j]? = some p → p.dst = some t → j ≠ i → (j < i ∧ j ∈ (beforeL os []).getD i []) ∨ (i < j ∧ i ∈ (beforeL os []).getD j []) := by
  unfold drawOK at h
  simp only [List.all_eq_true, List.mem_range, Bool.and_eq_true] at h
  refine ⟨fun i o ho j hj => ?_, fun i o ho t ht j p hp hd hne => ?_⟩
  · have := (h i (List.getElem?_eq_some_iff.1 ho).1).1
    rw [ho] at this
    simpa using List.all_eq_true.1 this j hj
  · have h1 := (h i (by rw [← hl]; exact (List.getElem?_eq_some_iff.1 ho).1)).2
    rw [ho] at h1
    simp only [List.all_eq_true, List.mem_range] at h1
    have h2 := h1 t ht j (List.getElem?_eq_some_iff.1 hp).1
    rw [hp] at h2
    simp only [hd, Bool.or_eq_true, beq_iff_eq, bne_self_eq_false, Bool.false_eq_true, false_or] at h2
    rcases h2 with h2 | h2
    · exact absurd h2 hne
    · split at h2
      · exact .inl ⟨by assumption, by simpa using h2⟩
      · exact .inr ⟨by omega, by simpa using h2⟩

theorem okOs_get {tab : Tab} {n : Nat} {ops : Array Oper} : ∀ {l : List O} {os : List Oper}, okOs tab n ops l os = true → l.length = os.length ∧ ∀ (i : Nat) (o : O) (o' : Oper), l[i]? = some o → os[i]? = some o' → okO tab n ops o o' = true
  | [], [], _ => ⟨rfl, fun i o o' h => by simp at h⟩
  | o :: l, o' :: os, h => by
    simp only [okOs, Bool.and_eq_true] at h
    obtain ⟨h1, h2⟩ := okOs_get h.2
    refine ⟨by simp [h1], fun i p p' hp hp' => ?_⟩
    cases i with
    | zero => simp at hp hp'; subst hp; subst hp'; exact h.1
    | succ i => exact h2 i p p' (by simpa using hp) (by simpa using hp')
  | [], _ :: _, h => by cases h
  | _ :: _, [], h => by cases h

section
variable {C : Cx} {pr : Nat → Prop} {ρ : Slots} {σ : List (List V)} {n : Nat} {Q : AEx → Slots → List (List V) → Prop}
theorem SRel.congr {M : Facts} {bm : List Nat} {tk : Toks} {ρ ρ' : Slots} {a : Act} {w : World} (h : SRel M bm tk pr ρ σ n a w) (he : ∀ t, get ρ' t = get ρ t) : SRel M bm tk pr ρ' σ n a w :=
  ⟨h.inv, h.defers, h.size, fun t => by rw [he]; exact h.slots t⟩
theorem calm_run {op : OP} {ρ : Slots} {x : V} {dst : Option Nat} (h : calmO C op ρ σ fun v => v = x) : runO C op dst ρ σ (fun ρ' σ' => ρ' = putd ρ dst x ∧ σ' = σ) (fun _ _ _ => False) := by
  unfold calmO at h
  split at h
  · obtain ⟨v, h1, rfl⟩ := h
    exact h1.mono fun o σ' ⟨e1, e2⟩ => by subst e1; exact ⟨rfl, e2⟩
  · split at h
    · rename_i f cap e
      obtain ⟨v, h1, rfl⟩ := h
      simp only [runO, e]
      exact h1.mono fun o σ' ⟨e1, e2⟩ => by subst e1; exact ⟨rfl, e2⟩
    · exact h.elim
  · split at h
    · rename_i rows e
      obtain ⟨h1, rfl⟩ := h
      simp only [runO, e]
      exact ⟨h1, trivial, trivial⟩
    · exact h.elim
  · obtain ⟨v, h1, rfl⟩ := h
    exact h1.mono fun o σ' ⟨e1, e2⟩ => by subst e1; exact ⟨rfl, e2⟩
  · split at h
    · rename_i v hp e
      subst h
      cases op <;> simp only [isPure] at hp <;> first | (cases hp; done) | skip
      all_goals
        unfold runO
        simp only
        rw [e]
        constructor <;> trivial
    · exact h.elim

theorem set_count : ∀ (l : List Bool) (i : Nat), l[i]? = some false → ((l.set i true).filter (! ·)).length + 1 = (l.filter (! ·)).length
  | b :: l, 0, h => by simp at h; subst h; simp
  | b :: l, i + 1, h => by
    have := set_count l i (by simpa using h)
    cases b <;> simp only [List.set_cons_succ, List.filter_cons] <;> simp <;> omega

theorem draw_sound {M0 : Facts} {bm0 : List Nat} {w0 : World} (hG : C.glob M0 pr w0) {id : Nat} {ops : Array Oper} {l : List O} {M : Facts} {bm : List Nat} {tk : Toks} {a : Act} {w : World} (hok : okOs C.tab n ops l ops.toList = true) (hdr : drawOK l ops.toList = true)
    (hl : Later M0 bm0 pr w0 M bm w) (h : SRel M bm tk pr ρ σ n a w) (hq : awpCalm C l ρ σ fun ρ' => Q .normal ρ' σ) : (Code.region id ops true).wp C.P (LiftX M0 bm0 pr w0 n Q) a w := by
  obtain ⟨hlen, hget⟩ := okOs_get hok
  obtain ⟨hlt, hcmp⟩ := drawOK_facts hlen hdr
  obtain ⟨xs, hxl, ⟨ρf, hρf, hρe⟩, hloc⟩ := calm_ex (k := 0) hq
  have hnl : l.length = ops.size := by rw [hlen]; simp
  refine wp_region_any C.mixed ?_
  have hsteps : ∀ S : Nat → Bool, (steps l xs 0 S).length = l.length := fun S => steps_len l xs 0 S hxl
  have hsg : ∀ (S : Nat → Bool) (i : Nat) (hi : i < (steps l xs 0 S).length) (h1 : i < l.length), (steps l xs 0 S)[i] = (l[i].dst, xs[i]'(by omega), S i) := fun S i hi h1 => by
    have := steps_get l xs 0 S i hi h1 (by omega)
    simpa using this
  suffices H : ∀ (fuel : Nat) (listed : Array Bool) (M : Facts) (tk : Toks) (a : Act) (w : World), Later M0 bm0 pr w0 M bm w → SRel M bm tk pr (runsS (steps l xs 0 fun i => listed.getD i false) ρ) σ n a w → listed.size = l.length →
      (∀ (i : Nat) (o : Oper), ops.toList[i]? = some o → listed.getD i false = true → ∀ j ∈ edgesOf o, listed.getD j false = true) → (listed.toList.filter (! ·)).length = fuel → wpAny C.P .any ops (LiftX M0 bm0 pr w0 n Q) fuel listed a w by
    obtain ⟨h1, h2⟩ := h.ext (Grows.drew w)
    refine H ops.size (Array.replicate ops.size false) M tk a w.drew (hl.trans h2 (fun _ h => h)) (h1.congr fun t => ?_) (by simp [hnl]) (fun i o ho hi => ?_) (by simp)
    · rw [runsS_none]
      intro p hp _
      obtain ⟨j, hj, rfl⟩ := List.getElem_of_mem hp
      rw [hsteps] at hj
      rw [hsg _ j (by rw [hsteps]; exact hj) hj]
      simp [Array.getD_eq_getD_getElem?, Array.getElem?_replicate]
      split <;> rfl
    · simp [Array.getD_eq_getD_getElem?, Array.getElem?_replicate] at hi
      split at hi <;> cases hi
  intro fuel
  induction fuel with
  | zero =>
    intro listed M tk a w hl h hsz hcl hcnt
    have hall : ∀ i, i < l.length → listed.getD i false = true := fun i hi => by
      have hb : listed[i]? = some (listed[i]'(by omega)) := Array.getElem?_eq_getElem _
      rw [Array.getD_eq_getD_getElem?, hb, Option.getD_some]
      have hne : listed.toList.filter (! ·) = [] := List.eq_nil_of_length_eq_zero hcnt
      have := List.filter_eq_nil_iff.1 hne (listed[i]'(by omega)) (by simp)
      simpa using this
    refine ⟨?_, M, bm, tk, ρf, σ, .normal, hρf, .normal, h.congr (fun t => ?_), hl⟩
    · unfold Region.ready
      rw [List.filter_eq_nil_iff]
      intro i hi
      have hi' : i < l.length := by rw [hnl]; simpa using hi
      have h9 := hall i hi'
      have : listed.getD i true = true := by
        have hb : listed[i]? = some (listed[i]'(by omega)) := Array.getElem?_eq_getElem _
        rw [Array.getD_eq_getD_getElem?, hb, Option.getD_some] at h9 ⊢
        exact h9
      simp [this]
    · rw [hρe t]
      refine runsS_congr _ _ ρ t (by rw [hsteps, hsteps]) (fun i g1 g2 => ?_)
      rw [hsteps] at g1
      rw [hsg _ i (by rw [hsteps]; exact g1) g1, hsg _ i (by rw [hsteps]; exact g1) g1]
      exact ⟨rfl, rfl, fun _ => (hall i g1).symm⟩
  | succ fuel ih =>
    intro listed M tk a w hl h hsz hcl hcnt
    refine ⟨fun hnil => ?_, fun i hi => ?_⟩
    · exfalso
      -- the first operation that is not listed is ready
      have hex : ∃ i, i < l.length ∧ listed.getD i false = false := by
        apply Classical.byContradiction
        intro hno
        have hne : listed.toList.filter (! ·) = [] := by
          rw [List.filter_eq_nil_iff]
          intro b hb
          obtain ⟨i, hi, rfl⟩ := List.getElem_of_mem hb
          have hi' : i < listed.size := by simpa using hi
          have h9 : ¬ listed.getD i false = false := fun e => hno ⟨i, by omega, e⟩
          have hb : listed[i]? = some listed[i] := Array.getElem?_eq_getElem hi'
          rw [Array.getD_eq_getD_getElem?, hb, Option.getD_some] at h9
          simpa using h9
        rw [hne] at hcnt
        simp at hcnt
      have hmin : ∃ i, i < l.length ∧ listed.getD i false = false ∧ ∀ j, j < i → listed.getD j false = true := by
        obtain ⟨i, h1, h2⟩ := hex
        induction i using Nat.strongRecOn with
        | _ i ihm =>
        by_cases hj : ∃ j, j < i ∧ listed.getD j false = false
        · obtain ⟨j, g1, g2⟩ := hj; exact ihm j g1 (by omega) g2
        · exact ⟨i, h1, h2, fun j hji => by
            cases hb : listed.getD j false with
            | true => rfl
            | false => exact absurd ⟨j, hji, hb⟩ hj⟩
      obtain ⟨i, h1, h2, h3⟩ := hmin
      have hio : i < ops.toList.length := by rw [← hlen]; exact h1
      have : i ∈ Region.ready .any ops listed := by
        unfold Region.ready
        rw [List.mem_filter]
        refine ⟨by simp; omega, ?_⟩
        have ht : listed.getD i true = false := by
          have hb : listed[i]? = some (listed[i]'(by omega)) := Array.getElem?_eq_getElem _
          rw [Array.getD_eq_getD_getElem?, hb, Option.getD_some] at h2 ⊢
          exact h2
        have ho : ops[i]? = some (ops[i]'(by omega)) := Array.getElem?_eq_getElem _
        rw [ht, ho]
        simp only [Bool.not_false, Bool.true_and, Option.map_some, Option.getD_some]
        rw [← Array.all_toList, List.all_eq_true]
        intro e he
        cases hb : Region.binds .any e with
        | false => rfl
        | true =>
          have : e.on ∈ edgesOf (ops[i]'(by omega)) := by
            unfold edgesOf
            exact List.mem_map.2 ⟨e, List.mem_filter.2 ⟨he, hb⟩, rfl⟩
          simp [h3 e.on (hlt i _ (by rw [List.getElem?_eq_getElem hio]; simp) e.on this)]
      rw [hnil] at this
      cases this
    · unfold Region.ready at hi
      rw [List.mem_filter] at hi
      obtain ⟨hir, hic⟩ := hi
      have hi1 : i < ops.size := by simpa using hir
      have hi2 : i < l.length := by omega
      have ho : ops[i]? = some ops[i] := Array.getElem?_eq_getElem hi1
      have hoL : ops.toList[i]? = some ops[i] := by rw [Array.getElem?_toList]; exact ho
      rw [ho] at hic
      simp only [Option.map_some, Option.getD_some, Bool.and_eq_true, Bool.not_eq_true'] at hic
      obtain ⟨hun, hed⟩ := hic
      have hun' : listed[i]? = some false := by
        have hb : listed[i]? = some (listed[i]'(by omega)) := Array.getElem?_eq_getElem _
        rw [Array.getD_eq_getD_getElem?, hb, Option.getD_some] at hun
        rw [hb, hun]
      have hunf : listed.getD i false = false := by rw [Array.getD_eq_getD_getElem?, hun']; rfl
      have hedge : ∀ j ∈ edgesOf ops[i], listed.getD j false = true := by
        intro j hj
        unfold edgesOf at hj
        obtain ⟨e, he, rfl⟩ := List.mem_map.1 hj
        rw [List.mem_filter] at he
        rw [← Array.all_toList, List.all_eq_true] at hed
        have := hed e he.1
        simpa [he.2] using this
      have hbef := before_closed hlt (S := fun j => listed.getD j false = true) hcl i _ hoL hedge
      -- a listed operation has its own ones listed
      have hlist : ∀ j p, l[j]? = some p → listed.getD j false = true → ∀ q ∈ (beforeL ops.toList []).getD j [], listed.getD q false = true := fun j p hj hjl => by
        have hjo : j < ops.toList.length := by rw [← hlen]; exact (List.getElem?_eq_some_iff.1 hj).1
        exact before_closed hlt (S := fun j => listed.getD j false = true) hcl j _ (List.getElem?_eq_getElem hjo) (hcl j _ (List.getElem?_eq_getElem hjo) hjl)
      have hsame : ∀ t ∈ l[i].looks ++ l[i].dst.toList, ∀ j (hj : j < l.length), j ≠ i → l[j].dst = some t → (listed.getD j false = decide (j < i)) := by
        intro t ht j hj hne hd
        rcases hcmp i l[i] (List.getElem?_eq_getElem hi2) t ht j l[j] (List.getElem?_eq_getElem hj) hd hne with ⟨g1, g2⟩ | ⟨g1, g2⟩
        · rw [hbef j g2]; simp [g1]
        · have : ¬ listed.getD j false = true := fun hjl => by
            have := hlist j l[j] (List.getElem?_eq_getElem hj) hjl i g2
            rw [hunf] at this; cases this
          have e : listed.getD j false = false := by simpa using this
          rw [e]; simp; omega
      obtain ⟨ρi, hL, hρi⟩ := hloc i hi2 (by omega)
      have hgetL : ∀ t ∈ l[i].looks, get ρi t = get (runsS (steps l xs 0 fun i => listed.getD i false) ρ) t := by
        intro t ht
        rw [hρi t]
        refine runsS_congr _ _ ρ t (by rw [hsteps, hsteps]) (fun j g1 g2 => ?_)
        rw [hsteps] at g1
        rw [hsg _ j (by rw [hsteps]; exact g1) g1, hsg _ j (by rw [hsteps]; exact g1) g1]
        refine ⟨rfl, rfl, fun hd => ?_⟩
        simp only [Nat.zero_add]
        by_cases e : j = i
        · subst e; rw [hunf]; simp
        · exact (hsame t (by simp [ht]) j g1 e hd).symm
      have hL2 := hL.congr hgetL
      have hnext : ∀ t, get (runsS (steps l xs 0 fun j => (listed.setIfInBounds i true).getD j false) ρ) t = get (putd (runsS (steps l xs 0 fun j => listed.getD j false) ρ) l[i].dst (xs[i]'(by omega))) t := by
        intro t
        have hset : ∀ j, (listed.setIfInBounds i true).getD j false = if j = i then true else listed.getD j false := fun j => by
          rw [Array.getD_eq_getD_getElem?, Array.getD_eq_getD_getElem?]
          split
          · rename_i e; subst e; rw [Array.getElem?_setIfInBounds_self_of_lt (by omega)]; rfl
          · rename_i e; rw [Array.getElem?_setIfInBounds_ne (Ne.symm e)]
        rw [get_putd]
        split
        · rename_i e
          have := runsS_last (steps l xs 0 fun j => (listed.setIfInBounds i true).getD j false) ρ i (by rw [hsteps]; exact hi2) t (by rw [hsg _ i _ hi2]; exact e) (by rw [hsg _ i _ hi2, hset]; simp) (fun j hj hij hd => by
            rw [hsteps] at hj
            rw [hsg _ j _ hj] at hd ⊢
            simp only at hd ⊢
            rw [hset, if_neg (by omega), hsame t (by simp [e]) j hj (by omega) hd]
            simp; omega)
          rw [this, hsg _ i _ hi2]
        · rename_i e
          refine runsS_congr _ _ ρ t (by rw [hsteps, hsteps]) (fun j g1 g2 => ?_)
          rw [hsteps] at g1
          rw [hsg _ j (by rw [hsteps]; exact g1) g1, hsg _ j (by rw [hsteps]; exact g1) g1]
          refine ⟨rfl, rfl, fun hd => ?_⟩
          simp only at hd ⊢
          rw [hset, if_neg (fun ee => by subst ee; exact e hd)]
      have hnextcl : ∀ (q : Nat) (o : Oper), ops.toList[q]? = some o → (listed.setIfInBounds i true).getD q false = true → ∀ j ∈ edgesOf o, (listed.setIfInBounds i true).getD j false = true := by
        have hset : ∀ j, (listed.setIfInBounds i true).getD j false = if j = i then true else listed.getD j false := fun j => by
          rw [Array.getD_eq_getD_getElem?, Array.getD_eq_getD_getElem?]
          split
          · rename_i e; subst e; rw [Array.getElem?_setIfInBounds_self_of_lt (by omega)]; rfl
          · rename_i e; rw [Array.getElem?_setIfInBounds_ne (Ne.symm e)]
        intro q o hqo hql j hj
        rw [hset] at hql ⊢
        split
        · rfl
        · split at hql
          · rename_i e; subst e
            rw [hoL] at hqo; cases hqo
            exact hedge j hj
          · exact hcl q o hqo hql j hj
      have hnextc : ((listed.setIfInBounds i true).toList.filter (! ·)).length = fuel := by
        have := set_count listed.toList i (by rw [Array.getElem?_toList]; exact hun')
        rw [Array.toList_setIfInBounds]
        omega
      have hoo := hget i l[i] ops[i] (List.getElem?_eq_getElem hi2) hoL
      have hdst : l[i].dst = ops[i].dst := by
        unfold okO at hoo
        simp only [Bool.and_eq_true, beq_iff_eq] at hoo
        exact hoo.1.1.2
      have hdn : ∀ d, ops[i].dst = some d → d < n := by
        unfold okO at hoo
        simp only [Bool.and_eq_true] at hoo
        intro d hd
        have := hoo.1.2
        rw [hd] at this
        simpa using this
      have hgd := hoo
      unfold okO at hgd
      simp only [Bool.and_eq_true] at hgd
      replace hgd := hgd.2
      have exec : calmO C l[i].op (runsS (steps l xs 0 fun i => listed.getD i false) ρ) σ (fun v => v = xs[i]'(by omega)) → (ops[i]).wp C.P a w (wpAny C.P .any ops (LiftX M0 bm0 pr w0 n Q) fuel (listed.setIfInBounds i true)) (LiftX M0 bm0 pr w0 n Q) := fun hc => by
        refine Oper.wp_mono2 (fun a' w' hL => ?_) (fun e a' w' hL => ?_) (runO_sound (hG.mono hl) h hoo (calm_run hc))
        · obtain ⟨M', bm', tk', ρ', σ', ⟨rfl, rfl⟩, k2, k3⟩ := hL
          have hbm : bm' = bm := by
            obtain ⟨t, rfl⟩ := k3.pre
            have e1 := k2.inv.len
            have e2 := h.inv.len
            have : t = [] := List.eq_nil_of_length_eq_zero (by simp at e1; omega)
            simp [this]
          subst hbm
          exact ih _ M' tk' a' w' (hl.trans k3 (fun _ h => h)) (k2.congr hnext) (by simp [hsz]) hnextcl hnextc
        · obtain ⟨_, _, _, _, _, _, hf, _⟩ := hL
          exact hf.elim
      unfold wpOp
      rw [ho]
      simp only
      unfold Loc at hL2
      split at hL2
      · rename_i hg
        rw [hg] at hgd
        split at hgd
        · rename_i hg2
          rw [if_pos (by simp [Region.wanted, hg2])]
          exact .inl (exec hL2)
        · rename_i e _; cases e
        · cases hgd
      · rename_i t want hg
        rw [hg] at hgd
        split at hgd
        · rename_i e _; cases e
        · rename_i t' b' j b'' e hg2
          cases e
          simp only [Bool.and_eq_true, beq_iff_eq] at hgd
          obtain ⟨rfl, hj⟩ := hgd
          split at hL2
          · rename_i b hb
            have hy := yield_sound h hb hj
            by_cases hbw : b = want
            · rw [if_pos (by simp [Region.wanted, hg2, hy, hbw])]
              exact .inl (exec (hL2.1 hbw))
            · rw [if_neg (by simp [Region.wanted, hg2, hy, hbw])]
              have hx := hL2.2 hbw
              refine ih _ M tk _ w hl ((h.putd hdn rep_un (by simp)).congr fun t => ?_) (by simp [hsz]) hnextcl hnextc
              rw [hnext t, hx, hdst]
          · rename_i hb
            have hy := yield_un h hb hj
            rw [if_neg (by simp [Region.wanted, hg2, hy])]
            refine ih _ M tk _ w hl ((h.putd hdn rep_un (by simp)).congr fun t => ?_) (by simp [hsz]) hnextcl hnextc
            rw [hnext t, hL2, hdst]
          · exact hL2.elim
        · cases hgd
end
end Go.Proofs.YtbhippphcmkjnaaGreatDoor

/-
  Regions that draw their order: in general; and such that append to a field. No program is in sight here.
-/
set_option linter.unusedVariables false
set_option linter.unusedSimpArgs false
namespace Go.Proofs.YtbhippphcmkjnaaGreatDoor
open Go.RowKit

section
variable {C : Cx} {pr : Nat → Prop} {n : Nat} {Q : AEx → Slots → List (List V) → Prop}

/-- A region in any order: states that are told of by the set of operations that are done. -/
theorem draw_gen {M0 : Facts} {bm0 : List Nat} {w0 : World} {id : Nat} {ops : Array Oper} {M : Facts} {bm : List Nat} {tk : Toks} {a : Act} {w : World} (St : (Nat → Bool) → Slots) (Sg : (Nat → Bool) → List (List V)) (ρf : Slots) (σf : List (List V))
    (hlt : ∀ (i : Nat) (o : Oper), ops.toList[i]? = some o → ∀ j ∈ edgesOf o, j < i)
    (hext : ∀ S S', (∀ j, j < ops.size → S j = S' j) → (∀ t, get (St S) t = get (St S') t) ∧ Sg S = Sg S')
    (hl : Later M0 bm0 pr w0 M bm w) (h : SRel M bm tk pr (St fun _ => false) (Sg fun _ => false) n a w)
    (hf : (∀ t, get ρf t = get (St fun _ => true) t) ∧ σf = Sg fun _ => true) (hq : Q .normal ρf σf)
    (step : ∀ (S : Nat → Bool) (i : Nat) (o : Oper), ops.toList[i]? = some o → S i = false → (∀ (j : Nat) (p : Oper), ops.toList[j]? = some p → S j = true → ∀ e ∈ edgesOf p, S e = true) → (∀ e ∈ edgesOf o, S e = true) →
      ∀ (M : Facts) (bm : List Nat) (tk : Toks) (a : Act) (w : World), Later M0 bm0 pr w0 M bm w → SRel M bm tk pr (St S) (Sg S) n a w →
        if Region.wanted o (yielded ops a.tmps) then o.wp C.P a w (Lift M bm pr w n fun ρ' σ' => (∀ t, get ρ' t = get (St fun j => j == i || S j) t) ∧ σ' = Sg fun j => j == i || S j) (LiftX M bm pr w n fun _ _ _ => False)
        else SRel M bm tk pr (St fun j => j == i || S j) (Sg fun j => j == i || S j) n (a.put o.dst undef) w) :
    (Code.region id ops true).wp C.P (LiftX M0 bm0 pr w0 n Q) a w := by
  refine wp_region_any C.mixed ?_
  suffices H : ∀ (fuel : Nat) (listed : Array Bool) (M : Facts) (bm : List Nat) (tk : Toks) (a : Act) (w : World), Later M0 bm0 pr w0 M bm w → SRel M bm tk pr (St fun i => listed.getD i false) (Sg fun i => listed.getD i false) n a w → listed.size = ops.size →
      (∀ (i : Nat) (o : Oper), ops.toList[i]? = some o → listed.getD i false = true → ∀ j ∈ edgesOf o, listed.getD j false = true) → (listed.toList.filter (! ·)).length = fuel → wpAny C.P .any ops (LiftX M0 bm0 pr w0 n Q) fuel listed a w by
    obtain ⟨h1, h2⟩ := h.ext (Grows.drew w)
    have hrep : ∀ j, (Array.replicate ops.size false).getD j false = false := fun j => by
      simp only [Array.getD_eq_getD_getElem?, Array.getElem?_replicate]
      split <;> rfl
    obtain ⟨e1, e2⟩ := hext (fun i => (Array.replicate ops.size false).getD i false) (fun _ => false) (fun j _ => hrep j)
    refine H ops.size (Array.replicate ops.size false) M bm tk a w.drew (hl.trans h2 (fun _ h => h)) ?_ (by simp) (fun i o ho hi => ?_) (by simp)
    · rw [e2]; exact h1.congr e1
    · rw [hrep] at hi; cases hi
  intro fuel
  induction fuel with
  | zero =>
    intro listed M bm tk a w hl h hsz hcl hcnt
    have hall : ∀ i, i < ops.size → listed.getD i false = true := fun i hi => by
      have hb : listed[i]? = some (listed[i]'(by omega)) := Array.getElem?_eq_getElem _
      rw [Array.getD_eq_getD_getElem?, hb, Option.getD_some]
      have hne : listed.toList.filter (! ·) = [] := List.eq_nil_of_length_eq_zero hcnt
      have := List.filter_eq_nil_iff.1 hne (listed[i]'(by omega)) (by simp)
      simpa using this
    obtain ⟨e1, e2⟩ := hext (fun i => listed.getD i false) (fun _ => true) hall
    refine ⟨?_, M, bm, tk, ρf, σf, .normal, hq, .normal, ?_, hl⟩
    · unfold Region.ready
      rw [List.filter_eq_nil_iff]
      intro i hi
      have hi' : i < ops.size := by simpa using hi
      have h9 := hall i hi'
      have : listed.getD i true = true := by
        have hb : listed[i]? = some (listed[i]'(by omega)) := Array.getElem?_eq_getElem _
        rw [Array.getD_eq_getD_getElem?, hb, Option.getD_some] at h9 ⊢
        exact h9
      simp [this]
    · rw [hf.2, ← e2]
      exact h.congr fun t => (hf.1 t).trans (e1 t).symm
  | succ fuel ih =>
    intro listed M bm tk a w hl h hsz hcl hcnt
    refine ⟨fun hnil => ?_, fun i hi => ?_⟩
    · exfalso
      have hex : ∃ i, i < ops.size ∧ listed.getD i false = false := by
        apply Classical.byContradiction
        intro hno
        have hne : listed.toList.filter (! ·) = [] := by
          rw [List.filter_eq_nil_iff]
          intro b hb
          obtain ⟨i, hi, rfl⟩ := List.getElem_of_mem hb
          have hi' : i < listed.size := by simpa using hi
          have h9 : ¬ listed.getD i false = false := fun e => hno ⟨i, by omega, e⟩
          have hb : listed[i]? = some listed[i] := Array.getElem?_eq_getElem hi'
          rw [Array.getD_eq_getD_getElem?, hb, Option.getD_some] at h9
          simpa using h9
        rw [hne] at hcnt
        simp at hcnt
      have hmin : ∃ i, i < ops.size ∧ listed.getD i false = false ∧ ∀ j, j < i → listed.getD j false = true := by
        obtain ⟨i, h1, h2⟩ := hex
        induction i using Nat.strongRecOn with
        | _ i ihm =>
        by_cases hj : ∃ j, j < i ∧ listed.getD j false = false
        · obtain ⟨j, g1, g2⟩ := hj; exact ihm j g1 (by omega) g2
        · exact ⟨i, h1, h2, fun j hji => by
            cases hb : listed.getD j false with
            | true => rfl
            | false => exact absurd ⟨j, hji, hb⟩ hj⟩
      obtain ⟨i, h1, h2, h3⟩ := hmin
      have hio : i < ops.toList.length := by simpa using h1
      have : i ∈ Region.ready .any ops listed := by
        unfold Region.ready
        rw [List.mem_filter]
        refine ⟨by simp; omega, ?_⟩
        have ht : listed.getD i true = false := by
          have hb : listed[i]? = some (listed[i]'(by omega)) := Array.getElem?_eq_getElem _
          rw [Array.getD_eq_getD_getElem?, hb, Option.getD_some] at h2 ⊢
          exact h2
        have ho : ops[i]? = some (ops[i]'(by omega)) := Array.getElem?_eq_getElem _
        rw [ht, ho]
        simp only [Bool.not_false, Bool.true_and, Option.map_some, Option.getD_some]
        rw [← Array.all_toList, List.all_eq_true]
        intro e he
        cases hb : Region.binds .any e with
        | false => rfl
        | true =>
          have : e.on ∈ edgesOf (ops[i]'(by omega)) := by
            unfold edgesOf
            exact List.mem_map.2 ⟨e, List.mem_filter.2 ⟨he, hb⟩, rfl⟩
          simp [h3 e.on (hlt i _ (by rw [List.getElem?_eq_getElem hio]; simp) e.on this)]
      rw [hnil] at this
      cases this
    · unfold Region.ready at hi
      rw [List.mem_filter] at hi
      obtain ⟨hir, hic⟩ := hi
      have hi1 : i < ops.size := by simpa using hir
      have ho : ops[i]? = some ops[i] := Array.getElem?_eq_getElem hi1
      have hoL : ops.toList[i]? = some ops[i] := by rw [Array.getElem?_toList]; exact ho
      rw [ho] at hic
      simp only [Option.map_some, Option.getD_some, Bool.and_eq_true, Bool.not_eq_true'] at hic
      obtain ⟨hun, hed⟩ := hic
      have hun' : listed[i]? = some false := by
        have hb : listed[i]? = some (listed[i]'(by omega)) := Array.getElem?_eq_getElem _
        rw [Array.getD_eq_getD_getElem?, hb, Option.getD_some] at hun
        rw [hb, hun]
      have hunf : listed.getD i false = false := by rw [Array.getD_eq_getD_getElem?, hun']; rfl
      have hedge : ∀ j ∈ edgesOf ops[i], listed.getD j false = true := by
        intro j hj
        unfold edgesOf at hj
        obtain ⟨e, he, rfl⟩ := List.mem_map.1 hj
        rw [List.mem_filter] at he
        rw [← Array.all_toList, List.all_eq_true] at hed
        have := hed e he.1
        simpa [he.2] using this
      have hset : ∀ j, (listed.setIfInBounds i true).getD j false = (j == i || listed.getD j false) := fun j => by
        rw [Array.getD_eq_getD_getElem?, Array.getD_eq_getD_getElem?]
        by_cases e : j = i
        · subst e; rw [Array.getElem?_setIfInBounds_self_of_lt (by omega)]; simp
        · rw [Array.getElem?_setIfInBounds_ne (Ne.symm e)]; simp [e]
      have hnextcl : ∀ (q : Nat) (o : Oper), ops.toList[q]? = some o → (listed.setIfInBounds i true).getD q false = true → ∀ j ∈ edgesOf o, (listed.setIfInBounds i true).getD j false = true := by
        intro q o hqo hql j hj
        rw [hset] at hql ⊢
        simp only [Bool.or_eq_true, beq_iff_eq] at hql ⊢
        rcases hql with rfl | hql
        · rw [hoL] at hqo; cases hqo
          exact .inr (hedge j hj)
        · exact .inr (hcl q o hqo hql j hj)
      have hnextc : ((listed.setIfInBounds i true).toList.filter (! ·)).length = fuel := by
        have := set_count listed.toList i (by rw [Array.getElem?_toList]; exact hun')
        rw [Array.toList_setIfInBounds]
        omega
      obtain ⟨e1, e2⟩ := hext (fun j => (listed.setIfInBounds i true).getD j false) (fun j => j == i || listed.getD j false) (fun j _ => hset j)
      have hst := step (fun j => listed.getD j false) i ops[i] hoL hunf hcl hedge M bm tk a w hl h
      unfold wpOp
      rw [ho]
      simp only
      split at hst
      · rename_i hw
        rw [if_pos hw]
        refine .inl (Oper.wp_mono2 (fun a' w' hL => ?_) (fun e a' w' hL => ?_) hst)
        · obtain ⟨M', bm', tk', ρ', σ', ⟨k0, rfl⟩, k2, k3⟩ := hL
          refine ih _ M' bm' tk' a' w' (hl.trans k3 (fun _ h => h)) ?_ (by simp [hsz]) hnextcl hnextc
          rw [e2]
          exact k2.congr fun t => (e1 t).trans (k0 t).symm
        · obtain ⟨_, _, _, _, _, _, hf, _⟩ := hL
          exact hf.elim
      · rename_i hw
        rw [if_neg hw]
        refine ih _ M bm tk _ w hl ?_ (by simp [hsz]) hnextcl hnextc
        rw [e2]
        exact hst.congr e1
end
end Go.Proofs.YtbhippphcmkjnaaGreatDoor

/-
  Regions that draw their order and append to a field: x.f = append(x.f, ..). No program is in sight here.
-/
set_option linter.unusedVariables false
set_option linter.unusedSimpArgs false
namespace Go.Proofs.YtbhippphcmkjnaaGreatDoor
open Go.RowKit

/-- The slots that an operation reads, the three special ones too. -/
def OP.slotsA : OP → List Nat
  | .ldo x => x.slots
  | .app _ _ _ t y => t :: y.slots
  | .stoo x t => x.slots ++ [t]
  | op => op.slots
def OP.special : OP → Bool
  | .ldo _ => true
  | .app _ _ _ _ _ => true
  | .stoo _ _ => true
  | _ => false
def O.looksA (o : O) : List Nat := o.op.slotsA ++ (match o.g with | some (t, _) => [t] | none => [])

/-- A chain of operations, each told of by a law. -/
def chain (L : O → Slots → V → Prop) : List O → Slots → (Slots → Prop) → Prop
  | [], ρ, K => K ρ
  | o :: r, ρ, K => ∃ x ρ2, (∀ t, get ρ2 t = get ρ t) ∧ L o ρ x ∧ chain L r (putd ρ2 o.dst x) K
theorem chain_ex {L : O → Slots → V → Prop} : ∀ {l : List O} {ρ : Slots} {k : Nat} {K : Slots → Prop}, chain L l ρ K →
    ∃ xs : List V, xs.length = l.length ∧ (∃ ρ', K ρ' ∧ ∀ t, get ρ' t = get (runsS (steps l xs k fun _ => true) ρ) t) ∧
      ∀ i (h : i < l.length) (h' : i < xs.length), ∃ ρi, L l[i] ρi xs[i] ∧ ∀ t, get ρi t = get (runsS (steps l xs k fun j => decide (j < k + i)) ρ) t
  | [], ρ, k, K, h => ⟨[], rfl, ⟨ρ, h, fun _ => rfl⟩, fun i h => by simp at h⟩
  | o :: r, ρ, k, K, h => by
    obtain ⟨x, ρ2, h2e, hx, hr⟩ := h
    obtain ⟨xs, h1, ⟨ρ', h2, h3⟩, h4⟩ := chain_ex (k := k + 1) hr
    have hput : ∀ t, get (putd ρ2 o.dst x) t = get (putd ρ o.dst x) t := fun t => by rw [get_putd, get_putd, h2e]
    refine ⟨x :: xs, by simp [h1], ⟨ρ', h2, fun t => ?_⟩, fun i hi hi' => ?_⟩
    · simp only [steps, runsS, if_true]; rw [h3 t]; exact get_runsS _ _ _ _ (hput t)
    · cases i with
      | zero =>
        refine ⟨ρ, hx, fun t => ?_⟩
        rw [runsS_none]
        intro p hp _
        obtain ⟨j, hj, rfl⟩ := List.getElem_of_mem hp
        have hl := steps_len (o :: r) (x :: xs) k (fun j => decide (j < k + 0)) (by simp [h1])
        rw [hl] at hj
        rw [steps_get _ _ _ _ _ (by rw [hl]; exact hj) hj (by simp [h1]; simpa using hj)]
        simp
      | succ i =>
        obtain ⟨ρi, g1, g2⟩ := h4 i (by simpa using hi) (by simpa using hi')
        refine ⟨ρi, g1, fun t => ?_⟩
        simp only [steps, runsS]
        rw [if_pos (by simp), g2 t, show k + 1 + i = k + (i + 1) by omega]
        exact get_runsS _ _ _ _ (hput t)

/-- What such a region appends to: the cell, and what it holds. -/
structure Cell where
  i : Nat
  off : Nat
  T : TypeId
  k : Nat
  rows : List (List D)

section
variable {C : Cx} {pr : Nat → Prop} {ρ : Slots} {n : Nat} {Q : AEx → Slots → List (List V) → Prop}
def LocA (C : Cx) (c : Cell) (rows2 : List (List D)) (σ σ2 : List (List V)) (o : O) (ρ : Slots) (x : V) : Prop :=
  match o.op with
  | .ldo y => o.g = none ∧ ev C ρ y = .ptr c.i c.off ∧ x = .d (.sl c.rows)
  | .app T' k' bytes _ y => o.g = none ∧ rowsV (ev C ρ y) = some rows2 ∧ (c.T = T' ∧ c.k = k' ∧ rows2.all (fun r => r.length == k') = true ∧ (c.rows.length + rows2.length) * bytes ≤ 140737488355328) ∧ x = .d (.sl (c.rows ++ rows2))
  | .stoo y _ => o.g = none ∧ ev C ρ y = .ptr c.i c.off
  | _ => Loc C o ρ σ x ∧ Loc C o ρ σ2 x

def calmO2 (C : Cx) (op : OP) (ρ : Slots) (σ σ2 : List (List V)) (k : V → Prop) : Prop := calmO C op ρ σ fun v => calmO C op ρ σ2 (fun u => u = v) ∧ k v
/-- The region: what its calm operations yield both before and behind the load, and what is appended. -/
def awpA (C : Cx) (c : Cell) (σ σ2 : List (List V)) : List O → Slots → Option (List (List D)) → (Slots → List (List D) → Prop) → Prop
  | [], ρ, acc, K => match acc with | some rows2 => K ρ rows2 | none => False
  | o :: r, ρ, acc, K => match o.op with
    | .ldo y => o.g = none ∧ ev C ρ y = .ptr c.i c.off ∧ awpA C c σ σ2 r (putd ρ o.dst (.d (.sl c.rows))) acc K
    | .app T' k' bytes _ y => o.g = none ∧ match acc, rowsV (ev C ρ y) with
      | none, some rows2 => (c.T = T' ∧ c.k = k' ∧ rows2.all (fun r => r.length == k') = true ∧ (c.rows.length + rows2.length) * bytes ≤ 140737488355328) ∧ awpA C c σ σ2 r (putd ρ o.dst (.d (.sl (c.rows ++ rows2)))) (some rows2) K
      | _, _ => False
    | .stoo y _ => o.g = none ∧ o.dst = none ∧ ev C ρ y = .ptr c.i c.off ∧ awpA C c σ σ2 r ρ acc K
    | op => match o.g with
      | none => calmO2 C op ρ σ σ2 fun v => awpA C c σ σ2 r (putd ρ o.dst v) acc K
      | some (t, want) => match get ρ t with
        | .d (.lit (.bool b)) => (b = want → calmO2 C op (put ρ t (.d (.lit (.bool want)))) σ σ2 fun v => awpA C c σ σ2 r (putd (put ρ t (.d (.lit (.bool want)))) o.dst v) acc K) ∧ (b ≠ want → awpA C c σ σ2 r (putd (put ρ t (.d (.lit (.bool (!want))))) o.dst (.tup [])) acc K)
        | .tup [] => awpA C c σ σ2 r (putd ρ o.dst (.tup [])) acc K
        | _ => False

theorem calmO2_split {op : OP} {ρ : Slots} {σ σ2 : List (List V)} {k : V → Prop} (h : calmO2 C op ρ σ σ2 k) : ∃ v, calmO C op ρ σ (fun u => u = v) ∧ calmO C op ρ σ2 (fun u => u = v) ∧ k v := by
  obtain ⟨v, h1, h2, h3⟩ := calmO_split h
  exact ⟨v, h1, h2, h3⟩
theorem awpA_chain {c : Cell} {σ σ2 : List (List V)} : ∀ {l : List O} {ρ : Slots} {acc : Option (List (List D))} {K : Slots → List (List D) → Prop}, awpA C c σ σ2 l ρ acc K →
    ∃ rows2, (∀ r, acc = some r → r = rows2) ∧ chain (LocA C c rows2 σ σ2) l ρ fun ρ' => K ρ' rows2
  | [], ρ, acc, K, h => by
    cases acc with
    | none => exact h.elim
    | some r => exact ⟨r, fun r' e => by cases e; rfl, h⟩
  | o :: r, ρ, acc, K, h => by
    have know : ∀ {t : Nat} {b c : Bool}, get ρ t = .d (.lit (.bool b)) → b = c → ∀ s, get (put ρ t (.d (.lit (.bool c)))) s = get ρ s := fun hb hc s => by
      rw [get_put]
      split
      · rename_i e; subst e; subst hc; exact hb.symm
      · rfl
    have other : o.op.special = false → (match o.g with
      | none => calmO2 C o.op ρ σ σ2 fun v => awpA C c σ σ2 r (putd ρ o.dst v) acc K
      | some (t, want) => match get ρ t with
        | .d (.lit (.bool b)) => (b = want → calmO2 C o.op (put ρ t (.d (.lit (.bool want)))) σ σ2 fun v => awpA C c σ σ2 r (putd (put ρ t (.d (.lit (.bool want)))) o.dst v) acc K) ∧ (b ≠ want → awpA C c σ σ2 r (putd (put ρ t (.d (.lit (.bool (!want))))) o.dst (.tup [])) acc K)
        | .tup [] => awpA C c σ σ2 r (putd ρ o.dst (.tup [])) acc K
        | _ => False) → ∃ rows2, (∀ r, acc = some r → r = rows2) ∧ chain (LocA C c rows2 σ σ2) (o :: r) ρ fun ρ' => K ρ' rows2 := by
      intro hs h
      have fin : ∀ x ρ2, (∀ t, get ρ2 t = get ρ t) → Loc C o ρ σ x → Loc C o ρ σ2 x → awpA C c σ σ2 r (putd ρ2 o.dst x) acc K → ∃ rows2, (∀ r, acc = some r → r = rows2) ∧ chain (LocA C c rows2 σ σ2) (o :: r) ρ fun ρ' => K ρ' rows2 := by
        intro x ρ2 h1 h2 h3 h4
        obtain ⟨rows2, h5, h6⟩ := awpA_chain h4
        refine ⟨rows2, h5, x, ρ2, h1, ?_, h6⟩
        unfold LocA
        split <;> first | exact ⟨h2, h3⟩ | (rename_i e; rw [e] at hs; cases hs)
      split at h
      · rename_i hg
        obtain ⟨v, h1, h2, h3⟩ := calmO2_split h
        exact fin v ρ (fun _ => rfl) (by unfold Loc; rw [hg]; exact h1) (by unfold Loc; rw [hg]; exact h2) h3
      · rename_i t want hg
        split at h
        · rename_i b hb
          by_cases e : b = want
          · obtain ⟨v, h1, h2, h3⟩ := calmO2_split (h.1 e)
            exact fin v _ (know hb e) (by unfold Loc; rw [hg]; simp only; rw [hb]; exact ⟨fun _ => calmO_congr (fun s _ => know hb e s) h1, fun ne => absurd e ne⟩)
              (by unfold Loc; rw [hg]; simp only; rw [hb]; exact ⟨fun _ => calmO_congr (fun s _ => know hb e s) h2, fun ne => absurd e ne⟩) h3
          · exact fin (.tup []) _ (know hb (c := !want) (by cases b <;> cases want <;> simp_all)) (by unfold Loc; rw [hg]; simp only; rw [hb]; exact ⟨(fun ee => absurd ee e), (fun _ => by trivial)⟩)
              (by unfold Loc; rw [hg]; simp only; rw [hb]; exact ⟨(fun ee => absurd ee e), (fun _ => by trivial)⟩) (h.2 e)
        · rename_i hb
          exact fin (.tup []) ρ (fun _ => rfl) (by unfold Loc; rw [hg]; simp only; rw [hb]; trivial) (by unfold Loc; rw [hg]; simp only; rw [hb]; trivial) h
        · exact h.elim
    unfold awpA at h
    split at h
    · rename_i y ho
      obtain ⟨h1, h2, h3⟩ := h
      obtain ⟨rows2, h5, h6⟩ := awpA_chain h3
      exact ⟨rows2, h5, _, ρ, fun _ => rfl, by unfold LocA; rw [ho]; exact ⟨h1, h2, rfl⟩, h6⟩
    · rename_i T' k' bytes t y ho
      obtain ⟨h1, h2⟩ := h
      split at h2
      · rename_i rows2 he
        obtain ⟨h3, h4⟩ := h2
        obtain ⟨rows3, h5, h6⟩ := awpA_chain h4
        have := h5 _ rfl
        subst this
        exact ⟨rows2, (fun r e => by cases e), _, ρ, fun _ => rfl, by unfold LocA; rw [ho]; exact ⟨h1, he, h3, rfl⟩, h6⟩
      · exact h2.elim
    · rename_i y t ho
      obtain ⟨h1, h2, h3, h4⟩ := h
      obtain ⟨rows2, h5, h6⟩ := awpA_chain h4
      exact ⟨rows2, h5, .junk, ρ, fun _ => rfl, by unfold LocA; rw [ho]; exact ⟨h1, h3⟩, by rw [h2]; exact h6⟩
    · rename_i n1 n2 n3
      refine other ?_ h
      cases ho : o.op <;> first | rfl | exact absurd ho (n1 _) | exact absurd ho (n2 _ _ _ _ _) | exact absurd ho (n3 _ _)

/-! ### What is looked at once and for all -/
structure Pos where
  iL : Nat
  iA : Nat
  iS : Nat
  tL : Nat
  tA : Nat
def idxOf (p : OP → Bool) : List O → Nat → Option Nat
  | [], _ => none
  | o :: r, i => if p o.op then some i else idxOf p r (i + 1)
def posOf (l : List O) : Option Pos :=
  match idxOf (fun op => match op with | .ldo _ => true | _ => false) l 0, idxOf (fun op => match op with | .app _ _ _ _ _ => true | _ => false) l 0, idxOf (fun op => match op with | .stoo _ _ => true | _ => false) l 0 with
  | some a, some b, some c => match (l[a]?).bind O.dst, (l[b]?).bind O.dst with
    | some t, some u => some ⟨a, b, c, t, u⟩
    | _, _ => none
  | _, _, _ => none
def isL (p : Pos) : O → Bool
  | ⟨some t, .ldo _, none⟩ => t == p.tL
  | _ => false
def isA (p : Pos) : O → Bool
  | ⟨some t, .app _ _ _ s y, none⟩ => t == p.tA && (s == p.tL && !y.slots.contains p.tL)
  | _ => false
def isS (p : Pos) : O → Bool
  | ⟨none, .stoo y s, none⟩ => s == p.tA && !y.slots.contains p.tA
  | _ => false
def checkA (p : Pos) (l : List O) (os : List Oper) : Bool :=
  let bf := beforeL os []
  ((List.range os.length).all fun i => match os[i]? with | some o => (edgesOf o).all fun j => decide (j < i) | none => true) &&
  (((List.range l.length).all fun i => match l[i]? with
    | some o => ((o.looksA ++ o.dst.toList).all fun t => (List.range l.length).all fun j => j == i || (match l[j]? with
        | some q => q.dst != some t || (if j < i then (bf.getD i []).contains j else (bf.getD j []).contains i)
        | none => true)) &&
      ((o.op.special == (i == p.iL || i == p.iA || i == p.iS)) && ((i == p.iA || !o.looksA.contains p.tL) && ((i == p.iL || o.dst != some p.tL) && ((i == p.iS || !o.looksA.contains p.tA) && ((i == p.iA || o.dst != some p.tA) && (i == p.iS || (bf.getD p.iS []).contains i))))))
    | none => true) &&
  (((l[p.iL]?).any (isL p) && ((l[p.iA]?).any (isA p) && (l[p.iS]?).any (isS p))) && ((bf.getD p.iA []).contains p.iL && p.tL != p.tA)))
def drawAOK (l : List O) (os : List Oper) : Bool := match posOf l with
  | some p => checkA p l os
  | none => false

structure OKA (p : Pos) (l : List O) (os : List Oper) : Prop where
  lt : ∀ (i : Nat) (o : Oper), os[i]? = some o → ∀ j ∈ edgesOf o, j < i
  cmp : ∀ (i : Nat) (o : O), l[i]? = some o → ∀ t ∈ o.looksA ++ o.dst.toList, ∀ (j : Nat) (q : O), l[j]? = some q → q.dst = some t → j ≠ i → (j < i ∧ j ∈ (beforeL os []).getD i []) ∨ (i < j ∧ i ∈ (beforeL os []).getD j [])
  spec : ∀ (i : Nat) (o : O), l[i]? = some o → (o.op.special = true ↔ i = p.iL ∨ i = p.iA ∨ i = p.iS)
  lookL : ∀ (i : Nat) (o : O), l[i]? = some o → i ≠ p.iA → p.tL ∉ o.looksA
  dstL : ∀ (i : Nat) (o : O), l[i]? = some o → i ≠ p.iL → o.dst ≠ some p.tL
  lookA : ∀ (i : Nat) (o : O), l[i]? = some o → i ≠ p.iS → p.tA ∉ o.looksA
  dstA : ∀ (i : Nat) (o : O), l[i]? = some o → i ≠ p.iA → o.dst ≠ some p.tA
  last : ∀ (i : Nat) (o : O), l[i]? = some o → i ≠ p.iS → i ∈ (beforeL os []).getD p.iS []
  opL : ∃ y, l[p.iL]? = some ⟨some p.tL, .ldo y, none⟩
  opA : ∃ T k b y, l[p.iA]? = some ⟨some p.tA, .app T k b p.tL y, none⟩ ∧ p.tL ∉ y.slots
  opS : ∃ y, l[p.iS]? = some ⟨none, .stoo y p.tA, none⟩ ∧ p.tA ∉ y.slots
  ab : p.iL ∈ (beforeL os []).getD p.iA []
  ne : p.tL ≠ p.tA
theorem checkA_ok {p : Pos} {l : List O} {os : List Oper} (hl : l.length = os.length) (h : checkA p l os = true) : OKA p l os := by
  unfold checkA at h
  simp only [Bool.and_eq_true] at h
  obtain ⟨h1, h2, ⟨h3, h4, h5⟩, h6, h7⟩ := h
  simp only [List.all_eq_true, List.mem_range] at h1 h2
  have one : ∀ (i : Nat) (o : O), l[i]? = some o → _ := fun i o ho => by
    have := h2 i (List.getElem?_eq_some_iff.1 ho).1
    rw [ho] at this
    simp only [Bool.and_eq_true] at this
    exact this
  refine ⟨fun i o ho j hj => ?_, fun i o ho t ht j q hp hd hne => ?_, fun i o ho => ?_, fun i o ho hne => ?_, fun i o ho hne => ?_, fun i o ho hne => ?_, fun i o ho hne => ?_, fun i o ho hne => ?_, ?_, ?_, ?_, by simpa using h6, by simpa using h7⟩
  · have := h1 i (List.getElem?_eq_some_iff.1 ho).1
    rw [ho] at this
    simpa using List.all_eq_true.1 this j hj
  · have h1 := (one i o ho).1
    simp only [List.all_eq_true, List.mem_range] at h1
    have h2 := h1 t ht j (List.getElem?_eq_some_iff.1 hp).1
    rw [hp] at h2
    simp only [hd, Bool.or_eq_true, beq_iff_eq, bne_self_eq_false, Bool.false_eq_true, false_or] at h2
    rcases h2 with h2 | h2
    · exact absurd h2 hne
    · split at h2
      · exact .inl ⟨by assumption, by simpa using h2⟩
      · exact .inr ⟨by omega, by simpa using h2⟩
  · have := (one i o ho).2.1
    rw [beq_iff_eq] at this
    rw [this]
    simp [or_assoc]
  · have := (one i o ho).2.2.1
    simpa [hne] using this
  · have := (one i o ho).2.2.2.1
    simpa [hne] using this
  · have := (one i o ho).2.2.2.2.1
    simpa [hne] using this
  · have := (one i o ho).2.2.2.2.2.1
    simpa [hne] using this
  · have := (one i o ho).2.2.2.2.2.2
    simpa [hne] using this
  · cases ho : l[p.iL]? with
    | none => rw [ho] at h3; cases h3
    | some o =>
    rw [ho] at h3
    have hp : isL p o = true := h3
    clear h3
    unfold isL at hp
    split at hp
    · rw [beq_iff_eq] at hp; subst hp; exact ⟨_, rfl⟩
    · cases hp
  · cases ho : l[p.iA]? with
    | none => rw [ho] at h4; cases h4
    | some o =>
    rw [ho] at h4
    have hp : isA p o = true := h4
    clear h4
    unfold isA at hp
    split at hp
    · simp only [Bool.and_eq_true, beq_iff_eq, Bool.not_eq_true'] at hp
      obtain ⟨rfl, rfl, hp⟩ := hp
      exact ⟨_, _, _, _, rfl, by simpa using hp⟩
    · cases hp
  · cases ho : l[p.iS]? with
    | none => rw [ho] at h5; cases h5
    | some o =>
    rw [ho] at h5
    have hp : isS p o = true := h5
    clear h5
    unfold isS at hp
    split at hp
    · simp only [Bool.and_eq_true, beq_iff_eq, Bool.not_eq_true'] at hp
      obtain ⟨rfl, hp⟩ := hp
      exact ⟨_, rfl, by simpa using hp⟩
    · cases hp

/-! ### The theorem -/
def overlay (p : Pos) (c : Cell) (rows2 : List (List D)) (S : Nat → Bool) (ρ : Slots) : Slots :=
  if S p.iS then ρ else if S p.iA then put ρ p.tA (.own c.T c.k (c.rows ++ rows2)) else if S p.iL then put ρ p.tL (.own c.T c.k c.rows) else ρ
theorem drawa_sound {M0 : Facts} {bm0 : List Nat} {w0 : World} (hG : C.glob M0 pr w0) {id : Nat} {ops : Array Oper} {l : List O} {M : Facts} {bm : List Nat} {tk : Toks} {σ : List (List V)} {a : Act} {w : World} (hok : okOs C.tab n ops l ops.toList = true) (hdr : drawAOK l ops.toList = true)
    (hl : Later M0 bm0 pr w0 M bm w) (h : SRel M bm tk pr ρ σ n a w) {c : Cell} {cs : List V} (hcs : σ[c.i]? = some cs) (hcell : cs[c.off]? = some (.own c.T c.k c.rows))
    (hq : awpA C c σ (σ.set c.i (cs.set c.off (.d (.sl c.rows)))) l ρ none fun ρ' rows2 => Q .normal ρ' ((σ.set c.i (cs.set c.off (.d (.sl c.rows)))).set c.i (over (cs.set c.off (.d (.sl c.rows))) c.off [.own c.T c.k (c.rows ++ rows2)]))) :
    (Code.region id ops true).wp C.P (LiftX M0 bm0 pr w0 n Q) a w := by
  obtain ⟨hlen, hget⟩ := okOs_get hok
  unfold drawAOK at hdr
  split at hdr
  case h_2 => cases hdr
  rename_i p _
  have D := checkA_ok hlen hdr
  obtain ⟨rows2, -, hch⟩ := awpA_chain hq
  obtain ⟨xs, hxl, ⟨ρf, hρf, hρe⟩, hloc⟩ := chain_ex (k := 0) hch
  generalize hσ2 : σ.set c.i (cs.set c.off (.d (.sl c.rows))) = σ2 at *
  generalize hσf : σ2.set c.i (over (cs.set c.off (.d (.sl c.rows))) c.off [.own c.T c.k (c.rows ++ rows2)]) = σf at *
  have hnl : l.length = ops.size := by rw [hlen]; simp
  have hsteps : ∀ S : Nat → Bool, (steps l xs 0 S).length = l.length := fun S => steps_len l xs 0 S hxl
  have hsg : ∀ (S : Nat → Bool) (i : Nat) (hi : i < (steps l xs 0 S).length) (h1 : i < l.length), (steps l xs 0 S)[i] = (l[i].dst, xs[i]'(by omega), S i) := fun S i hi h1 => by
    have := steps_get l xs 0 S i hi h1 (by omega)
    simpa using this
  obtain ⟨yL, hoL⟩ := D.opL
  obtain ⟨T', k', bb, yA, hoA, hnA⟩ := D.opA
  obtain ⟨yS, hoS, hnS⟩ := D.opS
  have iLl : p.iL < l.length := (List.getElem?_eq_some_iff.1 hoL).1
  have iAl : p.iA < l.length := (List.getElem?_eq_some_iff.1 hoA).1
  have iSl : p.iS < l.length := (List.getElem?_eq_some_iff.1 hoS).1
  have eL : l[p.iL] = ⟨some p.tL, .ldo yL, none⟩ := (List.getElem?_eq_some_iff.1 hoL).2
  have eA : l[p.iA] = ⟨some p.tA, .app T' k' bb p.tL yA, none⟩ := (List.getElem?_eq_some_iff.1 hoA).2
  have eS : l[p.iS] = ⟨none, .stoo yS p.tA, none⟩ := (List.getElem?_eq_some_iff.1 hoS).2
  obtain ⟨ρL, hLL, hρL⟩ := hloc p.iL iLl (by omega)
  obtain ⟨ρA, hLA, hρA⟩ := hloc p.iA iAl (by omega)
  obtain ⟨ρS, hLS, hρS⟩ := hloc p.iS iSl (by omega)
  have xL : xs[p.iL]'(by omega) = .d (.sl c.rows) := by
    unfold LocA at hLL; rw [eL] at hLL; exact hLL.2.2
  have xA : xs[p.iA]'(by omega) = .d (.sl (c.rows ++ rows2)) := by
    unfold LocA at hLA; rw [eA] at hLA; exact hLA.2.2.2
  -- the slots when some are done
  have base : ∀ S S', (∀ j, j < l.length → S j = S' j) → ∀ t, get (runsS (steps l xs 0 S) ρ) t = get (runsS (steps l xs 0 S') ρ) t := fun S S' hS t => by
    refine runsS_congr _ _ ρ t (by rw [hsteps, hsteps]) (fun i g1 g2 => ?_)
    rw [hsteps] at g1
    rw [hsg _ i (by rw [hsteps]; exact g1) g1, hsg _ i (by rw [hsteps]; exact g1) g1]
    exact ⟨rfl, rfl, fun _ => hS i g1⟩
  have baseL : ∀ S, S p.iL = true → get (runsS (steps l xs 0 S) ρ) p.tL = .d (.sl c.rows) := fun S hS => by
    have := runsS_last (steps l xs 0 S) ρ p.iL (by rw [hsteps]; exact iLl) p.tL (by rw [hsg _ _ _ iLl, eL]) (by rw [hsg _ _ _ iLl]; exact hS) (fun j hj hij hd => by
      rw [hsteps] at hj
      rw [hsg _ j _ hj] at hd
      exact absurd hd (D.dstL j _ (List.getElem?_eq_getElem hj) (by omega)))
    rw [this, hsg _ _ _ iLl]; exact xL
  have baseA : ∀ S, S p.iA = true → get (runsS (steps l xs 0 S) ρ) p.tA = .d (.sl (c.rows ++ rows2)) := fun S hS => by
    have := runsS_last (steps l xs 0 S) ρ p.iA (by rw [hsteps]; exact iAl) p.tA (by rw [hsg _ _ _ iAl, eA]) (by rw [hsg _ _ _ iAl]; exact hS) (fun j hj hij hd => by
      rw [hsteps] at hj
      rw [hsg _ j _ hj] at hd
      exact absurd hd (D.dstA j _ (List.getElem?_eq_getElem hj) (by omega)))
    rw [this, hsg _ _ _ iAl]; exact xA
  have over_get : ∀ S ρ' t, t ≠ p.tL → t ≠ p.tA → get (overlay p c rows2 S ρ') t = get ρ' t := fun S ρ' t h1 h2 => by
    unfold overlay
    split
    · rfl
    · split
      · rw [get_put, if_neg h2]
      · split
        · rw [get_put, if_neg h1]
        · rfl
  have over_congr : ∀ S ρ1 ρ2, (∀ t, get ρ1 t = get ρ2 t) → ∀ t, get (overlay p c rows2 S ρ1) t = get (overlay p c rows2 S ρ2) t := fun S ρ1 ρ2 hh t => by
    unfold overlay
    split
    · exact hh t
    · split
      · rw [get_put, get_put, hh]
      · split
        · rw [get_put, get_put, hh]
        · exact hh t
  refine draw_gen (M := M) (bm := bm) (tk := tk) (fun S => overlay p c rows2 S (runsS (steps l xs 0 S) ρ)) (fun S => if S p.iS then σf else if S p.iL then σ2 else σ) ρf σf D.lt (fun S S' hS => ?_) hl ?_ ⟨fun t => ?_, ?_⟩ hρf ?_
  · have e1 := hS p.iL (by omega)
    have e2 := hS p.iA (by omega)
    have e3 := hS p.iS (by omega)
    refine ⟨fun t => ?_, by rw [e1, e3]⟩
    rw [over_congr S _ _ (base S S' fun j hj => hS j (by omega)) t]
    unfold overlay
    rw [e1, e2, e3]
  · have : ∀ t, get (overlay p c rows2 (fun _ => false) (runsS (steps l xs 0 fun _ => false) ρ)) t = get ρ t := fun t => by
      unfold overlay
      simp only [Bool.false_eq_true, if_false]
      rw [runsS_none]
      intro q hq _
      obtain ⟨j, hj, rfl⟩ := List.getElem_of_mem hq
      rw [hsteps] at hj
      rw [hsg _ j (by rw [hsteps]; exact hj) hj]
    simp only [Bool.false_eq_true, if_false]
    exact h.congr this
  · rw [hρe t]; unfold overlay; simp only [if_true]
  · simp only [if_true]
  -- one step
  intro S i o' ho' hSi hclo hedge M bm tk a w hl h
  have hi1 : i < ops.toList.length := (List.getElem?_eq_some_iff.1 ho').1
  have hi2 : i < l.length := by omega
  have hlo : l[i]? = some l[i] := List.getElem?_eq_getElem hi2
  have hbef : ∀ j ∈ (beforeL ops.toList []).getD i [], S j = true := before_closed D.lt (S := fun j => S j = true) hclo i o' ho' hedge
  have hbefj : ∀ q, q < l.length → S q = true → ∀ j ∈ (beforeL ops.toList []).getD q [], S j = true := fun q hq hSq => by
    have hq2 : ops.toList[q]? = some ops.toList[q] := List.getElem?_eq_getElem (by omega)
    exact before_closed D.lt (S := fun j => S j = true) hclo q _ hq2 (hclo q _ hq2 hSq)
  have hsame : ∀ t ∈ l[i].looksA ++ l[i].dst.toList, ∀ j (hj : j < l.length), j ≠ i → l[j].dst = some t → (S j = decide (j < i)) := by
    intro t ht j hj hne hd
    rcases D.cmp i l[i] hlo t ht j l[j] (List.getElem?_eq_getElem hj) hd hne with ⟨g1, g2⟩ | ⟨g1, g2⟩
    · rw [hbef j g2]; simp [g1]
    · have : ¬ S j = true := fun hjl => by
        have := hbefj j hj hjl i g2
        rw [hSi] at this; cases this
      have e : S j = false := by simpa using this
      rw [e]; simp; omega
  obtain ⟨ρi, hL, hρi⟩ := hloc i hi2 (by omega)
  have hgetL : ∀ t ∈ l[i].looksA, get ρi t = get (runsS (steps l xs 0 S) ρ) t := by
    intro t ht
    rw [hρi t]
    refine runsS_congr _ _ ρ t (by rw [hsteps, hsteps]) (fun j g1 g2 => ?_)
    rw [hsteps] at g1
    rw [hsg _ j (by rw [hsteps]; exact g1) g1, hsg _ j (by rw [hsteps]; exact g1) g1]
    refine ⟨rfl, rfl, fun hd => ?_⟩
    simp only [Nat.zero_add]
    by_cases e : j = i
    · subst e; rw [hSi]; simp
    · exact (hsame t (by simp [ht]) j g1 e hd).symm
  have hnext : ∀ t, get (runsS (steps l xs 0 fun j => j == i || S j) ρ) t = get (Go.Proofs.YtbhippphcmkjnaaGreatDoor.putd (runsS (steps l xs 0 S) ρ) l[i].dst (xs[i]'(by omega))) t := by
    intro t
    rw [get_putd]
    split
    · rename_i e
      have := runsS_last (steps l xs 0 fun j => j == i || S j) ρ i (by rw [hsteps]; exact hi2) t (by rw [hsg _ i _ hi2]; exact e) (by rw [hsg _ i _ hi2]; simp) (fun j hj hij hd => by
        rw [hsteps] at hj
        rw [hsg _ j _ hj] at hd ⊢
        simp only at hd ⊢
        rw [hsame t (by simp [e]) j hj (by omega) hd]
        simp; omega)
      rw [this, hsg _ i _ hi2]
    · rename_i e
      refine runsS_congr _ _ ρ t (by rw [hsteps, hsteps]) (fun j g1 g2 => ?_)
      rw [hsteps] at g1
      rw [hsg _ j (by rw [hsteps]; exact g1) g1, hsg _ j (by rw [hsteps]; exact g1) g1]
      refine ⟨rfl, rfl, fun hd => ?_⟩
      simp only at hd ⊢
      have hne : j ≠ i := fun ee => by subst ee; exact e hd
      simp [hne]
  have hoo := hget i l[i] o' hlo ho'
  have hdst : l[i].dst = o'.dst := by
    have := hoo
    unfold okO at this
    simp only [Bool.and_eq_true, beq_iff_eq] at this
    exact this.1.1.2
  have hdn : ∀ d, o'.dst = some d → d < n := by
    have := hoo
    unfold okO at this
    simp only [Bool.and_eq_true] at this
    intro d hd
    have := this.1.2
    rw [hd] at this
    simpa using this
  have hgd := hoo
  unfold okO at hgd
  simp only [Bool.and_eq_true] at hgd
  replace hgd := hgd.2
  have hwant : l[i].g = none → Region.wanted o' (yielded ops a.tmps) = true := fun hg => by
    rw [hg] at hgd
    split at hgd
    · rename_i hg2; simp [Region.wanted, hg2]
    · rename_i e _; cases e
    · cases hgd
  have neLA : p.iL ≠ p.iA := fun e => by rw [e] at hoL; rw [hoL] at hoA; have := congrArg (fun o => o.map fun o => match o.op with | .ldo _ => true | _ => false) hoA; simp at this
  have neLS : p.iL ≠ p.iS := fun e => by rw [e] at hoL; rw [hoL] at hoS; cases hoS
  have neAS : p.iA ≠ p.iS := fun e => by rw [e] at hoA; rw [hoA] at hoS; cases hoS
  have bLA : (p.iL == p.iA) = false := by simpa using neLA
  have bLS : (p.iL == p.iS) = false := by simpa using neLS
  have bAS : (p.iA == p.iS) = false := by simpa using neAS
  have bAL : (p.iA == p.iL) = false := by simpa using Ne.symm neLA
  have bSL : (p.iS == p.iL) = false := by simpa using Ne.symm neLS
  have bSA : (p.iS == p.iA) = false := by simpa using Ne.symm neAS
  have done : ∀ (K : Slots → List (List V) → Prop) (R : AEx → Slots → List (List V) → Prop), (∀ ρ' σ', K ρ' σ' → (∀ t, get ρ' t = get (overlay p c rows2 (fun j => j == i || S j) (runsS (steps l xs 0 fun j => j == i || S j) ρ)) t) ∧ σ' = if (p.iS == i || S p.iS) = true then σf else if (p.iL == i || S p.iL) = true then σ2 else σ) →
      o'.wp C.P a w (Lift M bm pr w n K) (LiftX M bm pr w n fun _ _ _ => False) → o'.wp C.P a w (Lift M bm pr w n fun ρ' σ' => (∀ t, get ρ' t = get (overlay p c rows2 (fun j => j == i || S j) (runsS (steps l xs 0 fun j => j == i || S j) ρ)) t) ∧ σ' = if (p.iS == i || S p.iS) = true then σf else if (p.iL == i || S p.iL) = true then σ2 else σ) (LiftX M bm pr w n fun _ _ _ => False) := fun K R hK hw =>
    Oper.wp_mono2 (fun a' w' ⟨M', bm', tk', ρ', σ', e1, k2, k3⟩ => ⟨M', bm', tk', ρ', σ', hK _ _ e1, k2, k3⟩) (fun e a' w' hh => hh) hw
  by_cases hS : i = p.iS
  · subst hS
    have hall : ∀ j, j < l.length → j ≠ p.iS → S j = true := fun j hj hne => hbef j (D.last j l[j] (List.getElem?_eq_getElem hj) hne)
    have hSL := hall p.iL iLl neLS
    have hSA := hall p.iA iAl neAS
    simp only [overlay, hSi, hSL, hSA, Bool.false_eq_true, if_false, if_true] at h
    unfold LocA at hL
    rw [eS] at hL hgetL hnext
    obtain ⟨-, hL⟩ := hL
    rw [if_pos (hwant (by rw [eS]))]
    refine done (fun ρ' σ' => ρ' = put (put (runsS (steps l xs 0 S) ρ) p.tA (.own c.T c.k (c.rows ++ rows2))) p.tA (.d (.sl (c.rows ++ rows2))) ∧ σ' = σf) (fun _ _ _ => False) (fun ρ' σ' ⟨e1, e2⟩ => ?_) (runO_sound (hG.mono hl) h hoo ?_)
    · subst e1; subst e2
      refine ⟨fun t => ?_, by simp⟩
      simp only [overlay, BEq.rfl, Bool.true_or, if_true]
      rw [hnext t]
      simp only [Go.Proofs.YtbhippphcmkjnaaGreatDoor.putd, get_put]
      split
      · rename_i e; subst e; rw [baseA S hSA]
      · rfl
    · rw [eS]
      have hev : ev C (put (runsS (steps l xs 0 S) ρ) p.tA (.own c.T c.k (c.rows ++ rows2))) yS = .ptr c.i c.off := by
        rw [← hL]
        refine (ev_congr fun t ht => ?_).symm
        rw [get_put, if_neg (fun e => hnS (by subst e; exact ht))]
        exact hgetL t (by simp [O.looksA, OP.slotsA, ht])
      have hlt : c.i < σ.length := (List.getElem?_eq_some_iff.1 hcs).1
      have hlo2 : c.off < cs.length := (List.getElem?_eq_some_iff.1 hcell).1
      have hs2 : σ2[c.i]? = some (cs.set c.off (.d (.sl c.rows))) := by rw [← hσ2]; simp [hlt]
      simp only [runO, hev, get_put, if_true, hs2]
      exact ⟨by simpa using hlo2, trivial, hσf⟩
  have hSS : S p.iS = false := by
    have : ¬ S p.iS = true := fun hh => by
      have := hbefj p.iS iSl hh i (D.last i l[i] hlo hS)
      rw [hSi] at this; cases this
    simpa using this
  have hSi' : (p.iS == i) = false := by simpa using Ne.symm hS
  by_cases hA : i = p.iA
  · subst hA
    have hSL : S p.iL = true := hbef _ D.ab
    simp only [overlay, hSS, hSi, hSL, Bool.false_eq_true, if_false, if_true] at h
    unfold LocA at hL
    rw [eA] at hL hgetL hnext
    obtain ⟨-, hL1, hL2, -⟩ := hL
    rw [if_pos (hwant (by rw [eA]))]
    refine done (fun ρ' σ' => ρ' = Go.Proofs.YtbhippphcmkjnaaGreatDoor.putd (put (put (runsS (steps l xs 0 S) ρ) p.tL (.own c.T c.k c.rows)) p.tL (.d (.sl c.rows))) (some p.tA) (.own c.T c.k (c.rows ++ rows2)) ∧ σ' = σ2) (fun _ _ _ => False) (fun ρ' σ' ⟨e1, e2⟩ => ?_) (runO_sound (hG.mono hl) h hoo ?_)
    · subst e1; subst e2
      refine ⟨fun t => ?_, by simp [hSS, hSL, bSA]⟩
      simp only [overlay, BEq.rfl, Bool.true_or, bSA, hSS, Bool.or_self, Bool.false_eq_true, if_false, if_true]
      simp only [Go.Proofs.YtbhippphcmkjnaaGreatDoor.putd, get_put]
      split
      · rfl
      · rename_i hne
        rw [hnext t]
        simp only [Go.Proofs.YtbhippphcmkjnaaGreatDoor.putd, get_put, hne, if_false]
        split
        · rename_i e; subst e; rw [baseL S hSL]
        · rfl
    · rw [eA]
      have hev : ev C (put (runsS (steps l xs 0 S) ρ) p.tL (.own c.T c.k c.rows)) yA = ev C ρi yA := by
        refine (ev_congr fun t ht => ?_).symm
        rw [get_put, if_neg (fun e => hnA (by subst e; exact ht))]
        exact hgetL t (by simp [O.looksA, OP.slotsA, ht])
      obtain ⟨q1, q2, q3, q4⟩ := hL2
      simp only [runO, get_put, if_true, hev, hL1]
      refine ⟨⟨q1, q2, q3, q4⟩, ?_, trivial⟩
      rw [q1, q2]
  have hSA' : (p.iA == i) = false := by simpa using Ne.symm hA
  by_cases hLd : i = p.iL
  · subst hLd
    have hSA : S p.iA = false := by
      have : ¬ S p.iA = true := fun hh => by
        have := hbefj p.iA iAl hh _ D.ab
        rw [hSi] at this; cases this
      simpa using this
    simp only [overlay, hSS, hSi, hSA, Bool.false_eq_true, if_false] at h
    unfold LocA at hL
    rw [eL] at hL hgetL hnext
    obtain ⟨-, hL1, -⟩ := hL
    rw [if_pos (hwant (by rw [eL]))]
    refine done (fun ρ' σ' => ρ' = Go.Proofs.YtbhippphcmkjnaaGreatDoor.putd (runsS (steps l xs 0 S) ρ) (some p.tL) (.own c.T c.k c.rows) ∧ σ' = σ2) (fun _ _ _ => False) (fun ρ' σ' ⟨e1, e2⟩ => ?_) (runO_sound (hG.mono hl) h hoo ?_)
    · subst e1; subst e2
      refine ⟨fun t => ?_, by simp [hSS, bSL]⟩
      simp only [overlay, BEq.rfl, Bool.true_or, bSL, bAL, hSS, hSA, Bool.or_self, Bool.false_eq_true, if_false, if_true]
      simp only [Go.Proofs.YtbhippphcmkjnaaGreatDoor.putd, get_put]
      split
      · rfl
      · rename_i hne
        rw [hnext t]
        simp only [Go.Proofs.YtbhippphcmkjnaaGreatDoor.putd, get_put, hne, if_false]
    · rw [eL]
      have hev : ev C (runsS (steps l xs 0 S) ρ) yL = .ptr c.i c.off := by
        rw [← hL1]
        refine (ev_congr fun t ht => ?_).symm
        exact hgetL t (by simp [O.looksA, OP.slotsA, ht])
      simp only [runO, hev, hcs, hcell]
      exact ⟨trivial, hσ2⟩
  have hSL' : (p.iL == i) = false := by simpa using Ne.symm hLd
  -- a calm operation
  have hns : l[i].op.special = false := by
    have := D.spec i l[i] hlo
    cases hsp : l[i].op.special with
    | false => rfl
    | true => rcases this.1 hsp with e | e | e; exact absurd e hLd; exact absurd e hA; exact absurd e hS
  have hLL2 : Loc C l[i] ρi σ (xs[i]'(by omega)) ∧ Loc C l[i] ρi σ2 (xs[i]'(by omega)) := by
    unfold LocA at hL
    split at hL
    · rename_i e; rw [e] at hns; cases hns
    · rename_i e; rw [e] at hns; cases hns
    · rename_i e; rw [e] at hns; cases hns
    · exact hL
  have hlk : l[i].looks = l[i].looksA := by
    unfold O.looks O.looksA
    have : l[i].op.slots = l[i].op.slotsA := by
      cases ho : l[i].op <;> first | rfl | (rw [ho] at hns; cases hns)
    rw [this]
    all_goals rfl
  have hσS : Loc C l[i] ρi (if S p.iL = true then σ2 else σ) (xs[i]'(by omega)) := by split; exact hLL2.2; exact hLL2.1
  have hL2 : Loc C l[i] (overlay p c rows2 S (runsS (steps l xs 0 S) ρ)) (if S p.iL = true then σ2 else σ) (xs[i]'(by omega)) := hσS.congr fun t ht => by
    rw [hlk] at ht
    rw [hgetL t ht, over_get S _ t (fun e => D.lookL i _ hlo hA (by subst e; exact ht)) (fun e => D.lookA i _ hlo hS (by subst e; exact ht))]
  have hnextSt : ∀ t, get (overlay p c rows2 (fun j => j == i || S j) (runsS (steps l xs 0 fun j => j == i || S j) ρ)) t = get (Go.Proofs.YtbhippphcmkjnaaGreatDoor.putd (overlay p c rows2 S (runsS (steps l xs 0 S) ρ)) l[i].dst (xs[i]'(by omega))) t := fun t => by
    rw [over_congr _ _ _ hnext t]
    have d1 := D.dstL i _ hlo hLd
    have d2 := D.dstA i _ hlo hA
    simp only [overlay, hSi', hSA', hSL', Bool.false_or]
    split
    · rfl
    · split
      · rw [get_putd, get_put, get_put, get_putd]
        by_cases e1 : t = p.tA
        · subst e1; simp [d2]
        · simp [e1]
      · split
        · rw [get_putd, get_put, get_put, get_putd]
          by_cases e1 : t = p.tL
          · subst e1; simp [d1]
          · simp [e1]
        · rfl
  simp only [hSS, hSi', hSL', Bool.false_or, Bool.false_eq_true, if_false] at h done ⊢
  have exec : calmO C l[i].op (overlay p c rows2 S (runsS (steps l xs 0 S) ρ)) (if S p.iL = true then σ2 else σ) (fun v => v = xs[i]'(by omega)) → o'.wp C.P a w (Lift M bm pr w n fun ρ' σ' => (∀ t, get ρ' t = get (overlay p c rows2 (fun j => j == i || S j) (runsS (steps l xs 0 fun j => j == i || S j) ρ)) t) ∧ σ' = if S p.iL = true then σ2 else σ) (LiftX M bm pr w n fun _ _ _ => False) := fun hc =>
    done _ (fun _ _ _ => False) (fun ρ' σ' ⟨e1, e2⟩ => ⟨fun t => by rw [e1]; exact (hnextSt t).symm, e2⟩) (runO_sound (hG.mono hl) h hoo (calm_run hc))
  unfold Loc at hL2
  split at hL2
  · rename_i hg
    rw [if_pos (hwant hg)]
    exact exec hL2
  · rename_i t want hg
    rw [hg] at hgd
    split at hgd
    · rename_i e _; cases e
    · rename_i t' b' j b'' e hg2
      cases e
      simp only [Bool.and_eq_true, beq_iff_eq] at hgd
      obtain ⟨rfl, hj⟩ := hgd
      split at hL2
      · rename_i b hb
        have hy := yield_sound h hb hj
        by_cases hbw : b = want
        · rw [if_pos (by simp [Region.wanted, hg2, hy, hbw])]
          exact exec (hL2.1 hbw)
        · rw [if_neg (by simp [Region.wanted, hg2, hy, hbw])]
          have hx := hL2.2 hbw
          refine (h.putd hdn rep_un (by simp)).congr fun t => ?_
          rw [hnextSt t, hx, hdst]
      · rename_i hb
        have hy := yield_un h hb hj
        rw [if_neg (by simp [Region.wanted, hg2, hy])]
        refine (h.putd hdn rep_un (by simp)).congr fun t => ?_
        rw [hnextSt t, hL2, hdst]
      · exact hL2.elim
    · cases hgd
end
end Go.Proofs.YtbhippphcmkjnaaGreatDoor

/-
  Regions that draw their order and make one box, which is filled last: x := f(..) with a boxed x. No program is in sight here.
-/
set_option linter.unusedVariables false
set_option linter.unusedSimpArgs false
namespace Go.Proofs.YtbhippphcmkjnaaGreatDoor
open Go.RowKit

/-- The slots that an operation reads, a store's too. -/
def OP.slotsN : OP → List Nat
  | .sto _ x y => x.slots ++ y.slots
  | op => op.slots
def OP.specialN : OP → Bool
  | .new _ _ => true
  | .sto _ _ _ => true
  | _ => false
def O.looksN (o : O) : List Nat := o.op.slotsN ++ (match o.g with | some (t, _) => [t] | none => [])

section
variable {C : Cx} {pr : Nat → Prop} {ρ : Slots} {n : Nat} {Q : AEx → Slots → List (List V) → Prop}
def LocN (C : Cx) (cs fin : List V) (σ : List (List V)) (o : O) (ρ : Slots) (x : V) : Prop :=
  match o.op with
  | .new _ cs' => o.g = none ∧ cs' = cs ∧ x = .ptr σ.length 0
  | .sto kk y z => o.g = none ∧ ∃ off, ev C ρ y = .ptr σ.length off ∧ ((ev C ρ z).boxable = true ∧ (ev C ρ z).cells.length = kk ∧ off + kk ≤ cs.length) ∧ fin = over cs off (ev C ρ z).cells
  | _ => Loc C o ρ σ x ∧ Loc C o ρ (σ ++ [cs]) x

/-- The region: what its calm operations yield with the new box and without, and what the box holds in the end. -/
def awpN (C : Cx) (cs : List V) (σ σ2 : List (List V)) : List O → Slots → Option (List V) → (Slots → List V → Prop) → Prop
  | [], ρ, acc, K => match acc with | some fin => K ρ fin | none => False
  | o :: r, ρ, acc, K => match o.op with
    | .new _ cs' => o.g = none ∧ cs' = cs ∧ awpN C cs σ σ2 r (putd ρ o.dst (.ptr σ.length 0)) acc K
    | .sto kk y z => o.g = none ∧ o.dst = none ∧ match acc, ev C ρ y with
      | none, .ptr i off => i = σ.length ∧ ((ev C ρ z).boxable = true ∧ (ev C ρ z).cells.length = kk ∧ off + kk ≤ cs.length) ∧ awpN C cs σ σ2 r ρ (some (over cs off (ev C ρ z).cells)) K
      | _, _ => False
    | op => match o.g with
      | none => calmO2 C op ρ σ σ2 fun v => awpN C cs σ σ2 r (putd ρ o.dst v) acc K
      | some (t, want) => match get ρ t with
        | .d (.lit (.bool b)) => (b = want → calmO2 C op (put ρ t (.d (.lit (.bool want)))) σ σ2 fun v => awpN C cs σ σ2 r (putd (put ρ t (.d (.lit (.bool want)))) o.dst v) acc K) ∧ (b ≠ want → awpN C cs σ σ2 r (putd (put ρ t (.d (.lit (.bool (!want))))) o.dst (.tup [])) acc K)
        | .tup [] => awpN C cs σ σ2 r (putd ρ o.dst (.tup [])) acc K
        | _ => False

theorem awpN_chain {cs : List V} {σ : List (List V)} : ∀ {l : List O} {ρ : Slots} {acc : Option (List V)} {K : Slots → List V → Prop}, awpN C cs σ (σ ++ [cs]) l ρ acc K →
    ∃ fin, (∀ r, acc = some r → r = fin) ∧ chain (LocN C cs fin σ) l ρ fun ρ' => K ρ' fin
  | [], ρ, acc, K, h => by
    cases acc with
    | none => exact h.elim
    | some r => exact ⟨r, fun r' e => by cases e; rfl, h⟩
  | o :: r, ρ, acc, K, h => by
    have know : ∀ {t : Nat} {b c : Bool}, get ρ t = .d (.lit (.bool b)) → b = c → ∀ s, get (put ρ t (.d (.lit (.bool c)))) s = get ρ s := fun hb hc s => by
      rw [get_put]
      split
      · rename_i e; subst e; subst hc; exact hb.symm
      · rfl
    have other : o.op.specialN = false → (match o.g with
      | none => calmO2 C o.op ρ σ (σ ++ [cs]) fun v => awpN C cs σ (σ ++ [cs]) r (putd ρ o.dst v) acc K
      | some (t, want) => match get ρ t with
        | .d (.lit (.bool b)) => (b = want → calmO2 C o.op (put ρ t (.d (.lit (.bool want)))) σ (σ ++ [cs]) fun v => awpN C cs σ (σ ++ [cs]) r (putd (put ρ t (.d (.lit (.bool want)))) o.dst v) acc K) ∧ (b ≠ want → awpN C cs σ (σ ++ [cs]) r (putd (put ρ t (.d (.lit (.bool (!want))))) o.dst (.tup [])) acc K)
        | .tup [] => awpN C cs σ (σ ++ [cs]) r (putd ρ o.dst (.tup [])) acc K
        | _ => False) → ∃ fin, (∀ r, acc = some r → r = fin) ∧ chain (LocN C cs fin σ) (o :: r) ρ fun ρ' => K ρ' fin := by
      intro hs h
      have fin : ∀ x ρ2, (∀ t, get ρ2 t = get ρ t) → Loc C o ρ σ x → Loc C o ρ (σ ++ [cs]) x → awpN C cs σ (σ ++ [cs]) r (putd ρ2 o.dst x) acc K → ∃ fin, (∀ r, acc = some r → r = fin) ∧ chain (LocN C cs fin σ) (o :: r) ρ fun ρ' => K ρ' fin := by
        intro x ρ2 h1 h2 h3 h4
        obtain ⟨rows2, h5, h6⟩ := awpN_chain h4
        refine ⟨rows2, h5, x, ρ2, h1, ?_, h6⟩
        unfold LocN
        split <;> first | exact ⟨h2, h3⟩ | (rename_i e; rw [e] at hs; cases hs)
      split at h
      · rename_i hg
        obtain ⟨v, h1, h2, h3⟩ := calmO2_split h
        exact fin v ρ (fun _ => rfl) (by unfold Loc; rw [hg]; exact h1) (by unfold Loc; rw [hg]; exact h2) h3
      · rename_i t want hg
        split at h
        · rename_i b hb
          by_cases e : b = want
          · obtain ⟨v, h1, h2, h3⟩ := calmO2_split (h.1 e)
            exact fin v _ (know hb e) (by unfold Loc; rw [hg]; simp only; rw [hb]; exact ⟨fun _ => calmO_congr (fun s _ => know hb e s) h1, fun ne => absurd e ne⟩)
              (by unfold Loc; rw [hg]; simp only; rw [hb]; exact ⟨fun _ => calmO_congr (fun s _ => know hb e s) h2, fun ne => absurd e ne⟩) h3
          · exact fin (.tup []) _ (know hb (c := !want) (by cases b <;> cases want <;> simp_all)) (by unfold Loc; rw [hg]; simp only; rw [hb]; exact ⟨(fun ee => absurd ee e), (fun _ => by trivial)⟩)
              (by unfold Loc; rw [hg]; simp only; rw [hb]; exact ⟨(fun ee => absurd ee e), (fun _ => by trivial)⟩) (h.2 e)
        · rename_i hb
          exact fin (.tup []) ρ (fun _ => rfl) (by unfold Loc; rw [hg]; simp only; rw [hb]; trivial) (by unfold Loc; rw [hg]; simp only; rw [hb]; trivial) h
        · exact h.elim
    unfold awpN at h
    split at h
    · rename_i T' cs' ho
      obtain ⟨h1, h2, h3⟩ := h
      obtain ⟨fin, h5, h6⟩ := awpN_chain h3
      exact ⟨fin, h5, _, ρ, fun _ => rfl, by unfold LocN; rw [ho]; exact ⟨h1, h2, rfl⟩, h6⟩
    · rename_i kk y z ho
      obtain ⟨h1, h2, h3⟩ := h
      split at h3
      · rename_i i off he
        obtain ⟨h4, h5, h6⟩ := h3
        subst h4
        obtain ⟨fin, h7, h8⟩ := awpN_chain h6
        have := h7 _ rfl
        subst this
        exact ⟨_, (fun r e => by cases e), .junk, ρ, fun _ => rfl, by unfold LocN; rw [ho]; exact ⟨h1, off, he, h5, rfl⟩, by rw [h2]; exact h8⟩
      · exact h3.elim
    · rename_i n1 n2
      refine other ?_ h
      cases ho : o.op <;> first | rfl | exact absurd ho (n1 _ _) | exact absurd ho (n2 _ _ _)

/-! ### What is looked at once and for all -/
structure PosN where
  iN : Nat
  iS : Nat
  tN : Nat
def posN (l : List O) : Option PosN :=
  match idxOf (fun op => match op with | .new _ _ => true | _ => false) l 0, idxOf (fun op => match op with | .sto _ _ _ => true | _ => false) l 0 with
  | some a, some c => match (l[a]?).bind O.dst with
    | some t => some ⟨a, c, t⟩
    | _ => none
  | _, _ => none
def isN (p : PosN) : O → Bool
  | ⟨some t, .new _ _, none⟩ => t == p.tN
  | _ => false
def isSN : O → Bool
  | ⟨none, .sto _ _ _, none⟩ => true
  | _ => false
def checkN (p : PosN) (l : List O) (os : List Oper) : Bool :=
  let bf := beforeL os []
  ((List.range os.length).all fun i => match os[i]? with | some o => (edgesOf o).all fun j => decide (j < i) | none => true) &&
  (((List.range l.length).all fun i => match l[i]? with
    | some o => ((o.looksN ++ o.dst.toList).all fun t => (List.range l.length).all fun j => j == i || (match l[j]? with
        | some q => q.dst != some t || (if j < i then (bf.getD i []).contains j else (bf.getD j []).contains i)
        | none => true)) &&
      ((o.op.specialN == (i == p.iN || i == p.iS)) && ((i == p.iN || o.dst != some p.tN) && (i == p.iS || (bf.getD p.iS []).contains i)))
    | none => true) &&
  ((l[p.iN]?).any (isN p) && (l[p.iS]?).any isSN))
def drawNOK (l : List O) (os : List Oper) : Bool := match posN l with
  | some p => checkN p l os
  | none => false

structure OKN (p : PosN) (l : List O) (os : List Oper) : Prop where
  lt : ∀ (i : Nat) (o : Oper), os[i]? = some o → ∀ j ∈ edgesOf o, j < i
  cmp : ∀ (i : Nat) (o : O), l[i]? = some o → ∀ t ∈ o.looksN ++ o.dst.toList, ∀ (j : Nat) (q : O), l[j]? = some q → q.dst = some t → j ≠ i → (j < i ∧ j ∈ (beforeL os []).getD i []) ∨ (i < j ∧ i ∈ (beforeL os []).getD j [])
  spec : ∀ (i : Nat) (o : O), l[i]? = some o → (o.op.specialN = true ↔ i = p.iN ∨ i = p.iS)
  dstN : ∀ (i : Nat) (o : O), l[i]? = some o → i ≠ p.iN → o.dst ≠ some p.tN
  last : ∀ (i : Nat) (o : O), l[i]? = some o → i ≠ p.iS → i ∈ (beforeL os []).getD p.iS []
  opN : ∃ T cs, l[p.iN]? = some ⟨some p.tN, .new T cs, none⟩
  opS : ∃ kk y z, l[p.iS]? = some ⟨none, .sto kk y z, none⟩
theorem checkN_ok {p : PosN} {l : List O} {os : List Oper} (hl : l.length = os.length) (h : checkN p l os = true) : OKN p l os := by
  unfold checkN at h
  simp only [Bool.and_eq_true] at h
  obtain ⟨h1, h2, h3, h5⟩ := h
  simp only [List.all_eq_true, List.mem_range] at h1 h2
  have one : ∀ (i : Nat) (o : O), l[i]? = some o → _ := fun i o ho => by
    have := h2 i (List.getElem?_eq_some_iff.1 ho).1
    rw [ho] at this
    simp only [Bool.and_eq_true] at this
    exact this
  refine ⟨fun i o ho j hj => ?_, fun i o ho t ht j q hp hd hne => ?_, fun i o ho => ?_, fun i o ho hne => ?_, fun i o ho hne => ?_, ?_, ?_⟩
  · have := h1 i (List.getElem?_eq_some_iff.1 ho).1
    rw [ho] at this
    simpa using List.all_eq_true.1 this j hj
  · have h1 := (one i o ho).1
    simp only [List.all_eq_true, List.mem_range] at h1
    have h2 := h1 t ht j (List.getElem?_eq_some_iff.1 hp).1
    rw [hp] at h2
    simp only [hd, Bool.or_eq_true, beq_iff_eq, bne_self_eq_false, Bool.false_eq_true, false_or] at h2
    rcases h2 with h2 | h2
    · exact absurd h2 hne
    · split at h2
      · exact .inl ⟨by assumption, by simpa using h2⟩
      · exact .inr ⟨by omega, by simpa using h2⟩
  · have := (one i o ho).2.1
    rw [beq_iff_eq] at this
    rw [this]
    simp
  · have := (one i o ho).2.2.1
    simpa [hne] using this
  · have := (one i o ho).2.2.2
    simpa [hne] using this
  · cases ho : l[p.iN]? with
    | none => rw [ho] at h3; cases h3
    | some o =>
    rw [ho] at h3
    have hp : isN p o = true := h3
    clear h3
    unfold isN at hp
    split at hp
    · rw [beq_iff_eq] at hp; subst hp; exact ⟨_, _, rfl⟩
    · cases hp
  · cases ho : l[p.iS]? with
    | none => rw [ho] at h5; cases h5
    | some o =>
    rw [ho] at h5
    have hp : isSN o = true := h5
    clear h5
    unfold isSN at hp
    split at hp
    · exact ⟨_, _, _, rfl⟩
    · cases hp

theorem drawn_sound {M0 : Facts} {bm0 : List Nat} {w0 : World} (hG : C.glob M0 pr w0) {id : Nat} {ops : Array Oper} {l : List O} {M : Facts} {bm : List Nat} {tk : Toks} {σ : List (List V)} {a : Act} {w : World} (hok : okOs C.tab n ops l ops.toList = true) (hdr : drawNOK l ops.toList = true)
    (hl : Later M0 bm0 pr w0 M bm w) (h : SRel M bm tk pr ρ σ n a w) {cs : List V}
    (hq : awpN C cs σ (σ ++ [cs]) l ρ none fun ρ' fin => Q .normal ρ' (σ ++ [fin])) :
    (Code.region id ops true).wp C.P (LiftX M0 bm0 pr w0 n Q) a w := by
  obtain ⟨hlen, hget⟩ := okOs_get hok
  unfold drawNOK at hdr
  split at hdr
  case h_2 => cases hdr
  rename_i p _
  have D := checkN_ok hlen hdr
  obtain ⟨fin, -, hch⟩ := awpN_chain hq
  obtain ⟨xs, hxl, ⟨ρf, hρf, hρe⟩, hloc⟩ := chain_ex (k := 0) hch
  generalize hσ2 : σ ++ [cs] = σ2 at *
  generalize hσf : σ ++ [fin] = σf at *
  have hnl : l.length = ops.size := by rw [hlen]; simp
  have hsteps : ∀ S : Nat → Bool, (steps l xs 0 S).length = l.length := fun S => steps_len l xs 0 S hxl
  have hsg : ∀ (S : Nat → Bool) (i : Nat) (hi : i < (steps l xs 0 S).length) (h1 : i < l.length), (steps l xs 0 S)[i] = (l[i].dst, xs[i]'(by omega), S i) := fun S i hi h1 => by
    have := steps_get l xs 0 S i hi h1 (by omega)
    simpa using this
  obtain ⟨TN, csN, hoN⟩ := D.opN
  obtain ⟨kS, yS, zS, hoS⟩ := D.opS
  have iNl : p.iN < l.length := (List.getElem?_eq_some_iff.1 hoN).1
  have iSl : p.iS < l.length := (List.getElem?_eq_some_iff.1 hoS).1
  have eN : l[p.iN] = ⟨some p.tN, .new TN csN, none⟩ := (List.getElem?_eq_some_iff.1 hoN).2
  have eS : l[p.iS] = ⟨none, .sto kS yS zS, none⟩ := (List.getElem?_eq_some_iff.1 hoS).2
  -- the slots when some are done
  have base : ∀ S S', (∀ j, j < l.length → S j = S' j) → ∀ t, get (runsS (steps l xs 0 S) ρ) t = get (runsS (steps l xs 0 S') ρ) t := fun S S' hS t => by
    refine runsS_congr _ _ ρ t (by rw [hsteps, hsteps]) (fun i g1 g2 => ?_)
    rw [hsteps] at g1
    rw [hsg _ i (by rw [hsteps]; exact g1) g1, hsg _ i (by rw [hsteps]; exact g1) g1]
    exact ⟨rfl, rfl, fun _ => hS i g1⟩
  refine draw_gen (M := M) (bm := bm) (tk := tk) (fun S => runsS (steps l xs 0 S) ρ) (fun S => if S p.iS then σf else if S p.iN then σ2 else σ) ρf σf D.lt (fun S S' hS => ?_) hl ?_ ⟨fun t => ?_, ?_⟩ hρf ?_
  · have e1 := hS p.iN (by omega)
    have e3 := hS p.iS (by omega)
    exact ⟨base S S' fun j hj => hS j (by omega), by rw [e1, e3]⟩
  · have : ∀ t, get (runsS (steps l xs 0 fun _ => false) ρ) t = get ρ t := fun t => by
      rw [runsS_none]
      intro q hq _
      obtain ⟨j, hj, rfl⟩ := List.getElem_of_mem hq
      rw [hsteps] at hj
      rw [hsg _ j (by rw [hsteps]; exact hj) hj]
    simp only [Bool.false_eq_true, if_false]
    exact h.congr this
  · rw [hρe t]
  · simp only [if_true]
  -- one step
  intro S i o' ho' hSi hclo hedge M bm tk a w hl h
  have hi1 : i < ops.toList.length := (List.getElem?_eq_some_iff.1 ho').1
  have hi2 : i < l.length := by omega
  have hlo : l[i]? = some l[i] := List.getElem?_eq_getElem hi2
  have hbef : ∀ j ∈ (beforeL ops.toList []).getD i [], S j = true := before_closed D.lt (S := fun j => S j = true) hclo i o' ho' hedge
  have hbefj : ∀ q, q < l.length → S q = true → ∀ j ∈ (beforeL ops.toList []).getD q [], S j = true := fun q hq hSq => by
    have hq2 : ops.toList[q]? = some ops.toList[q] := List.getElem?_eq_getElem (by omega)
    exact before_closed D.lt (S := fun j => S j = true) hclo q _ hq2 (hclo q _ hq2 hSq)
  have hsame : ∀ t ∈ l[i].looksN ++ l[i].dst.toList, ∀ j (hj : j < l.length), j ≠ i → l[j].dst = some t → (S j = decide (j < i)) := by
    intro t ht j hj hne hd
    rcases D.cmp i l[i] hlo t ht j l[j] (List.getElem?_eq_getElem hj) hd hne with ⟨g1, g2⟩ | ⟨g1, g2⟩
    · rw [hbef j g2]; simp [g1]
    · have : ¬ S j = true := fun hjl => by
        have := hbefj j hj hjl i g2
        rw [hSi] at this; cases this
      have e : S j = false := by simpa using this
      rw [e]; simp; omega
  obtain ⟨ρi, hL, hρi⟩ := hloc i hi2 (by omega)
  have hgetL : ∀ t ∈ l[i].looksN, get ρi t = get (runsS (steps l xs 0 S) ρ) t := by
    intro t ht
    rw [hρi t]
    refine runsS_congr _ _ ρ t (by rw [hsteps, hsteps]) (fun j g1 g2 => ?_)
    rw [hsteps] at g1
    rw [hsg _ j (by rw [hsteps]; exact g1) g1, hsg _ j (by rw [hsteps]; exact g1) g1]
    refine ⟨rfl, rfl, fun hd => ?_⟩
    simp only [Nat.zero_add]
    by_cases e : j = i
    · subst e; rw [hSi]; simp
    · exact (hsame t (by simp [ht]) j g1 e hd).symm
  have hnext : ∀ t, get (runsS (steps l xs 0 fun j => j == i || S j) ρ) t = get (Go.Proofs.YtbhippphcmkjnaaGreatDoor.putd (runsS (steps l xs 0 S) ρ) l[i].dst (xs[i]'(by omega))) t := by
    intro t
    rw [get_putd]
    split
    · rename_i e
      have := runsS_last (steps l xs 0 fun j => j == i || S j) ρ i (by rw [hsteps]; exact hi2) t (by rw [hsg _ i _ hi2]; exact e) (by rw [hsg _ i _ hi2]; simp) (fun j hj hij hd => by
        rw [hsteps] at hj
        rw [hsg _ j _ hj] at hd ⊢
        simp only at hd ⊢
        rw [hsame t (by simp [e]) j hj (by omega) hd]
        simp; omega)
      rw [this, hsg _ i _ hi2]
    · rename_i e
      refine runsS_congr _ _ ρ t (by rw [hsteps, hsteps]) (fun j g1 g2 => ?_)
      rw [hsteps] at g1
      rw [hsg _ j (by rw [hsteps]; exact g1) g1, hsg _ j (by rw [hsteps]; exact g1) g1]
      refine ⟨rfl, rfl, fun hd => ?_⟩
      simp only at hd ⊢
      have hne : j ≠ i := fun ee => by subst ee; exact e hd
      simp [hne]
  have hoo := hget i l[i] o' hlo ho'
  have hdst : l[i].dst = o'.dst := by
    have := hoo
    unfold okO at this
    simp only [Bool.and_eq_true, beq_iff_eq] at this
    exact this.1.1.2
  have hdn : ∀ d, o'.dst = some d → d < n := by
    have := hoo
    unfold okO at this
    simp only [Bool.and_eq_true] at this
    intro d hd
    have := this.1.2
    rw [hd] at this
    simpa using this
  have hgd := hoo
  unfold okO at hgd
  simp only [Bool.and_eq_true] at hgd
  replace hgd := hgd.2
  have hwant : l[i].g = none → Region.wanted o' (yielded ops a.tmps) = true := fun hg => by
    rw [hg] at hgd
    split at hgd
    · rename_i hg2; simp [Region.wanted, hg2]
    · rename_i e _; cases e
    · cases hgd
  have neNS : p.iN ≠ p.iS := fun e => by rw [e] at hoN; rw [hoN] at hoS; cases hoS
  have bNS : (p.iN == p.iS) = false := by simpa using neNS
  have bSN : (p.iS == p.iN) = false := by simpa using Ne.symm neNS
  have done : ∀ (K : Slots → List (List V) → Prop) (R : AEx → Slots → List (List V) → Prop), (∀ ρ' σ', K ρ' σ' → (∀ t, get ρ' t = get (runsS (steps l xs 0 fun j => j == i || S j) ρ) t) ∧ σ' = if (p.iS == i || S p.iS) = true then σf else if (p.iN == i || S p.iN) = true then σ2 else σ) →
      o'.wp C.P a w (Lift M bm pr w n K) (LiftX M bm pr w n fun _ _ _ => False) → o'.wp C.P a w (Lift M bm pr w n fun ρ' σ' => (∀ t, get ρ' t = get (runsS (steps l xs 0 fun j => j == i || S j) ρ) t) ∧ σ' = if (p.iS == i || S p.iS) = true then σf else if (p.iN == i || S p.iN) = true then σ2 else σ) (LiftX M bm pr w n fun _ _ _ => False) := fun K R hK hw =>
    Oper.wp_mono2 (fun a' w' ⟨M', bm', tk', ρ', σ', e1, k2, k3⟩ => ⟨M', bm', tk', ρ', σ', hK _ _ e1, k2, k3⟩) (fun e a' w' hh => hh) hw
  by_cases hS : i = p.iS
  · subst hS
    have hall : ∀ j, j < l.length → j ≠ p.iS → S j = true := fun j hj hne => hbef j (D.last j l[j] (List.getElem?_eq_getElem hj) hne)
    have hSN := hall p.iN iNl neNS
    simp only [hSi, hSN, Bool.false_eq_true, if_false, if_true] at h
    unfold LocN at hL
    rw [eS] at hL hgetL hnext
    obtain ⟨-, off, hL1, hL2, hL3⟩ := hL
    have evy : ev C (runsS (steps l xs 0 S) ρ) yS = .ptr σ.length off := by
      rw [← hL1]; exact (ev_congr fun t ht => hgetL t (by simp [O.looksN, OP.slotsN, ht])).symm
    have evz : ev C (runsS (steps l xs 0 S) ρ) zS = ev C ρi zS := (ev_congr fun t ht => hgetL t (by simp [O.looksN, OP.slotsN, ht])).symm
    rw [if_pos (hwant (by rw [eS]))]
    refine done (fun ρ' σ' => ρ' = runsS (steps l xs 0 S) ρ ∧ σ' = σf) (fun _ _ _ => False) (fun ρ' σ' ⟨e1, e2⟩ => ?_) (runO_sound (hG.mono hl) h hoo ?_)
    · subst e1; subst e2
      refine ⟨fun t => ?_, by simp⟩
      rw [hnext t]; rfl
    · rw [eS]
      have hs2 : σ2[σ.length]? = some cs := by rw [← hσ2]; simp
      simp only [runO, evy, evz, hs2]
      refine ⟨hL2, trivial, ?_⟩
      rw [← hL3, ← hσ2, ← hσf]
      simp
  have hSS : S p.iS = false := by
    have : ¬ S p.iS = true := fun hh => by
      have := hbefj p.iS iSl hh i (D.last i l[i] hlo hS)
      rw [hSi] at this; cases this
    simpa using this
  have hSi' : (p.iS == i) = false := by simpa using Ne.symm hS
  by_cases hN : i = p.iN
  · subst hN
    simp only [hSS, hSi, Bool.false_eq_true, if_false] at h
    unfold LocN at hL
    rw [eN] at hL hgetL hnext
    obtain ⟨-, hL1, hL2⟩ := hL
    rw [if_pos (hwant (by rw [eN]))]
    refine done (fun ρ' σ' => ρ' = Go.Proofs.YtbhippphcmkjnaaGreatDoor.putd (runsS (steps l xs 0 S) ρ) (some p.tN) (.ptr σ.length 0) ∧ σ' = σ2) (fun _ _ _ => False) (fun ρ' σ' ⟨e1, e2⟩ => ?_) (runO_sound (hG.mono hl) h hoo ?_)
    · subst e1; subst e2
      refine ⟨fun t => ?_, by simp [hSS, bSN]⟩
      rw [hnext t, hL2]
    · rw [eN]
      simp only [runO, hL1]
      exact ⟨trivial, hσ2⟩
  have hSN' : (p.iN == i) = false := by simpa using Ne.symm hN
  -- a calm operation
  have hns : l[i].op.specialN = false := by
    have := D.spec i l[i] hlo
    cases hsp : l[i].op.specialN with
    | false => rfl
    | true => rcases this.1 hsp with e | e; exact absurd e hN; exact absurd e hS
  have hLL2 : Loc C l[i] ρi σ (xs[i]'(by omega)) ∧ Loc C l[i] ρi σ2 (xs[i]'(by omega)) := by
    unfold LocN at hL
    split at hL
    · rename_i e; rw [e] at hns; cases hns
    · rename_i e; rw [e] at hns; cases hns
    · rw [hσ2] at hL; exact hL
  have hlk : l[i].looks = l[i].looksN := by
    unfold O.looks O.looksN
    have : l[i].op.slots = l[i].op.slotsN := by
      cases ho : l[i].op <;> first | rfl | (rw [ho] at hns; cases hns)
    rw [this]
    all_goals rfl
  have hσS : Loc C l[i] ρi (if S p.iN = true then σ2 else σ) (xs[i]'(by omega)) := by split; exact hLL2.2; exact hLL2.1
  have hL2 : Loc C l[i] (runsS (steps l xs 0 S) ρ) (if S p.iN = true then σ2 else σ) (xs[i]'(by omega)) := hσS.congr fun t ht => by
    rw [hlk] at ht
    exact hgetL t ht
  simp only [hSS, hSi', hSN', Bool.false_or, Bool.false_eq_true, if_false] at h done ⊢
  have exec : calmO C l[i].op (runsS (steps l xs 0 S) ρ) (if S p.iN = true then σ2 else σ) (fun v => v = xs[i]'(by omega)) → o'.wp C.P a w (Lift M bm pr w n fun ρ' σ' => (∀ t, get ρ' t = get (runsS (steps l xs 0 fun j => j == i || S j) ρ) t) ∧ σ' = if S p.iN = true then σ2 else σ) (LiftX M bm pr w n fun _ _ _ => False) := fun hc =>
    done _ (fun _ _ _ => False) (fun ρ' σ' ⟨e1, e2⟩ => ⟨fun t => by rw [e1]; exact (hnext t).symm, e2⟩) (runO_sound (hG.mono hl) h hoo (calm_run hc))
  unfold Loc at hL2
  split at hL2
  · rename_i hg
    rw [if_pos (hwant hg)]
    exact exec hL2
  · rename_i t want hg
    rw [hg] at hgd
    split at hgd
    · rename_i e _; cases e
    · rename_i t' b' j b'' e hg2
      cases e
      simp only [Bool.and_eq_true, beq_iff_eq] at hgd
      obtain ⟨rfl, hj⟩ := hgd
      split at hL2
      · rename_i b hb
        have hy := yield_sound h hb hj
        by_cases hbw : b = want
        · rw [if_pos (by simp [Region.wanted, hg2, hy, hbw])]
          exact exec (hL2.1 hbw)
        · rw [if_neg (by simp [Region.wanted, hg2, hy, hbw])]
          have hx := hL2.2 hbw
          refine (h.putd hdn rep_un (by simp)).congr fun t => ?_
          rw [hnext t, hx, hdst]
      · rename_i hb
        have hy := yield_un h hb hj
        rw [if_neg (by simp [Region.wanted, hg2, hy])]
        refine (h.putd hdn rep_un (by simp)).congr fun t => ?_
        rw [hnext t, hL2, hdst]
      · exact hL2.elim
    · cases hgd
end
end Go.Proofs.YtbhippphcmkjnaaGreatDoor

/-
  Regions that draw their order and store once, last of all: x.f = x.f + f(..). No program is in sight here.
-/
set_option linter.unusedVariables false
set_option linter.unusedSimpArgs false
namespace Go.Proofs.YtbhippphcmkjnaaGreatDoor
open Go.RowKit

def OP.specialS : OP → Bool
  | .sto _ _ _ => true
  | _ => false

section
variable {C : Cx} {pr : Nat → Prop} {ρ : Slots} {n : Nat} {Q : AEx → Slots → List (List V) → Prop}
def LocS (C : Cx) (σf : List (List V)) (σ : List (List V)) (o : O) (ρ : Slots) (x : V) : Prop :=
  match o.op with
  | .sto kk y z => o.g = none ∧ ∃ i off cs, ev C ρ y = .ptr i off ∧ σ[i]? = some cs ∧ ((ev C ρ z).boxable = true ∧ (ev C ρ z).cells.length = kk ∧ off + kk ≤ cs.length) ∧ σf = σ.set i (over cs off (ev C ρ z).cells)
  | _ => Loc C o ρ σ x

/-- The region: what its calm operations yield, and the boxes in the end. -/
def awpS (C : Cx) (σ : List (List V)) : List O → Slots → Option (List (List V)) → (Slots → List (List V) → Prop) → Prop
  | [], ρ, acc, K => match acc with | some σf => K ρ σf | none => False
  | o :: r, ρ, acc, K => match o.op with
    | .sto kk y z => o.g = none ∧ o.dst = none ∧ match acc, ev C ρ y with
      | none, .ptr i off => match σ[i]? with
        | some cs => ((ev C ρ z).boxable = true ∧ (ev C ρ z).cells.length = kk ∧ off + kk ≤ cs.length) ∧ awpS C σ r ρ (some (σ.set i (over cs off (ev C ρ z).cells))) K
        | none => False
      | _, _ => False
    | op => match o.g with
      | none => calmO C op ρ σ fun v => awpS C σ r (putd ρ o.dst v) acc K
      | some (t, want) => match get ρ t with
        | .d (.lit (.bool b)) => (b = want → calmO C op (put ρ t (.d (.lit (.bool want)))) σ fun v => awpS C σ r (putd (put ρ t (.d (.lit (.bool want)))) o.dst v) acc K) ∧ (b ≠ want → awpS C σ r (putd (put ρ t (.d (.lit (.bool (!want))))) o.dst (.tup [])) acc K)
        | .tup [] => awpS C σ r (putd ρ o.dst (.tup [])) acc K
        | _ => False

theorem awpS_chain {σ : List (List V)} : ∀ {l : List O} {ρ : Slots} {acc : Option (List (List V))} {K : Slots → List (List V) → Prop}, awpS C σ l ρ acc K →
    ∃ σf, (∀ r, acc = some r → r = σf) ∧ chain (LocS C σf σ) l ρ fun ρ' => K ρ' σf
  | [], ρ, acc, K, h => by
    cases acc with
    | none => exact h.elim
    | some r => exact ⟨r, fun r' e => by cases e; rfl, h⟩
  | o :: r, ρ, acc, K, h => by
    have know : ∀ {t : Nat} {b c : Bool}, get ρ t = .d (.lit (.bool b)) → b = c → ∀ s, get (put ρ t (.d (.lit (.bool c)))) s = get ρ s := fun hb hc s => by
      rw [get_put]
      split
      · rename_i e; subst e; subst hc; exact hb.symm
      · rfl
    have other : o.op.specialS = false → (match o.g with
      | none => calmO C o.op ρ σ fun v => awpS C σ r (putd ρ o.dst v) acc K
      | some (t, want) => match get ρ t with
        | .d (.lit (.bool b)) => (b = want → calmO C o.op (put ρ t (.d (.lit (.bool want)))) σ fun v => awpS C σ r (putd (put ρ t (.d (.lit (.bool want)))) o.dst v) acc K) ∧ (b ≠ want → awpS C σ r (putd (put ρ t (.d (.lit (.bool (!want))))) o.dst (.tup [])) acc K)
        | .tup [] => awpS C σ r (putd ρ o.dst (.tup [])) acc K
        | _ => False) → ∃ σf, (∀ r, acc = some r → r = σf) ∧ chain (LocS C σf σ) (o :: r) ρ fun ρ' => K ρ' σf := by
      intro hs h
      have fin : ∀ x ρ2, (∀ t, get ρ2 t = get ρ t) → Loc C o ρ σ x → awpS C σ r (putd ρ2 o.dst x) acc K → ∃ σf, (∀ r, acc = some r → r = σf) ∧ chain (LocS C σf σ) (o :: r) ρ fun ρ' => K ρ' σf := by
        intro x ρ2 h1 h2 h4
        obtain ⟨rows2, h5, h6⟩ := awpS_chain h4
        refine ⟨rows2, h5, x, ρ2, h1, ?_, h6⟩
        unfold LocS
        split <;> first | exact h2 | (rename_i e; rw [e] at hs; cases hs)
      split at h
      · rename_i hg
        obtain ⟨v, h1, h2⟩ := calmO_split h
        exact fin v ρ (fun _ => rfl) (by unfold Loc; rw [hg]; exact h1) h2
      · rename_i t want hg
        split at h
        · rename_i b hb
          by_cases e : b = want
          · obtain ⟨v, h1, h2⟩ := calmO_split (h.1 e)
            exact fin v _ (know hb e) (by unfold Loc; rw [hg]; simp only; rw [hb]; exact ⟨fun _ => calmO_congr (fun s _ => know hb e s) h1, fun ne => absurd e ne⟩) h2
          · exact fin (.tup []) _ (know hb (c := !want) (by cases b <;> cases want <;> simp_all)) (by unfold Loc; rw [hg]; simp only; rw [hb]; exact ⟨(fun ee => absurd ee e), (fun _ => by trivial)⟩) (h.2 e)
        · rename_i hb
          exact fin (.tup []) ρ (fun _ => rfl) (by unfold Loc; rw [hg]; simp only; rw [hb]; trivial) h
        · exact h.elim
    unfold awpS at h
    split at h
    · rename_i kk y z ho
      obtain ⟨h1, h2, h3⟩ := h
      split at h3
      · rename_i i off he
        split at h3
        · rename_i cs hcs
          obtain ⟨h5, h6⟩ := h3
          obtain ⟨σf, h7, h8⟩ := awpS_chain h6
          have := h7 _ rfl
          subst this
          exact ⟨_, (fun r e => by cases e), .junk, ρ, fun _ => rfl, by unfold LocS; rw [ho]; exact ⟨h1, i, off, cs, he, hcs, h5, rfl⟩, by rw [h2]; exact h8⟩
        · exact h3.elim
      · exact h3.elim
    · rename_i n2
      refine other ?_ h
      cases ho : o.op <;> first | rfl | exact absurd ho (n2 _ _ _)

/-! ### What is looked at once and for all -/
def checkS (iS : Nat) (l : List O) (os : List Oper) : Bool :=
  let bf := beforeL os []
  ((List.range os.length).all fun i => match os[i]? with | some o => (edgesOf o).all fun j => decide (j < i) | none => true) &&
  (((List.range l.length).all fun i => match l[i]? with
    | some o => ((o.looksN ++ o.dst.toList).all fun t => (List.range l.length).all fun j => j == i || (match l[j]? with
        | some q => q.dst != some t || (if j < i then (bf.getD i []).contains j else (bf.getD j []).contains i)
        | none => true)) &&
      ((o.op.specialS == (i == iS)) && (i == iS || (bf.getD iS []).contains i))
    | none => true) &&
  ((l[iS]?).any isSN))
def drawSOK (l : List O) (os : List Oper) : Bool := match idxOf (fun op => match op with | .sto _ _ _ => true | _ => false) l 0 with
  | some p => checkS p l os
  | none => false

structure OKS (iS : Nat) (l : List O) (os : List Oper) : Prop where
  lt : ∀ (i : Nat) (o : Oper), os[i]? = some o → ∀ j ∈ edgesOf o, j < i
  cmp : ∀ (i : Nat) (o : O), l[i]? = some o → ∀ t ∈ o.looksN ++ o.dst.toList, ∀ (j : Nat) (q : O), l[j]? = some q → q.dst = some t → j ≠ i → (j < i ∧ j ∈ (beforeL os []).getD i []) ∨ (i < j ∧ i ∈ (beforeL os []).getD j [])
  spec : ∀ (i : Nat) (o : O), l[i]? = some o → (o.op.specialS = true ↔ i = iS)
  last : ∀ (i : Nat) (o : O), l[i]? = some o → i ≠ iS → i ∈ (beforeL os []).getD iS []
  opS : ∃ kk y z, l[iS]? = some ⟨none, .sto kk y z, none⟩
theorem checkS_ok {iS : Nat} {l : List O} {os : List Oper} (hl : l.length = os.length) (h : checkS iS l os = true) : OKS iS l os := by
  unfold checkS at h
  simp only [Bool.and_eq_true] at h
  obtain ⟨h1, h2, h5⟩ := h
  simp only [List.all_eq_true, List.mem_range] at h1 h2
  have one : ∀ (i : Nat) (o : O), l[i]? = some o → _ := fun i o ho => by
    have := h2 i (List.getElem?_eq_some_iff.1 ho).1
    rw [ho] at this
    simp only [Bool.and_eq_true] at this
    exact this
  refine ⟨fun i o ho j hj => ?_, fun i o ho t ht j q hp hd hne => ?_, fun i o ho => ?_, fun i o ho hne => ?_, ?_⟩
  · have := h1 i (List.getElem?_eq_some_iff.1 ho).1
    rw [ho] at this
    simpa using List.all_eq_true.1 this j hj
  · have h1 := (one i o ho).1
    simp only [List.all_eq_true, List.mem_range] at h1
    have h2 := h1 t ht j (List.getElem?_eq_some_iff.1 hp).1
    rw [hp] at h2
    simp only [hd, Bool.or_eq_true, beq_iff_eq, bne_self_eq_false, Bool.false_eq_true, false_or] at h2
    rcases h2 with h2 | h2
    · exact absurd h2 hne
    · split at h2
      · exact .inl ⟨by assumption, by simpa using h2⟩
      · exact .inr ⟨by omega, by simpa using h2⟩
  · have := (one i o ho).2.1
    rw [beq_iff_eq] at this
    rw [this]
    simp
  · have := (one i o ho).2.2
    simpa [hne] using this
  · cases ho : l[iS]? with
    | none => rw [ho] at h5; cases h5
    | some o =>
    rw [ho] at h5
    have hp : isSN o = true := h5
    clear h5
    unfold isSN at hp
    split at hp
    · exact ⟨_, _, _, rfl⟩
    · cases hp

theorem draws_sound {M0 : Facts} {bm0 : List Nat} {w0 : World} (hG : C.glob M0 pr w0) {id : Nat} {ops : Array Oper} {l : List O} {M : Facts} {bm : List Nat} {tk : Toks} {σ : List (List V)} {a : Act} {w : World} (hok : okOs C.tab n ops l ops.toList = true) (hdr : drawSOK l ops.toList = true)
    (hl : Later M0 bm0 pr w0 M bm w) (h : SRel M bm tk pr ρ σ n a w)
    (hq : awpS C σ l ρ none fun ρ' σf => Q .normal ρ' σf) :
    (Code.region id ops true).wp C.P (LiftX M0 bm0 pr w0 n Q) a w := by
  obtain ⟨hlen, hget⟩ := okOs_get hok
  unfold drawSOK at hdr
  split at hdr
  case h_2 => cases hdr
  rename_i p _
  have D := checkS_ok hlen hdr
  obtain ⟨σf, -, hch⟩ := awpS_chain hq
  obtain ⟨xs, hxl, ⟨ρf, hρf, hρe⟩, hloc⟩ := chain_ex (k := 0) hch
  have hnl : l.length = ops.size := by rw [hlen]; simp
  have hsteps : ∀ S : Nat → Bool, (steps l xs 0 S).length = l.length := fun S => steps_len l xs 0 S hxl
  have hsg : ∀ (S : Nat → Bool) (i : Nat) (hi : i < (steps l xs 0 S).length) (h1 : i < l.length), (steps l xs 0 S)[i] = (l[i].dst, xs[i]'(by omega), S i) := fun S i hi h1 => by
    have := steps_get l xs 0 S i hi h1 (by omega)
    simpa using this
  obtain ⟨kS, yS, zS, hoS⟩ := D.opS
  have iSl : p < l.length := (List.getElem?_eq_some_iff.1 hoS).1
  have eS : l[p] = ⟨none, .sto kS yS zS, none⟩ := (List.getElem?_eq_some_iff.1 hoS).2
  -- the slots when some are done
  have base : ∀ S S', (∀ j, j < l.length → S j = S' j) → ∀ t, get (runsS (steps l xs 0 S) ρ) t = get (runsS (steps l xs 0 S') ρ) t := fun S S' hS t => by
    refine runsS_congr _ _ ρ t (by rw [hsteps, hsteps]) (fun i g1 g2 => ?_)
    rw [hsteps] at g1
    rw [hsg _ i (by rw [hsteps]; exact g1) g1, hsg _ i (by rw [hsteps]; exact g1) g1]
    exact ⟨rfl, rfl, fun _ => hS i g1⟩
  refine draw_gen (M := M) (bm := bm) (tk := tk) (fun S => runsS (steps l xs 0 S) ρ) (fun S => if S p then σf else σ) ρf σf D.lt (fun S S' hS => ?_) hl ?_ ⟨fun t => ?_, ?_⟩ hρf ?_
  · have e3 := hS p (by omega)
    exact ⟨base S S' fun j hj => hS j (by omega), by rw [e3]⟩
  · have : ∀ t, get (runsS (steps l xs 0 fun _ => false) ρ) t = get ρ t := fun t => by
      rw [runsS_none]
      intro q hq _
      obtain ⟨j, hj, rfl⟩ := List.getElem_of_mem hq
      rw [hsteps] at hj
      rw [hsg _ j (by rw [hsteps]; exact hj) hj]
    simp only [Bool.false_eq_true, if_false]
    exact h.congr this
  · rw [hρe t]
  · simp only [if_true]
  -- one step
  intro S i o' ho' hSi hclo hedge M bm tk a w hl h
  have hi1 : i < ops.toList.length := (List.getElem?_eq_some_iff.1 ho').1
  have hi2 : i < l.length := by omega
  have hlo : l[i]? = some l[i] := List.getElem?_eq_getElem hi2
  have hbef : ∀ j ∈ (beforeL ops.toList []).getD i [], S j = true := before_closed D.lt (S := fun j => S j = true) hclo i o' ho' hedge
  have hbefj : ∀ q, q < l.length → S q = true → ∀ j ∈ (beforeL ops.toList []).getD q [], S j = true := fun q hq hSq => by
    have hq2 : ops.toList[q]? = some ops.toList[q] := List.getElem?_eq_getElem (by omega)
    exact before_closed D.lt (S := fun j => S j = true) hclo q _ hq2 (hclo q _ hq2 hSq)
  have hsame : ∀ t ∈ l[i].looksN ++ l[i].dst.toList, ∀ j (hj : j < l.length), j ≠ i → l[j].dst = some t → (S j = decide (j < i)) := by
    intro t ht j hj hne hd
    rcases D.cmp i l[i] hlo t ht j l[j] (List.getElem?_eq_getElem hj) hd hne with ⟨g1, g2⟩ | ⟨g1, g2⟩
    · rw [hbef j g2]; simp [g1]
    · have : ¬ S j = true := fun hjl => by
        have := hbefj j hj hjl i g2
        rw [hSi] at this; cases this
      have e : S j = false := by simpa using this
      rw [e]; simp; omega
  obtain ⟨ρi, hL, hρi⟩ := hloc i hi2 (by omega)
  have hgetL : ∀ t ∈ l[i].looksN, get ρi t = get (runsS (steps l xs 0 S) ρ) t := by
    intro t ht
    rw [hρi t]
    refine runsS_congr _ _ ρ t (by rw [hsteps, hsteps]) (fun j g1 g2 => ?_)
    rw [hsteps] at g1
    rw [hsg _ j (by rw [hsteps]; exact g1) g1, hsg _ j (by rw [hsteps]; exact g1) g1]
    refine ⟨rfl, rfl, fun hd => ?_⟩
    simp only [Nat.zero_add]
    by_cases e : j = i
    · subst e; rw [hSi]; simp
    · exact (hsame t (by simp [ht]) j g1 e hd).symm
  have hnext : ∀ t, get (runsS (steps l xs 0 fun j => j == i || S j) ρ) t = get (Go.Proofs.YtbhippphcmkjnaaGreatDoor.putd (runsS (steps l xs 0 S) ρ) l[i].dst (xs[i]'(by omega))) t := by
    intro t
    rw [get_putd]
    split
    · rename_i e
      have := runsS_last (steps l xs 0 fun j => j == i || S j) ρ i (by rw [hsteps]; exact hi2) t (by rw [hsg _ i _ hi2]; exact e) (by rw [hsg _ i _ hi2]; simp) (fun j hj hij hd => by
        rw [hsteps] at hj
        rw [hsg _ j _ hj] at hd ⊢
        simp only at hd ⊢
        rw [hsame t (by simp [e]) j hj (by omega) hd]
        simp; omega)
      rw [this, hsg _ i _ hi2]
    · rename_i e
      refine runsS_congr _ _ ρ t (by rw [hsteps, hsteps]) (fun j g1 g2 => ?_)
      rw [hsteps] at g1
      rw [hsg _ j (by rw [hsteps]; exact g1) g1, hsg _ j (by rw [hsteps]; exact g1) g1]
      refine ⟨rfl, rfl, fun hd => ?_⟩
      simp only at hd ⊢
      have hne : j ≠ i := fun ee => by subst ee; exact e hd
      simp [hne]
  have hoo := hget i l[i] o' hlo ho'
  have hdst : l[i].dst = o'.dst := by
    have := hoo
    unfold okO at this
    simp only [Bool.and_eq_true, beq_iff_eq] at this
    exact this.1.1.2
  have hdn : ∀ d, o'.dst = some d → d < n := by
    have := hoo
    unfold okO at this
    simp only [Bool.and_eq_true] at this
    intro d hd
    have := this.1.2
    rw [hd] at this
    simpa using this
  have hgd := hoo
  unfold okO at hgd
  simp only [Bool.and_eq_true] at hgd
  replace hgd := hgd.2
  have hwant : l[i].g = none → Region.wanted o' (yielded ops a.tmps) = true := fun hg => by
    rw [hg] at hgd
    split at hgd
    · rename_i hg2; simp [Region.wanted, hg2]
    · rename_i e _; cases e
    · cases hgd
  have done : ∀ (K : Slots → List (List V) → Prop) (R : AEx → Slots → List (List V) → Prop), (∀ ρ' σ', K ρ' σ' → (∀ t, get ρ' t = get (runsS (steps l xs 0 fun j => j == i || S j) ρ) t) ∧ σ' = if (p == i || S p) = true then σf else σ) →
      o'.wp C.P a w (Lift M bm pr w n K) (LiftX M bm pr w n fun _ _ _ => False) → o'.wp C.P a w (Lift M bm pr w n fun ρ' σ' => (∀ t, get ρ' t = get (runsS (steps l xs 0 fun j => j == i || S j) ρ) t) ∧ σ' = if (p == i || S p) = true then σf else σ) (LiftX M bm pr w n fun _ _ _ => False) := fun K R hK hw =>
    Oper.wp_mono2 (fun a' w' ⟨M', bm', tk', ρ', σ', e1, k2, k3⟩ => ⟨M', bm', tk', ρ', σ', hK _ _ e1, k2, k3⟩) (fun e a' w' hh => hh) hw
  by_cases hS : i = p
  · subst hS
    simp only [hSi, Bool.false_eq_true, if_false] at h
    unfold LocS at hL
    rw [eS] at hL hgetL hnext
    obtain ⟨-, i0, off, cs, hL1, hcs, hL2, hL3⟩ := hL
    have evy : ev C (runsS (steps l xs 0 S) ρ) yS = .ptr i0 off := by
      rw [← hL1]; exact (ev_congr fun t ht => hgetL t (by simp [O.looksN, OP.slotsN, ht])).symm
    have evz : ev C (runsS (steps l xs 0 S) ρ) zS = ev C ρi zS := (ev_congr fun t ht => hgetL t (by simp [O.looksN, OP.slotsN, ht])).symm
    rw [if_pos (hwant (by rw [eS]))]
    refine done (fun ρ' σ' => ρ' = runsS (steps l xs 0 S) ρ ∧ σ' = σf) (fun _ _ _ => False) (fun ρ' σ' ⟨e1, e2⟩ => ?_) (runO_sound (hG.mono hl) h hoo ?_)
    · subst e1; subst e2
      refine ⟨fun t => ?_, by simp⟩
      rw [hnext t]; rfl
    · rw [eS]
      simp only [runO, evy, evz, hcs]
      exact ⟨hL2, trivial, hL3.symm⟩
  have hSS : S p = false := by
    have : ¬ S p = true := fun hh => by
      have := hbefj p iSl hh i (D.last i l[i] hlo hS)
      rw [hSi] at this; cases this
    simpa using this
  have hSi' : (p == i) = false := by simpa using Ne.symm hS
  -- a calm operation
  have hns : l[i].op.specialS = false := by
    have := D.spec i l[i] hlo
    cases hsp : l[i].op.specialS with
    | false => rfl
    | true => exact absurd (this.1 hsp) hS
  have hLL2 : Loc C l[i] ρi σ (xs[i]'(by omega)) := by
    unfold LocS at hL
    split at hL
    · rename_i e; rw [e] at hns; cases hns
    · exact hL
  have hlk : l[i].looks = l[i].looksN := by
    unfold O.looks O.looksN
    have : l[i].op.slots = l[i].op.slotsN := by
      cases ho : l[i].op <;> first | rfl | (rw [ho] at hns; cases hns)
    rw [this]
    all_goals rfl
  have hL2 : Loc C l[i] (runsS (steps l xs 0 S) ρ) σ (xs[i]'(by omega)) := hLL2.congr fun t ht => by
    rw [hlk] at ht
    exact hgetL t ht
  simp only [hSS, hSi', Bool.or_self, Bool.false_eq_true, if_false] at h done ⊢
  have exec : calmO C l[i].op (runsS (steps l xs 0 S) ρ) σ (fun v => v = xs[i]'(by omega)) → o'.wp C.P a w (Lift M bm pr w n fun ρ' σ' => (∀ t, get ρ' t = get (runsS (steps l xs 0 fun j => j == i || S j) ρ) t) ∧ σ' = σ) (LiftX M bm pr w n fun _ _ _ => False) := fun hc =>
    done _ (fun _ _ _ => False) (fun ρ' σ' ⟨e1, e2⟩ => ⟨fun t => by rw [e1]; exact (hnext t).symm, e2⟩) (runO_sound (hG.mono hl) h hoo (calm_run hc))
  unfold Loc at hL2
  split at hL2
  · rename_i hg
    rw [if_pos (hwant hg)]
    exact exec hL2
  · rename_i t want hg
    rw [hg] at hgd
    split at hgd
    · rename_i e _; cases e
    · rename_i t' b' j b'' e hg2
      cases e
      simp only [Bool.and_eq_true, beq_iff_eq] at hgd
      obtain ⟨rfl, hj⟩ := hgd
      split at hL2
      · rename_i b hb
        have hy := yield_sound h hb hj
        by_cases hbw : b = want
        · rw [if_pos (by simp [Region.wanted, hg2, hy, hbw])]
          exact exec (hL2.1 hbw)
        · rw [if_neg (by simp [Region.wanted, hg2, hy, hbw])]
          have hx := hL2.2 hbw
          refine (h.putd hdn rep_un (by simp)).congr fun t => ?_
          rw [hnext t, hx, hdst]
      · rename_i hb
        have hy := yield_un h hb hj
        rw [if_neg (by simp [Region.wanted, hg2, hy])]
        refine (h.putd hdn rep_un (by simp)).congr fun t => ?_
        rw [hnext t, hL2, hdst]
      · exact hL2.elim
    · cases hgd
end
end Go.Proofs.YtbhippphcmkjnaaGreatDoor

/-
  Steps that run no code: the same memory, told of in another way; boxes that never turn again. No program is in sight here.
-/
set_option linter.unusedVariables false
set_option linter.unusedSimpArgs false
namespace Go.Proofs.YtbhippphcmkjnaaGreatDoor
open Go.RowKit

/-- The same memory, told of in another way. -/
def Shift (n0 : Nat) (ρ : Slots) (σ : List (List V)) (ρ' : Slots) (σ' : List (List V)) : Prop :=
  ∀ (M : Facts) (bm : List Nat) (tk : Toks) (pr : Nat → Prop) (n : Nat) (a : Act) (w : World), SRel M bm tk pr ρ σ n a w →
    ∃ M' bm', SRel M' bm' tk pr ρ' σ' n a w ∧ ∀ M0 bm0 w0, bm0.length = n0 → Later M0 bm0 pr w0 M bm w → Later M0 bm0 pr w0 M' bm' w
theorem Shift.refl (n0 : Nat) (ρ : Slots) (σ : List (List V)) : Shift n0 ρ σ ρ σ := fun M bm _ _ _ _ _ h => ⟨M, bm, h, fun _ _ _ _ h => h⟩
theorem Shift.trans {n0 : Nat} {ρ ρ' ρ'' : Slots} {σ σ' σ'' : List (List V)} (h : Shift n0 ρ σ ρ' σ') (k : Shift n0 ρ' σ' ρ'' σ'') : Shift n0 ρ σ ρ'' σ'' := fun M bm tk pr n a w hs => by
  obtain ⟨M1, b1, h1, h2⟩ := h M bm tk pr n a w hs
  obtain ⟨M2, b2, h3, h4⟩ := k M1 b1 tk pr n a w h1
  exact ⟨M2, b2, h3, fun M0 bm0 w0 e hl => h4 M0 bm0 w0 e (h2 M0 bm0 w0 e hl)⟩
theorem Shift.keep (n0 : Nat) (l : List Nat) (ρ : Slots) (σ : List (List V)) : Shift n0 ρ σ (keepOnly l ρ) σ := fun M bm _ _ _ _ _ h => ⟨M, bm, h.keep l, fun _ _ _ _ h => h⟩
theorem Shift.cut {n0 k : Nat} {ρ : Slots} {σ : List (List V)} (hk : n0 ≤ k) (h1 : boxesBelow k (σ.take k) = true) (h2 : slotsBelow k ρ = true) : Shift n0 ρ σ ρ (σ.take k) := fun M bm _ _ _ _ _ h =>
  ⟨M, bm.take k, h.drop h1 h2, fun _ _ _ e hl => hl.drop (by omega)⟩

/-- What a value becomes when the boxes from k on never turn again. -/
inductive FrzD (σ : List (List V)) (k : Nat) : V → D → Prop
  | d (x : D) : FrzD σ k (.d x) x
  | own (T kk : Nat) (rows : List (List D)) : FrzD σ k (.own T kk rows) (.sl rows)
  | nil : FrzD σ k .nil (.sl [])
  | bsl (i off n kk : Nat) (cs : List V) (rows : List (List D)) (hi : k ≤ i) (hc : σ[i]? = some cs) (hn : rows.length = n) (hk : ∀ r ∈ rows, r.length = kk) (hb : off + n * kk ≤ cs.length)
      (h : ∀ r j (hr : r < rows.length) (hj : j < rows[r].length), FrzD σ k (cs.getD (off + r * kk + j) .junk) rows[r][j]) : FrzD σ k (.bsl i off n kk) (.sl rows)
inductive FrzV (σ : List (List V)) (k : Nat) : V → V → Prop
  | same (x : V) (h : V.under k x = true) : FrzV σ k x x
  | d {x : V} {y : D} (h : FrzD σ k x y) : FrzV σ k x (.d y)
  | ptr (i off : Nat) (cs : List V) (ds : List D) (hi : k ≤ i) (hc : σ[i]? = some cs) (hl : ds.length = cs.length) (h : ∀ j (hj : j < ds.length), FrzD σ k (cs.getD j .junk) ds[j]) : FrzV σ k (.ptr i off) (.row ds off)
  | agg (cs cs' : List V) (hl : cs'.length = cs.length) (h : ∀ j (hj : j < cs.length) (hj' : j < cs'.length), FrzV σ k cs[j] cs'[j]) : FrzV σ k (.agg cs) (.agg cs')

def frzM (M : Facts) (bm : List Nat) (k : Nat) (w : World) : Facts := fun b o => if b ∈ bm.drop k then w.cell? ⟨b, o, none⟩ else M b o

section
variable {M : Facts} {bm : List Nat} {tk : Toks} {pr : Nat → Prop} {ρ : Slots} {σ : List (List V)} {n : Nat} {a : Act} {w : World} {k : Nat}
theorem frzM_le (h : Inv M bm σ tk pr w) : M.le (frzM M bm k w) := fun b o x hm => by
  unfold frzM
  split
  · rename_i hb
    rw [(h.free b (List.mem_of_mem_drop hb)).1 o] at hm
    cases hm
  · exact hm
theorem frzM_old {b : Nat} (hb : b ∉ bm.drop k) (o : Nat) : frzM M bm k w b o = M b o := if_neg hb
theorem mem_drop_of {i b : Nat} (hi : k ≤ i) (hb : bm[i]? = some b) : b ∈ bm.drop k := by
  have : (bm.drop k)[i - k]? = some b := by rw [List.getElem?_drop, show k + (i - k) = i by omega]; exact hb
  exact List.mem_of_getElem? this
theorem frz_cell (h : Inv M bm σ tk pr w) {i b : Nat} (hi : k ≤ i) (hb : bm[i]? = some b) {cs : List V} (hc : σ[i]? = some cs) {o : Nat} (ho : o < cs.length) :
    ∃ v, frzM M bm k w b o = some v ∧ Rep M bm (cs.getD o .junk) v := by
  obtain ⟨vs, T, h1, h2, h3⟩ := h.box i b cs hb hc
  refine ⟨vs[o], ?_, ?_⟩
  · unfold frzM
    rw [if_pos (mem_drop_of hi hb)]
    simp [World.cell?, h1, show o < vs.size by omega]
  · have := (h3 o ho (by omega)).1.rep
    rw [List.getD_eq_getElem?_getD, List.getElem?_eq_getElem ho, Option.getD_some]
    exact this
theorem frzD_sound (h : Inv M bm σ tk pr w) {x : V} {y : D} (hf : FrzD σ k x y) : ∀ {v : Value}, Rep M bm x v → DRep (frzM M bm k w) y v := by
  induction hf with
  | d x => intro v hr; cases hr with | d hr => exact hr.mono (frzM_le h)
  | own T kk rows => intro v hr; cases hr with | own hr => exact hr.mono (frzM_le h)
  | nil => intro v hr; cases hr; exact DRep.nil _
  | bsl i off n kk cs rows hi hc hn hk hb hh ih =>
    intro v hr
    cases hr with
    | @bsl _ _ _ _ b cap hbm hcap hm =>
    subst hn
    have hlt : ∀ r j, r < rows.length → j < kk → off + r * kk + j < cs.length := fun r j hr hj => by
      have : (r + 1) * kk ≤ rows.length * kk := Nat.mul_le_mul_right _ hr
      rw [Nat.add_mul, Nat.one_mul] at this
      omega
    refine .sl rows kk _ cap (fun r j => (frzM M bm k w b (off + r * kk + j)).getD .nilIface) hk (fun r j hr hj => ?_) (fun r hr => ⟨b, off, rfl, fun j hj => ?_⟩) hcap hm
    · obtain ⟨v, g1, g2⟩ := frz_cell h hi hbm hc (hlt r j hr (by rw [← hk _ (List.getElem_mem hr)]; exact hj))
      rw [g1, Option.getD_some]
      exact ih r j hr hj g2
    · obtain ⟨v, g1, g2⟩ := frz_cell h hi hbm hc (hlt r j hr hj)
      rw [g1, Option.getD_some]
theorem frzV_sound (h : Inv M bm σ tk pr w) {x y : V} (hf : FrzV σ k x y) : ∀ {v : Value}, Rep M bm x v → Rep (frzM M bm k w) (bm.take k) y v := by
  induction hf with
  | same x hu => intro v hr; exact (hr.drop hu).mono (frzM_le h) (fun _ _ h => h)
  | d hd => intro v hr; exact .d (frzD_sound h hd hr)
  | ptr i off cs ds hi hc hl hh =>
    intro v hr
    cases hr with
    | @ptr _ _ b hbm =>
    have : (⟨b, off, none⟩ : Addr) = ⟨b, 0 + off, none⟩ := by rw [Nat.zero_add]
    rw [this]
    refine .row (fun j => (frzM M bm k w b j).getD .nilIface) (fun j hj => ?_) (fun j hj => ?_)
    · obtain ⟨v, g1, g2⟩ := frz_cell h hi hbm hc (o := j) (by omega)
      rw [Nat.zero_add, g1, Option.getD_some]
    · obtain ⟨v, g1, g2⟩ := frz_cell h hi hbm hc (o := j) (by omega)
      rw [g1, Option.getD_some]
      exact frzD_sound h (hh j hj) g2
  | agg cs cs' hl hh ih =>
    intro v hr
    cases hr with
    | agg g1 g2 g3 => exact .agg (by omega) (fun j h1 h2 => ih j (by omega) h1 (g2 j (by omega) h2)) g3
theorem Owned.frz {T kk : Nat} {rows : List (List D)} {v : Value} {t : Option Nat} (h : Owned M w T kk rows v t) (ht : ∀ g, t = some g → g ∉ bm) : Owned (frzM M bm k w) w T kk rows v t :=
  h.keep fun g hg => ⟨rfl, fun o => frzM_old (fun hb => ht g hg (List.mem_of_mem_drop hb)) o⟩
theorem Inv.frz (h : Inv M bm σ tk pr w) (hb : boxesBelow k (σ.take k) = true) : Inv (frzM M bm k w) (bm.take k) (σ.take k) tk pr w := by
  have hd := h.drop hb
  have hnd : ∀ b, b ∈ bm.take k → b ∉ bm.drop k := fun b h1 h2 => by
    have := h.bmnd
    rw [← List.take_append_drop k bm, List.nodup_append] at this
    exact this.2.2 b h1 b h2 rfl
  refine ⟨fun b o x hm => ?_, hd.len, fun i b cs hi hc => ?_, fun b hb => ⟨fun o => ?_, (hd.free b hb).2⟩, hd.bmnd, hd.tok, hd.inj, hd.prlt⟩
  · unfold frzM at hm
    split at hm
    · exact hm
    · exact h.facts b o x hm
  · obtain ⟨vs, T, h1, h2, h3⟩ := hd.box i b cs hi hc
    refine ⟨vs, T, h1, h2, fun j g1 g2 => ⟨⟨(h3 j g1 g2).1.rep.mono (frzM_le h) (fun _ _ h => h), fun T kk rows e => ((h3 j g1 g2).1.own T kk rows e).frz fun g hg => (h.tok _ _ _ hg).2.1⟩, (h3 j g1 g2).2⟩⟩
  · rw [frzM_old (hnd b hb)]; exact (hd.free b hb).1 o
theorem Later.frz {M0 : Facts} {bm0 : List Nat} {w0 : World} (h : Inv M bm σ tk pr w) (hl : Later M0 bm0 pr w0 M bm w) (hk : bm0.length ≤ k) : Later M0 bm0 pr w0 (frzM M bm k w) (bm.take k) w := by
  have hd := hl.drop hk
  refine ⟨hd.le.trans (frzM_le h), hd.pre, hd.keep, fun b hb o => ?_, hd.os, hd.tape, hd.output, hd.size⟩
  rw [frzM_old (fun hm => (h.free b (List.mem_of_mem_drop hm)).2 hb)]
  exact hl.facts b hb o
theorem get_mem {t : Nat} : ∀ (ρ : Slots), get ρ t = .junk ∨ (t, get ρ t) ∈ ρ
  | [] => .inl rfl
  | (s, u) :: r => by
    simp only [get]
    split
    · rename_i e; subst e; exact .inr (by simp)
    · rcases get_mem r with h | h
      · exact .inl h
      · exact .inr (List.mem_cons_of_mem _ h)
/-- The boxes from k on never turn again: what leads to them is plain data now. -/
theorem Shift.frz {n0 k : Nat} {ρ ρ' : Slots} {σ : List (List V)} (hk : n0 ≤ k) (h1 : boxesBelow k (σ.take k) = true) (h2 : ∀ p, p ∈ ρ' → FrzV σ k (get ρ p.1) p.2) : Shift n0 ρ σ ρ' (σ.take k) := fun M bm tk pr n a w h =>
  ⟨frzM M bm k w, bm.take k, ⟨h.inv.frz h1, h.defers, h.size, fun t => by
    rcases get_mem (t := t) ρ' with e | e
    · rw [e]; exact CellOK.junk ..
    · have hf := h2 _ e
      have hs := h.slots t
      refine ⟨frzV_sound h.inv hf hs.rep, fun T kk rows eo => ?_⟩
      simp only at hf
      rw [eo] at hf
      generalize get ρ t = z at hf hs
      cases hf with
      | same _ _ => exact (hs.own T kk rows rfl).frz fun g hg => (h.inv.tok _ _ _ hg).2.1⟩, fun M0 bm0 w0 e hl => hl.frz h.inv (by omega)⟩
end
end Go.Proofs.YtbhippphcmkjnaaGreatDoor

/-
  Code in the plain world, and calls. No program is in sight here.
-/
set_option linter.unusedVariables false
set_option linter.unusedSimpArgs false
namespace Go.Proofs.YtbhippphcmkjnaaGreatDoor
open Go.RowKit

inductive Cd where
  | skip
  | ops (l : List O) (keep : List Nat)
  | draw (l : List O) (keep : List Nat)
  | drawa (l : List O) (keep : List Nat)
  | drawn (cs : List V) (l : List O) (keep : List Nat)
  | draws (l : List O) (keep : List Nat)
  | seq (a b : Cd)
  | cond (x : X) (a b : Cd)
  | block (id : Nat) (a : Cd)
  | loop (a : Cd)
  | exit (id : Nat)
  | ret

abbrev APost := AEx → Slots → List (List V) → Prop
def andThen (next : Slots → List (List V) → Prop) (Q : APost) : APost := fun e ρ σ => match e with
  | .normal => next ρ σ
  | e => Q e ρ σ
def inBlk (id : Nat) (Q : APost) : APost := fun e ρ σ => match e with
  | .exit j => if j = id then Q .normal ρ σ else Q (.exit j) ρ σ
  | e => Q e ρ σ
/-- The slots that count at a loop's head. -/
def keepS : Option (List Nat) → Slots → Slots
  | none, ρ => ρ
  | some l, ρ => keepOnly l ρ
theorem SRel.keepS {M : Facts} {bm : List Nat} {tk : Toks} {pr : Nat → Prop} {ρ : Slots} {σ : List (List V)} {n : Nat} {a : Act} {w : World} (h : SRel M bm tk pr ρ σ n a w) (l : Option (List Nat)) : SRel M bm tk pr (keepS l ρ) σ n a w := by
  cases l with
  | none => exact h
  | some l => exact h.keep l
/-- A nil slice in a variable may be grown from now on. -/
inductive Up : List (List V) → List (List V) → Prop
  | refl (σ : List (List V)) : Up σ σ
  | step {σ σ' : List (List V)} {i : Nat} {cs : List V} {off : Nat} (T : TypeId) (k : Nat) (h1 : σ[i]? = some cs) (h2 : cs[off]? = some .nil) (h : Up (σ.set i (cs.set off (.own T k []))) σ') : Up σ σ'
theorem SRel.nil_own {M : Facts} {bm : List Nat} {tk : Toks} {pr : Nat → Prop} {ρ : Slots} {σ : List (List V)} {n : Nat} {a : Act} {w : World} (h : SRel M bm tk pr ρ σ n a w) {i : Nat} {cs : List V} {off : Nat} (T : TypeId) (k : Nat) (h1 : σ[i]? = some cs) (h2 : cs[off]? = some .nil) : SRel M bm tk pr ρ (σ.set i (cs.set off (.own T k []))) n a w := by
  refine ⟨⟨h.inv.facts, by rw [List.length_set]; exact h.inv.len, fun i' b cs' hi hc => ?_, h.inv.free, h.inv.bmnd, h.inv.tok, h.inv.inj, h.inv.prlt⟩, h.defers, h.size, h.slots⟩
  by_cases e : i' = i
  · subst e
    obtain ⟨vs, T', g1, g2, g3⟩ := h.inv.box i' b cs hi h1
    have hl : i' < σ.length := (List.getElem?_eq_some_iff.1 h1).1
    rw [List.getElem?_set_self hl] at hc
    cases hc
    refine ⟨vs, T', g1, by rw [List.length_set]; exact g2, fun j hj hj' => ?_⟩
    have hj0 : j < cs.length := by simpa using hj
    obtain ⟨k1, k2⟩ := g3 j hj0 hj'
    by_cases e2 : j = off
    · subst e2
      have hn : cs[j] = .nil := (List.getElem?_eq_some_iff.1 h2).2
      rw [List.getElem_set_self]
      refine ⟨?_, k2⟩
      have hr := k1.rep
      rw [hn] at hr
      generalize vs[j] = v at hr ⊢
      cases hr
      exact ⟨.own (DRep.nil M), fun T2 k2 rows e => by cases e; exact .inl ⟨rfl, rfl⟩⟩
    · rw [List.getElem_set_ne (Ne.symm e2)]
      exact ⟨k1, k2⟩
  · rw [List.getElem?_set_ne (Ne.symm e)] at hc
    exact h.inv.box i' b cs' hi hc
theorem SRel.up {M : Facts} {bm : List Nat} {tk : Toks} {pr : Nat → Prop} {ρ : Slots} {σ σ' : List (List V)} {n : Nat} {a : Act} {w : World} (hu : Up σ σ') (h : SRel M bm tk pr ρ σ n a w) : SRel M bm tk pr ρ σ' n a w := by
  induction hu with
  | refl σ => exact h
  | step T k h1 h2 _ ih => exact ih (h.nil_own T k h1 h2)
theorem Shift.up (n0 : Nat) (ρ : Slots) {σ σ' : List (List V)} (hu : Up σ σ') : Shift n0 ρ σ ρ σ' := fun M bm _ _ _ _ _ h => ⟨M, bm, h.up hu, fun _ _ _ _ h => h⟩
/-- What must hold so that a piece of code ends as told; n0: the boxes that were there before the function began. -/
def awp (C : Cx) (n0 : Nat) : Cd → Slots → List (List V) → APost → Prop
  | .skip, ρ, σ, Q => Q .normal ρ σ
  | .ops l keep, ρ, σ, Q => awpOps C l ρ σ fun e ρ' σ' => Q e (keepOnly keep ρ') σ'
  | .draw l keep, ρ, σ, Q => awpCalm C l ρ σ fun ρ' => Q .normal (keepOnly keep ρ') σ
  | .drawa l keep, ρ, σ, Q => ∃ (c : Cell) (cs : List V), σ[c.i]? = some cs ∧ cs[c.off]? = some (.own c.T c.k c.rows) ∧
      awpA C c σ (σ.set c.i (cs.set c.off (.d (.sl c.rows)))) l ρ none fun ρ' rows2 => Q .normal (keepOnly keep ρ') ((σ.set c.i (cs.set c.off (.d (.sl c.rows)))).set c.i (over (cs.set c.off (.d (.sl c.rows))) c.off [.own c.T c.k (c.rows ++ rows2)]))
  | .drawn cs l keep, ρ, σ, Q => awpN C cs σ (σ ++ [cs]) l ρ none fun ρ' fin => Q .normal (keepOnly keep ρ') (σ ++ [fin])
  | .draws l keep, ρ, σ, Q => awpS C σ l ρ none fun ρ' σ' => Q .normal (keepOnly keep ρ') σ'
  | .seq a b, ρ, σ, Q => awp C n0 a ρ σ (andThen (fun ρ' σ' => awp C n0 b ρ' σ' Q) Q)
  | .cond x a b, ρ, σ, Q => match ev C ρ x with
    | .d (.lit (.bool t)) => (t = true → awp C n0 a ρ σ Q) ∧ (t = false → awp C n0 b ρ σ Q)
    | _ => False
  | .block id a, ρ, σ, Q => awp C n0 a ρ σ (inBlk id Q)
  | .loop a, ρ, σ, Q => ∃ (ρ1 : Slots) (σ1 : List (List V)), Shift n0 ρ σ ρ1 σ1 ∧ ∃ I : Nat → Slots → List (List V) → Prop, (∃ m, I m ρ1 σ1) ∧ ∀ m ρ' σ', I m ρ' σ' → awp C n0 a ρ' σ' (andThen (fun ρ'' σ'' => ∃ m', m' < m ∧ ∃ ρ3 σ3, Shift n0 ρ'' σ'' ρ3 σ3 ∧ I m' ρ3 σ3) Q)
  | .exit id, ρ, σ, Q => Q (.exit id) ρ σ
  | .ret, ρ, σ, Q => Q .ret ρ σ

def okC (tab : Tab) (n : Nat) : Cd → Code → Bool
  | .skip, .skip => true
  | .ops l _, .region _ ops false => okOs tab n ops l ops.toList
  | .draw l _, .region _ ops true => okOs tab n ops l ops.toList && drawOK l ops.toList
  | .drawa l _, .region _ ops true => okOs tab n ops l ops.toList && drawAOK l ops.toList
  | .draws l _, .region _ ops true => okOs tab n ops l ops.toList && drawSOK l ops.toList
  | .drawn _ l _, .region _ ops true => okOs tab n ops l ops.toList && drawNOK l ops.toList
  | .seq a b, .seq a' b' => okC tab n a a' && okC tab n b b'
  | .cond x a b, .cond x' a' b' => okX x x' && okC tab n a a' && okC tab n b b'
  | .block i a, .block i' a' => i == i' && okC tab n a a'
  | .loop a, .loop a' => okC tab n a a'
  | .exit i, .exit i' => i == i'
  | .ret, .ret => true
  | _, _ => false

section
variable {C : Cx} {n0 n : Nat} {pr : Nat → Prop} {M0 : Facts} {bm0 : List Nat} {w0 : World}
theorem LiftX.imp {M : Facts} {bm : List Nat} {w : World} {Q Q' : APost} {e : Exit} {a : Act} {w' : World} (hq : ∀ x ρ σ, Q x ρ σ → Q' x ρ σ) (h : LiftX M bm pr w n Q e a w') : LiftX M bm pr w n Q' e a w' := by
  obtain ⟨M', bm', tk', ρ', σ', x, h1, h2⟩ := h
  exact ⟨M', bm', tk', ρ', σ', x, hq _ _ _ h1, h2⟩
theorem LiftX.keep {M : Facts} {bm : List Nat} {w : World} {Q : APost} {l : List Nat} {e : Exit} {a : Act} {w' : World} (h : LiftX M bm pr w n (fun x ρ σ => Q x (keepOnly l ρ) σ) e a w') : LiftX M bm pr w n Q e a w' := by
  obtain ⟨M', bm', tk', ρ', σ', x, h1, h2, h3, h4⟩ := h
  exact ⟨M', bm', tk', _, σ', x, h1, h2, h3.keep l, h4⟩

theorem awp_sound (hG : C.glob M0 pr w0) (hn0 : bm0.length = n0) : ∀ {c : Cd} {c' : Code} {M : Facts} {bm : List Nat} {tk : Toks} {ρ : Slots} {σ : List (List V)} {a : Act} {w : World} {Q : APost}, okC C.tab n c c' = true → Later M0 bm0 pr w0 M bm w → SRel M bm tk pr ρ σ n a w →
    awp C n0 c ρ σ Q → c'.wp C.P (LiftX M0 bm0 pr w0 n Q) a w := by
  intro c
  induction c with
  | skip =>
    intro c' M bm tk ρ σ a w Q hok hl h hq
    cases c' <;> simp only [okC] at hok <;> first | (cases hok; done) | skip
    exact wp_skip ⟨M, bm, tk, ρ, σ, _, hq, .normal, h, hl⟩
  | ops l keep =>
    intro c' M bm tk ρ σ a w Q hok hl h hq
    cases c' with
    | region id ops draw =>
      cases draw with
      | false =>
        have hok : okOs C.tab n ops l ops.toList = true := hok
        exact wp_mono (wp_region_list (awpOps_sound hG hok hl h hq)) (fun e a w hL => LiftX.keep (l := keep) hL)
      | true => cases hok
    | _ => cases hok
  | draw l keep =>
    intro c' M bm tk ρ σ a w Q hok hl h hq
    cases c' with
    | region id ops draw =>
      cases draw with
      | true =>
        have hok : (okOs C.tab n ops l ops.toList && drawOK l ops.toList) = true := hok
        simp only [Bool.and_eq_true] at hok
        exact wp_mono (draw_sound (Q := fun x ρ σ => Q x (keepOnly keep ρ) σ) hG hok.1 hok.2 hl h hq) (fun e a w hL => LiftX.keep (l := keep) hL)
      | false => cases hok
    | _ => cases hok
  | drawa l keep =>
    intro c' M bm tk ρ σ a w Q hok hl h hq
    cases c' with
    | region id ops draw =>
      cases draw with
      | true =>
        have hok : (okOs C.tab n ops l ops.toList && drawAOK l ops.toList) = true := hok
        simp only [Bool.and_eq_true] at hok
        obtain ⟨c, cs, h1, h2, h3⟩ := hq
        exact wp_mono (drawa_sound (Q := fun x ρ σ => Q x (keepOnly keep ρ) σ) hG hok.1 hok.2 hl h h1 h2 h3) (fun e a w hL => LiftX.keep (l := keep) hL)
      | false => cases hok
    | _ => cases hok
  | drawn cs l keep =>
    intro c' M bm tk ρ σ a w Q hok hl h hq
    cases c' with
    | region id ops draw =>
      cases draw with
      | true =>
        have hok : (okOs C.tab n ops l ops.toList && drawNOK l ops.toList) = true := hok
        simp only [Bool.and_eq_true] at hok
        exact wp_mono (drawn_sound (Q := fun x ρ σ => Q x (keepOnly keep ρ) σ) hG hok.1 hok.2 hl h (cs := cs) hq) (fun e a w hL => LiftX.keep (l := keep) hL)
      | false => cases hok
    | _ => cases hok
  | draws l keep =>
    intro c' M bm tk ρ σ a w Q hok hl h hq
    cases c' with
    | region id ops draw =>
      cases draw with
      | true =>
        have hok : (okOs C.tab n ops l ops.toList && drawSOK l ops.toList) = true := hok
        simp only [Bool.and_eq_true] at hok
        exact wp_mono (draws_sound (Q := fun x ρ σ => Q x (keepOnly keep ρ) σ) hG hok.1 hok.2 hl h hq) (fun e a w hL => LiftX.keep (l := keep) hL)
      | false => cases hok
    | _ => cases hok
  | seq x y ihx ihy =>
    intro c' M bm tk ρ σ a w Q hok hl h hq
    cases c' <;> simp only [okC, Bool.and_eq_true] at hok <;> first | (cases hok; done) | skip
    refine wp_seq (wp_mono (ihx hok.1 hl h hq) (fun e a' w' hL => ?_))
    obtain ⟨M', bm', tk', ρ', σ', x, k1, k2, k3, k4⟩ := hL
    cases k2 with
    | normal => exact ihy hok.2 k4 k3 k1
    | ret => exact ⟨M', bm', tk', ρ', σ', _, k1, .ret, k3, k4⟩
    | exit id => exact ⟨M', bm', tk', ρ', σ', _, k1, .exit id, k3, k4⟩
    | panic hp => exact ⟨M', bm', tk', ρ', σ', _, k1, .panic hp, k3, k4⟩
  | cond x y z ihy ihz =>
    intro c' M bm tk ρ σ a w Q hok hl h hq
    cases c' <;> simp only [okC, Bool.and_eq_true] at hok <;> first | (cases hok; done) | skip
    have hx := okX_sound (hG.mono hl) h hok.1.1
    simp only [awp] at hq
    split at hq
    · rename_i t e
      rw [e] at hx
      have hv := hx.bool_inv
      cases t with
      | true => exact wp_cond_true hv (ihy hok.1.2 hl h (hq.1 rfl))
      | false => exact wp_cond_false hv (ihz hok.2 hl h (hq.2 rfl))
    · exact hq.elim
  | block id x ih =>
    intro c' M bm tk ρ σ a w Q hok hl h hq
    cases c' <;> simp only [okC, Bool.and_eq_true, beq_iff_eq] at hok <;> first | (cases hok; done) | skip
    obtain ⟨rfl, hok⟩ := hok
    refine wp_block (wp_mono (ih hok hl h hq) (fun e a' w' hL => ?_))
    obtain ⟨M', bm', tk', ρ', σ', x, k1, k2, k3, k4⟩ := hL
    cases k2 with
    | normal => exact ⟨M', bm', tk', ρ', σ', _, k1, .normal, k3, k4⟩
    | ret => exact ⟨M', bm', tk', ρ', σ', _, k1, .ret, k3, k4⟩
    | exit j =>
      simp only [inBlk] at k1
      simp only [Exit.inBlock]
      split
      · rename_i e; rw [if_pos e] at k1; exact ⟨M', bm', tk', ρ', σ', _, k1, .normal, k3, k4⟩
      · rename_i e; rw [if_neg e] at k1; exact ⟨M', bm', tk', ρ', σ', _, k1, .exit j, k3, k4⟩
    | panic hp => exact ⟨M', bm', tk', ρ', σ', _, k1, .panic hp, k3, k4⟩
  | loop x ih =>
    intro c' M bm tk ρ σ a w Q hok hl h hq
    cases c' <;> simp only [okC] at hok <;> first | (cases hok; done) | skip
    obtain ⟨ρ1, σ1, hsh, I, ⟨m, hm⟩, hI⟩ := hq
    obtain ⟨M1, bm1, h1, h2⟩ := hsh M bm tk pr n a w h
    have hl1 := h2 M0 bm0 w0 hn0 hl
    rename_i c'
    intro b k cs
    have key : ∀ (m : Nat) (M : Facts) (bm : List Nat) (tk : Toks) (ρ : Slots) (σ : List (List V)) (a : Act) (w : World), Later M0 bm0 pr w0 M bm w → SRel M bm tk pr ρ σ n a w → I m ρ σ →
        ∃ e a' w', LiftX M0 bm0 pr w0 n Q e a' w' ∧ Arrives C.P (lone (b.at a (.code c' :: .inLoop c' :: k)) cs w) b k cs e a' w' := by
      intro m
      induction m using Nat.strongRecOn with
      | _ m ihm =>
      intro M bm tk ρ σ a w hl h hm
      obtain ⟨e, a₁, w₁, hq, harr⟩ := ih hok hl h (hI m ρ σ hm) b (.inLoop c' :: k) cs
      obtain ⟨M', bm', tk', ρ', σ', x, k1, k2, k3, k4⟩ := hq
      cases k2 with
      | normal =>
        obtain ⟨m', hlt, ρ3, σ3, g1, g4⟩ := k1
        obtain ⟨M3, bm3, g2, g3⟩ := g1 M' bm' tk' pr n a₁ w₁ k3
        obtain ⟨e₂, a₂, w₂, hq₂, harr₂⟩ := ihm m' hlt M3 bm3 tk' ρ3 σ3 a₁ w₁ (g3 M0 bm0 w0 hn0 k4) g2 g4
        exact ⟨e₂, a₂, w₂, hq₂, .of_steps (Steps.trans harr (.one step_inLoop)) harr₂⟩
      | ret => exact ⟨_, a₁, w₁, ⟨M', bm', tk', ρ', σ', _, k1, .ret, k3, k4⟩, .pass (x := .inLoop c') rfl (fun _ _ => .inl (by simp)) harr⟩
      | exit id => exact ⟨_, a₁, w₁, ⟨M', bm', tk', ρ', σ', _, k1, .exit id, k3, k4⟩, .pass (x := .inLoop c') rfl (fun _ _ => .inl (by simp)) harr⟩
      | panic hp => exact ⟨_, a₁, w₁, ⟨M', bm', tk', ρ', σ', _, k1, .panic hp, k3, k4⟩, .pass (x := .inLoop c') rfl (fun _ _ => .inl (by simp)) harr⟩
    obtain ⟨e, a', w', hq, harr⟩ := key m M1 bm1 tk _ σ1 a w hl1 h1 hm
    exact ⟨e, a', w', hq, .of_steps (.one step_loop) harr⟩
  | exit id =>
    intro c' M bm tk ρ σ a w Q hok hl h hq
    cases c' <;> simp only [okC, beq_iff_eq] at hok <;> first | (cases hok; done) | skip
    subst hok
    exact wp_exit ⟨M, bm, tk, ρ, σ, _, hq, .exit id, h, hl⟩
  | ret =>
    intro c' M bm tk ρ σ a w Q hok hl h hq
    cases c' <;> simp only [okC] at hok <;> first | (cases hok; done) | skip
    exact wp_ret ⟨M, bm, tk, ρ, σ, _, hq, .ret, h, hl⟩
end
end Go.Proofs.YtbhippphcmkjnaaGreatDoor

/-
  Functions in the plain world. No program is in sight here.
-/
set_option linter.unusedVariables false
set_option linter.unusedSimpArgs false
namespace Go.Proofs.YtbhippphcmkjnaaGreatDoor
open Go.RowKit

/-- Within the bounds that memory sets. -/
inductive D.Wf : D → Prop
  | lit (v : Value) (h : Fits v) : D.Wf (.lit v)
  | sl (rows : List (List D)) (hl : rows.length ≤ maxLen) (h : ∀ i j (hi : i < rows.length) (hj : j < rows[i].length), D.Wf rows[i][j]) : D.Wf (.sl rows)
theorem DRep.wf {M : Facts} {x : D} {v : Value} (h : DRep M x v) : x.Wf := by
  induction h with
  | lit v h => exact .lit v h
  | sl rows k p cap val hk hd hf hc hm ih => exact .sl rows (by omega) ih
inductive V.Wf : V → Prop
  | d {x : D} (h : x.Wf) : V.Wf (.d x)
  | own {T k : Nat} {rows : List (List D)} (h : (D.sl rows).Wf) : V.Wf (.own T k rows)
  | agg {cs : List V} (h : ∀ i (h : i < cs.length), V.Wf cs[i]) : V.Wf (.agg cs)
  | nil : V.Wf .nil
  | tup (cs : List V) : V.Wf (.tup cs)
  | ptr (i o : Nat) : V.Wf (.ptr i o)
  | bsl (i o n k : Nat) : V.Wf (.bsl i o n k)
  | row (cs : List D) (o : Nat) : V.Wf (.row cs o)
  | fn (f : FuncId) (cs : List V) : V.Wf (.fn f cs)
  | iface (t : TypeId) (v : V) : V.Wf (.iface t v)
  | junk : V.Wf .junk
theorem Rep.wf {M : Facts} {bm : List Nat} {x : V} {v : Value} (h : Rep M bm x v) : x.Wf := by
  induction h with
  | d h => exact .d h.wf
  | own h => exact .own h.wf
  | nil => exact .nil
  | agg hl h h1 ih => exact .agg fun i hi => ih i hi (by omega)
  | tup hl h ih => exact .tup _
  | ptr h => exact .ptr _ _
  | bsl h hc hm => exact .bsl _ _ _ _
  | row val hf hd => exact .row _ _
  | fn hl h ih => exact .fn _ _
  | iface h ih => exact .iface _ _
  | junk v => exact .junk

/-- A result: a slot (with the right to grow it, or without), or a variable in a box. -/
inductive RV where
  | t (n : Nat) (own : Bool)
  | c (n k : Nat) (ag : Bool)
def res1 (σ : List (List V)) (ρ : Slots) : RV → Option V
  | .t n true => some (get ρ n)
  | .t n false => some (get ρ n).lend
  | .c n k ag => (loadV σ k ag (get ρ n)).map V.lend
def resL (σ : List (List V)) (ρ : Slots) : List RV → Option (List V)
  | [] => some []
  | r :: rs => match res1 σ ρ r, resL σ ρ rs with | some v, some l => some (v.lend :: l) | _, _ => none
def resV (σ : List (List V)) (ρ : Slots) : List RV → Option V
  | [r] => res1 σ ρ r
  | rs => (resL σ ρ rs).map V.tup
def okRV (tab : Tab) : RV → ResultVar → Bool
  | .t n _, .tmp m => n == m
  | .c n k ag, .cell m t => n == m && (match tab t with | some i => i.sz == k && i.agg == ag | none => false)
  | _, _ => false
def okRVs (tab : Tab) : List RV → List ResultVar → Bool
  | [], [] => true
  | r :: rs, r' :: rs' => okRV tab r r' && okRVs tab rs rs'
  | _, _ => false
/-- A function of the plain world is the program's. -/
def okFn (tab : Tab) (fn : Func) (m : Nat) (c : Cd) (rs : List RV) : Bool :=
  (match fn.body with | some b => okC tab fn.ntmps c b | none => false) && okRVs tab rs fn.results.toList && decide (m ≤ fn.ntmps) && !(fn.name == "runtime.NumGoroutine")
def fin (n0 : Nat) (rs : List RV) (Q : Out → List (List V) → Prop) : APost := fun e ρ σ' => match e with
  | .normal => ∃ ρ2 σ2, Shift n0 ρ σ' ρ2 σ2 ∧ ∃ v, resV σ2 ρ2 rs = some v ∧ ∃ k, n0 ≤ k ∧ boxesBelow k (σ2.take k) = true ∧ V.under k v = true ∧ Q (.ret v) (σ2.take k)
  | .ret => ∃ ρ2 σ2, Shift n0 ρ σ' ρ2 σ2 ∧ ∃ v, resV σ2 ρ2 rs = some v ∧ ∃ k, n0 ≤ k ∧ boxesBelow k (σ2.take k) = true ∧ V.under k v = true ∧ Q (.ret v) (σ2.take k)
  | .panic v => ∃ k, n0 ≤ k ∧ boxesBelow k (σ'.take k) = true ∧ V.under k v = true ∧ Q (.panic v) (σ'.take k)
  | .exit _ => False
def slots0 : Nat → List V → Slots
  | _, [] => []
  | i, v :: r => (i, v) :: slots0 (i + 1) r
def V.isOwn : V → Bool
  | .own _ _ _ => true
  | _ => false

def resS (tmps : Array Value) : ResultVar → Sem Value
  | .tmp t => pure (tmps.getD t undef)
  | .cell a t => do loadVar t (← asAddr (tmps.getD a undef))
theorem results_eq (fn : Func) (tmps : Array Value) : results fn tmps = (do
    let vs ← fn.results.mapM (resS tmps)
    pure (if h : vs.size = 1 then vs[0] else .tuple vs)) := by
  unfold results
  congr 1

section
variable {C : Cx} {M : Facts} {bm : List Nat} {tk : Toks} {pr : Nat → Prop} {ρ : Slots} {σ : List (List V)} {n : Nat} {a : Act} {w : World}
theorem res1_sound (h : SRel M bm tk pr ρ σ n a w) {r : RV} {r' : ResultVar} (hok : okRV C.tab r r' = true) {x : V} (hx : res1 σ ρ r = some x) :
    ∃ v, (resS a.tmps r').run C.P w = .ok v w ∧ ∃ t, CellOK M bm w x v t ∧ (t = none ∨ ∃ s, t = tk none s) := by
  unfold okRV at hok
  split at hok
  · rename_i m own m'
    simp only [beq_iff_eq] at hok
    subst hok
    cases own with
    | true => cases hx; exact ⟨_, rfl, _, h.slots m, .inr ⟨m, rfl⟩⟩
    | false => cases hx; exact ⟨_, rfl, none, ⟨(h.slots m).rep.lend, fun _ _ _ e => absurd e V.lend_own⟩, .inl rfl⟩
  · rename_i m k ag m' t
    simp only [Bool.and_eq_true, beq_iff_eq] at hok
    obtain ⟨rfl, h2⟩ := hok
    split at h2
    · rename_i i hi
      simp only [Bool.and_eq_true, beq_iff_eq] at h2
      obtain ⟨rfl, rfl⟩ := h2
      obtain ⟨y, hy, rfl⟩ := Option.map_eq_some_iff.1 hx
      obtain ⟨v, h3, h4, h5⟩ := load_sound h.inv hi hy (h.slots m).rep
      refine ⟨v, ?_, none, ⟨h4.lend, fun _ _ _ e => absurd e V.lend_own⟩, .inl rfl⟩
      have hptr : ∃ ad, a.tmps.getD m undef = .pointer (some ad) := by
        have hr := (h.slots m).rep
        unfold loadV at hy
        obtain ⟨cs, hcs, -⟩ := Option.bind_eq_some_iff.1 hy
        obtain ⟨ad, vs, e, -⟩ := cells_sound h.inv hcs hr
        exact ⟨ad, e⟩
      obtain ⟨ad, e⟩ := hptr
      simp only [resS]
      rw [e] at h3 ⊢
      simpa [Instr.loadAt, Instr.sureAddr, asAddr] using h3
    · cases h2
  · cases hok
theorem resL_sound (h : SRel M bm tk pr ρ σ n a w) : ∀ {rs : List RV} {rs' : List ResultVar} {xs : List V}, okRVs C.tab rs rs' = true → resL σ ρ rs = some xs →
    ∃ vs : List Value, (rs'.mapM (resS a.tmps)).run C.P w = .ok vs w ∧ vs.length = xs.length ∧ rs'.length = xs.length ∧ ∀ i (h : i < xs.length) (h' : i < vs.length), Rep M bm xs[i] vs[i]
  | [], [], xs, _, hx => by cases hx; exact ⟨[], rfl, rfl, rfl, fun i h => by simp at h⟩
  | r :: rs, r' :: rs', xs, hok, hx => by
    simp only [okRVs, Bool.and_eq_true] at hok
    simp only [resL] at hx
    split at hx
    · rename_i v l hv hl
      cases hx
      obtain ⟨u, g1, t, g2, -⟩ := res1_sound h hok.1 hv
      obtain ⟨vs, k1, k2, k3, k4⟩ := resL_sound h hok.2 hl
      refine ⟨u :: vs, ?_, by simp [k2], by simp [k3], fun i h1 h2 => ?_⟩
      · rw [List.mapM_cons, Sem.run_bind, g1, Result.andThen_ok, Sem.run_bind, k1]; rfl
      · cases i with
        | zero => exact g2.rep.lend
        | succ i => exact k4 i (by simpa using h1) (by simpa using h2)
    · cases hx
  | [], _ :: _, _, hok, _ => by cases hok
  | _ :: _, [], _, hok, _ => by cases hok
theorem resV_sound (h : SRel M bm tk pr ρ σ n a w) {rs : List RV} {fn : Func} {x : V} (hok : okRVs C.tab rs fn.results.toList = true) (hx : resV σ ρ rs = some x) :
    ∃ v, (results fn a.tmps).run C.P w = .ok v w ∧ ∃ t, CellOK M bm w x v t ∧ (t = none ∨ ∃ s, t = tk none s) := by
  rw [results_eq, Array.mapM_eq_mapM_toList]
  unfold resV at hx
  split at hx
  · rename_i r
    match hrs : fn.results.toList, hok with
    | [r'], hok =>
      simp only [okRVs, Bool.and_true] at hok
      obtain ⟨v, g1, g2⟩ := res1_sound h hok hx
      refine ⟨v, ?_, g2⟩
      simp only [List.mapM_cons, List.mapM_nil, Sem.run_bind, Sem.run_map, g1, Result.andThen_ok, Sem.run_pure]
      rfl
    | [], hok => cases hok
    | _ :: _ :: _, hok => simp [okRVs] at hok
  · rename_i hne
    obtain ⟨xs, hxs, rfl⟩ := Option.map_eq_some_iff.1 hx
    obtain ⟨vs, k1, k2, k3, k4⟩ := resL_sound h hok hxs
    refine ⟨.tuple vs.toArray, ?_, none, ⟨.tup k2 k4, fun _ _ _ e => by cases e⟩, .inl rfl⟩
    simp only [Sem.run_bind, Sem.run_map, k1, Result.andThen_ok, Sem.run_pure]
    have hl : ¬ vs.toArray.size = 1 := by
      intro e
      have : fn.results.toList.length = 1 := by rw [k3, ← k2]; simpa using e
      match rs, hne, hok with
      | [], _, hok => match hrs : fn.results.toList, hok with | [], _ => rw [hrs] at this; cases this
      | [r], hne, _ => exact hne r rfl
      | _ :: _ :: _, _, hok => match hrs : fn.results.toList, hok with
        | [_], hok => simp [okRVs] at hok
        | _ :: _ :: _, _ => rw [hrs] at this; simp at this
    rw [dif_neg hl]

theorem get_slots0 : ∀ (args : List V) (i t : Nat), get (slots0 i args) t = if i ≤ t then (args[t - i]?).getD .junk else .junk
  | [], i, t => by simp [slots0, get]
  | v :: r, i, t => by
    simp only [slots0, get]
    split
    · rename_i e; subst e; simp
    · rename_i e
      rw [get_slots0 r (i + 1) t]
      by_cases h : i ≤ t
      · rw [if_pos (by omega), if_pos h, show t - i = (t - (i + 1)) + 1 by omega]; rfl
      · rw [if_neg (by omega), if_neg h]
theorem callFunc_enters {P : Program} {f : FuncId} {fn : Func} (hf : P.funcs[f]? = some fn) (hn : (fn.name == "runtime.NumGoroutine") = false) (hb : fn.body.isNone = false) :
    ∀ args w, (callFunc f args).run P w = .ok (.enter f args) w := fun args w => by
  have h1 : fn.name ≠ "runtime.NumGoroutine" := by simpa using hn
  have h2 : fn.body ≠ none := fun h => by rw [h] at hb; cases hb
  simp [callFunc, hf, h1, h2]

/-- A function ends as told if its code in the plain world does. -/
theorem fun_enter {f : FuncId} {fn : Func} {c : Cd} {rs : List RV} {args : List V} {Q : Out → List (List V) → Prop} (hf : C.P.funcs[f]? = some fn) (hok : okFn C.tab fn args.length c rs = true)
    (h : boxesBelow σ.length σ = true → (∀ i (h : i < args.length), V.Wf args[i]) → awp C σ.length c (slots0 0 args) σ (fin σ.length rs Q)) :
    (∀ as w, (callFunc f as).run C.P w = .ok (.enter f as) w) ∧
    ∀ (M : Facts) (bm : List Nat) (tk : Toks) (pr : Nat → Prop) (w : World) (vs : List Value), C.glob M pr w → Inv M bm σ tk pr w → vs.length = args.length → (∀ i (h : i < args.length) (h' : i < vs.length), CellOK M bm w args[i] vs[i] (tk none i)) →
      Calls C.P f vs.toArray w fun e w' => ∃ M' bm' tk' σ' o, Q o σ' ∧ Inv M' bm' σ' tk' pr w' ∧ Later M bm pr w M' bm' w' ∧ OutOK M' bm' w' tk' o e := by
  unfold okFn at hok
  simp only [Bool.and_eq_true, decide_eq_true_eq, Bool.not_eq_true'] at hok
  obtain ⟨⟨⟨h1, h2⟩, h3⟩, h4⟩ := hok
  cases hb : fn.body with
  | none => rw [hb] at h1; cases h1
  | some body =>
  rw [hb] at h1
  refine ⟨callFunc_enters hf h4 (by rw [hb]; rfl), fun M bm tk pr w vs hG hI hl hr => ?_⟩
  have hq := h hI.under (fun i hi => (hr i hi (by omega)).rep.wf)
  refine calls_of_wp hf hb ?_
  have hs : SRel M bm tk pr (slots0 0 args) σ fn.ntmps { tmps := vs.toArray ++ Array.replicate (fn.ntmps - vs.toArray.size) undef, defers := [] } w := by
    refine ⟨hI, rfl, by simp; omega, fun t => ?_⟩
    rw [get_slots0, if_pos (Nat.zero_le _), Nat.sub_zero]
    by_cases hlt : t < args.length
    · rw [List.getElem?_eq_getElem hlt, Option.getD_some]
      have hv : (vs.toArray ++ Array.replicate (fn.ntmps - vs.toArray.size) undef).getD t undef = vs[t]'(by omega) := by
        rw [Array.getD_eq_getD_getElem?, Array.getElem?_append_left (by simp; omega)]
        simp [show t < vs.length by omega]
      rw [hv]
      exact hr t hlt (by omega)
    · rw [List.getElem?_eq_none (by omega), Option.getD_none]
      exact CellOK.junk ..
  refine wp_mono (awp_sound hG hI.len h1 (Later.refl M bm pr w) hs hq) (fun e a' w' hL => ?_)
  obtain ⟨M', bm', tk', ρ', σ', x, k1, k2, k3, k4⟩ := hL
  have cut : ∀ {M' : Facts} {bm' : List Nat} {ρ' : Slots} {σ' : List (List V)} {k : Nat} (o : Option Nat), SRel M' bm' tk' pr ρ' σ' fn.ntmps a' w' → Later M bm pr w M' bm' w' → σ.length ≤ k → boxesBelow k (σ'.take k) = true → (o = none ∨ ∃ s, o = tk' none s) →
      Inv M' (bm'.take k) (σ'.take k) (fun i j => match i with | none => if j = 0 then o else none | some i => tk' (some i) j) pr w' ∧ Later M bm pr w M' (bm'.take k) w' := by
    intro M' bm' ρ' σ' k o k3 k4 hk hbk ho
    have hd := k3.inv.drop hbk
    refine ⟨⟨hd.facts, hd.len, hd.box, hd.free, hd.bmnd, fun i j g hg => ?_, fun i j i' j' g g1 g2 => ?_, hd.prlt⟩, k4.drop (by rw [hI.len]; exact hk)⟩
    · cases i with
      | some i => exact hd.tok _ _ _ hg
      | none =>
        simp only at hg
        split at hg
        · rcases ho with rfl | ⟨s, rfl⟩
          · cases hg
          · exact hd.tok _ _ _ hg
        · cases hg
    · cases i with
      | some i => cases i' with
        | some i' => exact hd.inj _ _ _ _ _ g1 g2
        | none =>
          simp only at g2
          split at g2
          · rcases ho with rfl | ⟨s, rfl⟩
            · cases g2
            · have := hd.inj _ _ _ _ _ g1 g2; simp at this
          · cases g2
      | none => cases i' with
        | some i' =>
          simp only at g1
          split at g1
          · rcases ho with rfl | ⟨s, rfl⟩
            · cases g1
            · have := hd.inj _ _ _ _ _ g1 g2; simp at this
          · cases g1
        | none =>
          simp only at g1 g2
          split at g1
          · split at g2
            · exact ⟨rfl, by omega⟩
            · cases g2
          · cases g1
  have ret : ∀ ρ2 σ2, Shift σ.length ρ' σ' ρ2 σ2 → ∀ v, resV σ2 ρ2 rs = some v → (∃ k, σ.length ≤ k ∧ boxesBelow k (σ2.take k) = true ∧ V.under k v = true ∧ Q (.ret v) (σ2.take k)) →
      a'.defers = [] ∧ ∃ u, (results fn a'.tmps).run C.P w' = .ok u w' ∧ ∃ M' bm' tk' σ' o, Q o σ' ∧ Inv M' bm' σ' tk' pr w' ∧ Later M bm pr w M' bm' w' ∧ OutOK M' bm' w' tk' o (.returned u) := by
    rintro ρ2 σ2 hsh v hv ⟨k, g1, g2, g3, g4⟩
    obtain ⟨M2, bm2, s1, s2⟩ := hsh M' bm' tk' pr fn.ntmps a' w' k3
    obtain ⟨u, r1, t, r2, r3⟩ := resV_sound s1 h2 hv
    obtain ⟨c1, c2⟩ := cut t s1 (s2 M bm w hI.len k4) g1 g2 r3
    refine ⟨k3.defers, u, r1, M2, bm2.take k, _, σ2.take k, .ret v, g4, c1, c2, fun v' e => ?_, fun v' e => by cases e⟩
    cases e
    exact ⟨u, rfl, r2.rep.drop g3, by simpa using r2.own⟩
  cases k2 with
  | normal => obtain ⟨ρ2, σ2, g0, v, g1, g2⟩ := k1; exact ret ρ2 σ2 g0 v g1 g2
  | ret => obtain ⟨ρ2, σ2, g0, v, g1, g2⟩ := k1; exact ret ρ2 σ2 g0 v g1 g2
  | exit id => exact k1.elim
  | panic hp =>
    obtain ⟨k, g1, g2, g3, g4⟩ := k1
    obtain ⟨c1, c2⟩ := cut none k3 k4 g1 g2 (.inl rfl)
    exact ⟨k3.defers, M', bm'.take k, _, σ'.take k, _, g4, c1, c2, (fun v' e => by cases e), fun v' e => by cases e; exact ⟨_, rfl, hp.drop g3⟩⟩
theorem fun_intro {f : FuncId} {fn : Func} {c : Cd} {rs : List RV} {args : List V} {Q : Out → List (List V) → Prop} (hf : C.P.funcs[f]? = some fn) (hok : okFn C.tab fn args.length c rs = true) (hno : args.all (! ·.isOwn) = true)
    (h : boxesBelow σ.length σ = true → (∀ i (h : i < args.length), V.Wf args[i]) → awp C σ.length c (slots0 0 args) σ (fin σ.length rs Q)) : Fun C f args σ Q := by
  obtain ⟨h1, h2⟩ := fun_enter hf hok h
  refine ⟨h1, fun M bm tk pr w vs hG hI _ hl hr => h2 M bm tk pr w vs hG hI hl fun i g1 g2 => ⟨hr i g1 g2, fun T k rows e => ?_⟩⟩
  have := List.all_eq_true.1 hno args[i] (List.getElem_mem g1)
  rw [e] at this
  cases this
/-- A function that is handed a row to grow. -/
theorem funo_intro {f : FuncId} {fn : Func} {c : Cd} {rs : List RV} {pre post : List V} {T k : Nat} {rows : List (List D)} {Q : Out → List (List V) → Prop} (hf : C.P.funcs[f]? = some fn) (hok : okFn C.tab fn (pre ++ .own T k rows :: post).length c rs = true) (hno : (pre ++ post).all (! ·.isOwn) = true)
    (h : boxesBelow σ.length σ = true → (∀ i (h : i < (pre ++ .own T k rows :: post).length), V.Wf (pre ++ .own T k rows :: post)[i]) → awp C σ.length c (slots0 0 (pre ++ .own T k rows :: post)) σ (fin σ.length rs Q)) : FunO C f pre T k rows post σ Q := by
  obtain ⟨h1, h2⟩ := fun_enter hf hok h
  refine ⟨h1, fun M bm tk pr w vs hG hI hl hr ho => h2 M bm tk pr w vs hG hI hl fun i g1 g2 => ⟨hr i g1 g2, fun T' k' rows' e => ?_⟩⟩
  rw [List.all_append, Bool.and_eq_true] at hno
  by_cases hi : i < pre.length
  · rw [List.getElem_append_left hi] at e
    have := List.all_eq_true.1 hno.1 _ (List.getElem_mem hi)
    rw [e] at this
    cases this
  · rw [List.getElem_append_right (by omega)] at e
    by_cases hm : i = pre.length
    · subst hm
      simp only [Nat.sub_self, List.getElem_cons_zero] at e
      cases e
      have e3 : vs.getD pre.length undef = vs[pre.length] := by simp [List.getD, g2]
      rw [e3] at ho
      exact ho
    · obtain ⟨m, hm2⟩ : ∃ m, i - pre.length = m + 1 := ⟨i - pre.length - 1, by omega⟩
      simp only [hm2, List.getElem_cons_succ] at e
      have := List.all_eq_true.1 hno.2 _ (List.getElem_mem (l := post) (n := m) (by simp only [List.length_append, List.length_cons] at g1; omega))
      rw [e] at this
      cases this
end
end Go.Proofs.YtbhippphcmkjnaaGreatDoor

/-
  Rules for going through code in the plain world. No program is in sight here.
-/
set_option linter.unusedVariables false
set_option linter.unusedSimpArgs false
namespace Go.Proofs.YtbhippphcmkjnaaGreatDoor
open Go.RowKit

/-- A mark that keeps simp out of what is to come: its type hangs on it. -/
inductive Tag {α : Type} (a : α) : Type where
  | mk
def optT (o : Option V) (f : V → Prop) (_ : Tag f) : Prop := match o with | some v => f v | none => False
theorem optT_some (v : V) (f : V → Prop) (t : Tag f) : optT (some v) f t = f v := rfl
def fnT (v : V) (f : FuncId → List V → Prop) (_ : Tag f) : Prop := match v with | .fn g cap => f g cap | _ => False
theorem fnT_fn (g : FuncId) (cap : List V) (f : FuncId → List V → Prop) (t : Tag f) : fnT (.fn g cap) f t = f g cap := rfl
def ptrT (v : V) (f : Nat → Nat → Prop) (_ : Tag f) : Prop := match v with | .ptr i o => f i o | _ => False
theorem ptrT_ptr (i o : Nat) (f : Nat → Nat → Prop) (t : Tag f) : ptrT (.ptr i o) f t = f i o := rfl
def ownT (v : V) (f : Nat → Nat → List (List D) → Prop) (_ : Tag f) : Prop := match v with | .own T k rows => f T k rows | _ => False
theorem ownT_own (T k : Nat) (rows : List (List D)) (f : Nat → Nat → List (List D) → Prop) (t : Tag f) : ownT (.own T k rows) f t = f T k rows := rfl
def ifT (v : V) (f : Nat → V → Prop) (_ : Tag f) : Prop := match v with | .iface t v => f t v | _ => False
theorem ifT_iface (ty : Nat) (v : V) (f : Nat → V → Prop) (t : Tag f) : ifT (.iface ty v) f t = f ty v := rfl
def bxT (o : Option (List V)) (f : List V → Prop) (_ : Tag f) : Prop := match o with | some cs => f cs | none => False
theorem bxT_some (cs : List V) (f : List V → Prop) (t : Tag f) : bxT (some cs) f t = f cs := rfl
def rwT (o : Option (List (List D))) (f : List (List D) → Prop) (_ : Tag f) : Prop := match o with | some rows => f rows | none => False
theorem rwT_some (rows : List (List D)) (f : List (List D) → Prop) (t : Tag f) : rwT (some rows) f t = f rows := rfl
def boolT (v : V) (f : Bool → Prop) (_ : Tag f) : Prop := match v with | .d (.lit (.bool c)) => f c | _ => False
theorem boolT_bool (c : Bool) (f : Bool → Prop) (t : Tag f) : boolT (.d (.lit (.bool c))) f t = f c := rfl
/-- A guard: a truth, or nothing (what was not done). -/
def boolU (v : V) (f : Bool → Prop) (u : Unit → Prop) (_ : Tag f) (_ : Tag u) : Prop := match v with
  | .d (.lit (.bool c)) => f c
  | .tup [] => u ()
  | _ => False
theorem boolU_bool (c : Bool) (f : Bool → Prop) (u : Unit → Prop) (s : Tag f) (t : Tag u) : boolU (.d (.lit (.bool c))) f u s t = f c := rfl
theorem boolU_un (f : Bool → Prop) (u : Unit → Prop) (s : Tag f) (t : Tag u) : boolU (.tup []) f u s t = u () := rfl
/-- If it holds: A, else B. -/
def iteT (c : Bool) (A B : Unit → Prop) (_ : Tag A) (_ : Tag B) : Prop := (c = true → A ()) ∧ (c = false → B ())
theorem iteT_true (A B : Unit → Prop) (s : Tag A) (t : Tag B) : iteT true A B s t = A () := by simp [iteT]
theorem iteT_false (A B : Unit → Prop) (s : Tag A) (t : Tag B) : iteT false A B s t = B () := by simp [iteT]
theorem iteT_intro {c : Bool} {A B : Unit → Prop} {s : Tag A} {t : Tag B} (h1 : c = true → A ()) (h2 : c = false → B ()) : iteT c A B s t := ⟨h1, h2⟩
theorem bq_true (b : Bool) : (b == true) = b := by cases b <;> rfl
theorem bq_false (b : Bool) : (b == false) = !b := by cases b <;> rfl
/-- If it holds: A. -/
def onT (p : Prop) (A : Unit → Prop) (_ : Tag A) : Prop := p ∧ A ()
theorem onT_intro {p : Prop} {A : Unit → Prop} {t : Tag A} (h1 : p) (h2 : A ()) : onT p A t := ⟨h1, h2⟩
theorem onT_true (A : Unit → Prop) (t : Tag A) : onT True A t = A () := by simp [onT]
def awpT (C : Cx) (n0 : Nat) (c : Cd) (ρ : Slots) (σ : List (List V)) (Q : APost) (_ : Tag Q) : Prop := awp C n0 c ρ σ Q
def opsT (C : Cx) (l : List O) (ρ : Slots) (σ : List (List V)) (Q : APost) (_ : Tag Q) : Prop := awpOps C l ρ σ Q
def calmT (C : Cx) (l : List O) (ρ : Slots) (σ : List (List V)) (K : Slots → Prop) (_ : Tag K) : Prop := awpCalm C l ρ σ K
def retK (K : V → List (List V) → Prop) (P : V → List (List V) → Prop) : Out → List (List V) → Prop := fun o σ' => match o with
  | .ret v => K v σ'
  | .panic v => P v σ'
def FunT (C : Cx) (f : FuncId) (args : List V) (σ : List (List V)) (K : V → List (List V) → Prop) (P : V → List (List V) → Prop) (_ : Tag K) (_ : Tag P) : Prop := Fun C f args σ (retK K P)
def FunOT (C : Cx) (f : FuncId) (pre : List V) (T k : Nat) (rows : List (List D)) (post : List V) (σ : List (List V)) (K : V → List (List V) → Prop) (P : V → List (List V) → Prop) (_ : Tag K) (_ : Tag P) : Prop := FunO C f pre T k rows post σ (retK K P)
def CallT (C : Cx) (f : FuncId) (args : List V) (σ : List (List V)) (k : V → Prop) (_ : Tag k) : Prop := ∃ v, Fun C f args σ (fun o σ' => o = .ret v ∧ σ' = σ) ∧ k v
def appT (C : Cx) (c : Cell) (σ σ2 : List (List V)) (l : List O) (ρ : Slots) (acc : Option (List (List D))) (K : Slots → List (List D) → Prop) (_ : Tag K) : Prop := awpA C c σ σ2 l ρ acc K
def newT (C : Cx) (cn : List V) (σ σ2 : List (List V)) (l : List O) (ρ : Slots) (acc : Option (List V)) (K : Slots → List V → Prop) (_ : Tag K) : Prop := awpN C cn σ σ2 l ρ acc K
def intT (x : V) (k : Int → Prop) (_ : Tag k) : Prop := match x with
  | .d (.lit (.int _ n)) => k n
  | _ => False
theorem intT_int (kd : IntKind) (n : Int) {k : Int → Prop} (t : Tag k) : intT (.d (.lit (.int kd n))) k t = k n := rfl
def stT (C : Cx) (l : List O) (ρ : Slots) (σ : List (List V)) (acc : Option (List (List V))) (K : Slots → List (List V) → Prop) (_ : Tag K) : Prop := awpS C σ l ρ acc K
def CallT2 (C : Cx) (f : FuncId) (args : List V) (σ σ2 : List (List V)) (k : V → Prop) (_ : Tag k) : Prop := ∃ v, Fun C f args σ (fun o σ' => o = .ret v ∧ σ' = σ) ∧ Fun C f args σ2 (fun o σ' => o = .ret v ∧ σ' = σ2) ∧ k v
def appAny (C : Cx) (l : List O) (ρ : Slots) (σ : List (List V)) (K : Slots → List (List V) → Prop) (_ : Tag K) : Prop :=
  ∃ (c : Cell) (cs : List V), σ[c.i]? = some cs ∧ cs[c.off]? = some (.own c.T c.k c.rows) ∧
    awpA C c σ (σ.set c.i (cs.set c.off (.d (.sl c.rows)))) l ρ none fun ρ' rows2 => K ρ' ((σ.set c.i (cs.set c.off (.d (.sl c.rows)))).set c.i (over (cs.set c.off (.d (.sl c.rows))) c.off [.own c.T c.k (c.rows ++ rows2)]))
def tabOf (P : Program) : Tab := fun t =>
  match P.underlying t, P.info? t with
  | some d, some i => match i.zero with
    | some z => if z.cells.size = i.size then some ⟨d, i.size, i.bytes, z⟩ else none
    | none => none
  | _, _ => none
theorem tabOf_ok (P : Program) : TabOK P (tabOf P) := by
  intro t i h
  unfold tabOf at h
  split at h
  · rename_i d inf h1 h2
    split at h
    · rename_i z hz
      split at h
      · rename_i hs
        cases h
        exact ⟨h1, inf, h2, rfl, rfl, hz, hs⟩
      · cases h
    · cases h
  · cases h
def cxk (P : Program) (gl : Nat → Option (List D)) (kp : Nat → Option (Array Value → Prop)) (h : P.follows .mixedOrders = true) : Cx := ⟨P, tabOf P, gl, kp, tabOf_ok P, h, fun t => !P.stoodInHeld t && !P.eqGuardType P.depth t, fun t ht => by simpa using ht⟩

abbrev cx (P : Program) (gl : Nat → Option (List D)) (h : P.follows .mixedOrders = true) : Cx := cxk P gl (fun _ => none) h

section
variable {C : Cx} {ρ : Slots} {σ σ2 : List (List V)} {Q : APost} {K : Slots → Prop} {KA : Slots → List (List D) → Prop} {cc : Cell} {acc : Option (List (List D))} {KN : Slots → List V → Prop} {cn : List V} {accn : Option (List V)} {KS : Slots → List (List V) → Prop} {accs : Option (List (List V))} {n0 : Nat}
theorem ev_t (n : Nat) : ev C ρ (.t n) = get ρ n := rfl
theorem ev_k (v : V) : ev C ρ (.k v) = v := rfl
theorem ev_g (n : Nat) : ev C ρ (.g n) = match C.gl n with | some cs => .row cs 0 | none => .junk := rfl
theorem get_cons (s : Nat) (u : V) (r : Slots) (t : Nat) : get ((s, u) :: r) t = if s = t then u else get r t := rfl
theorem get_nil (t : Nat) : get [] t = .junk := rfl
theorem put_cons (s : Nat) (u : V) (r : Slots) (t : Nat) (v : V) : put ((s, u) :: r) t v = if t < s then (t, v) :: (s, u) :: r else if t = s then (t, v) :: r else (s, u) :: put r t v := rfl
theorem put_nil (t : Nat) (v : V) : put [] t v = [(t, v)] := rfl
theorem putd_some (t : Nat) (v : V) : putd ρ (some t) v = put ρ t v := rfl
theorem putd_none (v : V) : putd ρ none v = ρ := rfl
theorem keepOnly_nil (l : List Nat) : keepOnly l [] = [] := rfl
theorem keepOnly_cons (l : List Nat) (s : Nat) (u : V) (r : Slots) : keepOnly l ((s, u) :: r) = if l.contains s = true then (s, u) :: keepOnly l r else keepOnly l r := by
  unfold keepOnly; rw [List.filter_cons]

theorem t_mv (x : X) (d : Option Nat) (r : List O) (t : Tag Q) : opsT C (⟨d, .mv x, none⟩ :: r) ρ σ Q t = opsT C r (putd ρ d (ev C ρ x).copy) σ Q .mk := rfl
theorem c_mv (x : X) (d : Option Nat) (r : List O) (t : Tag K) : calmT C (⟨d, .mv x, none⟩ :: r) ρ σ K t = calmT C r (putd ρ d (ev C ρ x).copy) σ K .mk := rfl
theorem t_pick (x y z : X) (d : Option Nat) (r : List O) (t : Tag Q) : opsT C (⟨d, .pick x y z, none⟩ :: r) ρ σ Q t = optT (pickV (ev C ρ x) (ev C ρ y) (ev C ρ z)) (fun v => opsT C r (putd ρ d v) σ Q .mk) .mk := rfl
theorem c_pick (x y z : X) (d : Option Nat) (r : List O) (t : Tag K) : calmT C (⟨d, .pick x y z, none⟩ :: r) ρ σ K t = optT (pickV (ev C ρ x) (ev C ρ y) (ev C ρ z)) (fun v => calmT C r (putd ρ d v) σ K .mk) .mk := by
  unfold calmT optT; simp only [awpCalm, calmO, isPure, pv]; cases pickV (ev C ρ x) (ev C ρ y) (ev C ρ z) <;> rfl
theorem t_bin (o : BinOp) (x y : X) (d : Option Nat) (r : List O) (t : Tag Q) : opsT C (⟨d, .bin o x y, none⟩ :: r) ρ σ Q t = optT (binV o (ev C ρ x) (ev C ρ y)) (fun v => opsT C r (putd ρ d v) σ Q .mk) .mk := rfl
theorem c_bin (o : BinOp) (x y : X) (d : Option Nat) (r : List O) (t : Tag K) : calmT C (⟨d, .bin o x y, none⟩ :: r) ρ σ K t = optT (binV o (ev C ρ x) (ev C ρ y)) (fun v => calmT C r (putd ρ d v) σ K .mk) .mk := by
  unfold calmT optT; simp only [awpCalm, calmO, isPure, pv]; cases binV o (ev C ρ x) (ev C ρ y) <;> rfl
theorem t_binb (o : BinOp) (x y : X) (d : Option Nat) (r : List O) (t : Tag Q) : opsT C (⟨d, .binb o x y, none⟩ :: r) ρ σ Q t = optT (binbV o (ev C ρ x) (ev C ρ y)) (fun v => opsT C r (putd ρ d v) σ Q .mk) .mk := rfl
theorem c_binb (o : BinOp) (x y : X) (d : Option Nat) (r : List O) (t : Tag K) : calmT C (⟨d, .binb o x y, none⟩ :: r) ρ σ K t = optT (binbV o (ev C ρ x) (ev C ρ y)) (fun v => calmT C r (putd ρ d v) σ K .mk) .mk := by
  unfold calmT optT; simp only [awpCalm, calmO, isPure, pv]; cases binbV o (ev C ρ x) (ev C ρ y) <;> rfl
theorem t_eqa (neq : Bool) (T : TypeId) (ks : List Kd) (x y : X) (d : Option Nat) (r : List O) (t : Tag Q) : opsT C (⟨d, .eqa neq T ks x y, none⟩ :: r) ρ σ Q t = onT (C.eqs T = true) (fun _ => optT (eqaV neq ks (ev C ρ x) (ev C ρ y)) (fun v => opsT C r (putd ρ d v) σ Q .mk) .mk) .mk := by
  unfold opsT optT onT
  by_cases h : C.eqs T = true
  · simp only [awpOps, runO, isPure, pv, h, if_true, true_and]; cases eqaV neq ks (ev C ρ x) (ev C ρ y) <;> simp
  · simp only [awpOps, runO, isPure, pv, if_neg h]; simp [h]
theorem t_nif (neq : Bool) (x : X) (d : Option Nat) (r : List O) (t : Tag Q) : opsT C (⟨d, .nif neq x, none⟩ :: r) ρ σ Q t = optT (nifV neq (ev C ρ x)) (fun v => opsT C r (putd ρ d v) σ Q .mk) .mk := by
  unfold opsT optT; simp only [awpOps, runO, isPure, pv]; cases nifV neq (ev C ρ x) <;> simp
theorem c_eqa (neq : Bool) (T : TypeId) (ks : List Kd) (x y : X) (d : Option Nat) (r : List O) (t : Tag K) : calmT C (⟨d, .eqa neq T ks x y, none⟩ :: r) ρ σ K t = onT (C.eqs T = true) (fun _ => optT (eqaV neq ks (ev C ρ x) (ev C ρ y)) (fun v => calmT C r (putd ρ d v) σ K .mk) .mk) .mk := by
  unfold calmT optT onT
  by_cases h : C.eqs T = true
  · simp only [awpCalm, calmO, isPure, pv, h, if_true, true_and]; cases eqaV neq ks (ev C ρ x) (ev C ρ y) <;> simp
  · simp only [awpCalm, calmO, isPure, pv, if_neg h]; simp [h]
theorem c_nif (neq : Bool) (x : X) (d : Option Nat) (r : List O) (t : Tag K) : calmT C (⟨d, .nif neq x, none⟩ :: r) ρ σ K t = optT (nifV neq (ev C ρ x)) (fun v => calmT C r (putd ρ d v) σ K .mk) .mk := by
  unfold calmT optT; simp only [awpCalm, calmO, isPure, pv]; cases nifV neq (ev C ρ x) <;> simp
theorem t_un (o : UnOp) (x : X) (d : Option Nat) (r : List O) (t : Tag Q) : opsT C (⟨d, .un o x, none⟩ :: r) ρ σ Q t = optT (unV o (ev C ρ x)) (fun v => opsT C r (putd ρ d v) σ Q .mk) .mk := rfl
theorem c_un (o : UnOp) (x : X) (d : Option Nat) (r : List O) (t : Tag K) : calmT C (⟨d, .un o x, none⟩ :: r) ρ σ K t = optT (unV o (ev C ρ x)) (fun v => calmT C r (putd ρ d v) σ K .mk) .mk := by
  unfold calmT optT; simp only [awpCalm, calmO, isPure, pv]; cases unV o (ev C ρ x) <;> rfl
theorem t_conv (kd : IntKind) (x : X) (d : Option Nat) (r : List O) (t : Tag Q) : opsT C (⟨d, .conv kd x, none⟩ :: r) ρ σ Q t = optT (convV kd (ev C ρ x)) (fun v => opsT C r (putd ρ d v) σ Q .mk) .mk := rfl
theorem c_conv (kd : IntKind) (x : X) (d : Option Nat) (r : List O) (t : Tag K) : calmT C (⟨d, .conv kd x, none⟩ :: r) ρ σ K t = optT (convV kd (ev C ρ x)) (fun v => calmT C r (putd ρ d v) σ K .mk) .mk := by
  unfold calmT optT; simp only [awpCalm, calmO, isPure, pv]; cases convV kd (ev C ρ x) <;> rfl
theorem t_cstr (x : X) (d : Option Nat) (r : List O) (t : Tag Q) : opsT C (⟨d, .cstr x, none⟩ :: r) ρ σ Q t = optT (cstrV (ev C ρ x)) (fun v => opsT C r (putd ρ d v) σ Q .mk) .mk := rfl
theorem t_cbs (x : X) (d : Option Nat) (r : List O) (t : Tag Q) : opsT C (⟨d, .cbs x, none⟩ :: r) ρ σ Q t = optT (cbsV σ (ev C ρ x)) (fun v => opsT C r (putd ρ d v) σ Q .mk) .mk := rfl
theorem c_cstr (x : X) (d : Option Nat) (r : List O) (t : Tag K) : calmT C (⟨d, .cstr x, none⟩ :: r) ρ σ K t = optT (cstrV (ev C ρ x)) (fun v => calmT C r (putd ρ d v) σ K .mk) .mk := by
  unfold calmT optT; simp only [awpCalm, calmO, isPure, pv]; cases cstrV (ev C ρ x) <;> rfl
theorem c_cbs (x : X) (d : Option Nat) (r : List O) (t : Tag K) : calmT C (⟨d, .cbs x, none⟩ :: r) ρ σ K t = optT (cbsV σ (ev C ρ x)) (fun v => calmT C r (putd ρ d v) σ K .mk) .mk := by
  unfold calmT optT; simp only [awpCalm, calmO, isPure, pv]; cases cbsV σ (ev C ρ x) <;> rfl
theorem t_nilck (x : X) (d : Option Nat) (r : List O) (t : Tag Q) : opsT C (⟨d, .nilck x, none⟩ :: r) ρ σ Q t = optT (nilckV (ev C ρ x)) (fun v => opsT C r (putd ρ d v) σ Q .mk) .mk := rfl
theorem c_nilck (x : X) (d : Option Nat) (r : List O) (t : Tag K) : calmT C (⟨d, .nilck x, none⟩ :: r) ρ σ K t = optT (nilckV (ev C ρ x)) (fun v => calmT C r (putd ρ d v) σ K .mk) .mk := by
  unfold calmT optT; simp only [awpCalm, calmO, isPure, pv]; cases nilckV (ev C ρ x) <;> rfl
theorem t_fa (off : Nat) (x : X) (d : Option Nat) (r : List O) (t : Tag Q) : opsT C (⟨d, .fa off x, none⟩ :: r) ρ σ Q t = optT (faV off (ev C ρ x)) (fun v => opsT C r (putd ρ d v) σ Q .mk) .mk := rfl
theorem c_fa (off : Nat) (x : X) (d : Option Nat) (r : List O) (t : Tag K) : calmT C (⟨d, .fa off x, none⟩ :: r) ρ σ K t = optT (faV off (ev C ρ x)) (fun v => calmT C r (putd ρ d v) σ K .mk) .mk := by
  unfold calmT optT; simp only [awpCalm, calmO, isPure, pv]; cases faV off (ev C ρ x) <;> rfl
theorem t_ia (kk : Nat) (x i : X) (d : Option Nat) (r : List O) (t : Tag Q) : opsT C (⟨d, .ia kk x i, none⟩ :: r) ρ σ Q t = optT (iaV kk (ev C ρ x) (ev C ρ i)) (fun v => opsT C r (putd ρ d v) σ Q .mk) .mk := rfl
theorem c_ia (kk : Nat) (x i : X) (d : Option Nat) (r : List O) (t : Tag K) : calmT C (⟨d, .ia kk x i, none⟩ :: r) ρ σ K t = optT (iaV kk (ev C ρ x) (ev C ρ i)) (fun v => calmT C r (putd ρ d v) σ K .mk) .mk := by
  unfold calmT optT; simp only [awpCalm, calmO, isPure, pv]; cases iaV kk (ev C ρ x) (ev C ρ i) <;> rfl
theorem t_aa (kk m : Nat) (x i : X) (d : Option Nat) (r : List O) (t : Tag Q) : opsT C (⟨d, .aa kk m x i, none⟩ :: r) ρ σ Q t = optT (aaV kk m (ev C ρ x) (ev C ρ i)) (fun v => opsT C r (putd ρ d v) σ Q .mk) .mk := rfl
theorem c_aa (kk m : Nat) (x i : X) (d : Option Nat) (r : List O) (t : Tag K) : calmT C (⟨d, .aa kk m x i, none⟩ :: r) ρ σ K t = optT (aaV kk m (ev C ρ x) (ev C ρ i)) (fun v => calmT C r (putd ρ d v) σ K .mk) .mk := by
  unfold calmT optT; simp only [awpCalm, calmO, isPure, pv]; cases aaV kk m (ev C ρ x) (ev C ρ i) <;> rfl
theorem t_ix (x i : X) (d : Option Nat) (r : List O) (t : Tag Q) : opsT C (⟨d, .ix x i, none⟩ :: r) ρ σ Q t = optT (ixV (ev C ρ x) (ev C ρ i)) (fun v => opsT C r (putd ρ d v) σ Q .mk) .mk := rfl
theorem c_ix (x i : X) (d : Option Nat) (r : List O) (t : Tag K) : calmT C (⟨d, .ix x i, none⟩ :: r) ρ σ K t = optT (ixV (ev C ρ x) (ev C ρ i)) (fun v => calmT C r (putd ρ d v) σ K .mk) .mk := by
  unfold calmT optT; simp only [awpCalm, calmO, isPure, pv]; cases ixV (ev C ρ x) (ev C ρ i) <;> rfl
theorem t_fld (off kk : Nat) (ag : Bool) (x : X) (d : Option Nat) (r : List O) (t : Tag Q) : opsT C (⟨d, .fld off kk ag x, none⟩ :: r) ρ σ Q t = optT (fldV off kk ag (ev C ρ x)) (fun v => opsT C r (putd ρ d v) σ Q .mk) .mk := rfl
theorem c_fld (off kk : Nat) (ag : Bool) (x : X) (d : Option Nat) (r : List O) (t : Tag K) : calmT C (⟨d, .fld off kk ag x, none⟩ :: r) ρ σ K t = optT (fldV off kk ag (ev C ρ x)) (fun v => calmT C r (putd ρ d v) σ K .mk) .mk := by
  unfold calmT optT; simp only [awpCalm, calmO, isPure, pv]; cases fldV off kk ag (ev C ρ x) <;> rfl
theorem t_len (s : Bool) (x : X) (d : Option Nat) (r : List O) (t : Tag Q) : opsT C (⟨d, .len s x, none⟩ :: r) ρ σ Q t = optT (lenV s (ev C ρ x)) (fun v => opsT C r (putd ρ d v) σ Q .mk) .mk := rfl
theorem c_len (s : Bool) (x : X) (d : Option Nat) (r : List O) (t : Tag K) : calmT C (⟨d, .len s x, none⟩ :: r) ρ σ K t = optT (lenV s (ev C ρ x)) (fun v => calmT C r (putd ρ d v) σ K .mk) .mk := by
  unfold calmT optT; simp only [awpCalm, calmO, isPure, pv]; cases lenV s (ev C ρ x) <;> rfl
theorem t_ext (x : X) (i : Nat) (d : Option Nat) (r : List O) (t : Tag Q) : opsT C (⟨d, .ext x i, none⟩ :: r) ρ σ Q t = optT (extV (ev C ρ x) i) (fun v => opsT C r (putd ρ d v) σ Q .mk) .mk := rfl
theorem c_ext (x : X) (i : Nat) (d : Option Nat) (r : List O) (t : Tag K) : calmT C (⟨d, .ext x i, none⟩ :: r) ρ σ K t = optT (extV (ev C ρ x) i) (fun v => calmT C r (putd ρ d v) σ K .mk) .mk := by
  unfold calmT optT; simp only [awpCalm, calmO, isPure, pv]; cases extV (ev C ρ x) i <;> rfl
theorem t_load (kk : Nat) (ag : Bool) (x : X) (d : Option Nat) (r : List O) (t : Tag Q) : opsT C (⟨d, .load kk ag x, none⟩ :: r) ρ σ Q t = optT (loadV σ kk ag (ev C ρ x)) (fun v => opsT C r (putd ρ d v) σ Q .mk) .mk := rfl
theorem c_load (kk : Nat) (ag : Bool) (x : X) (d : Option Nat) (r : List O) (t : Tag K) : calmT C (⟨d, .load kk ag x, none⟩ :: r) ρ σ K t = optT (loadV σ kk ag (ev C ρ x)) (fun v => calmT C r (putd ρ d v) σ K .mk) .mk := by
  unfold calmT optT; simp only [awpCalm, calmO, isPure, pv]; cases loadV σ kk ag (ev C ρ x) <;> rfl
theorem t_bld (zs : List V) (ps : List (Nat × Nat × X)) (d : Option Nat) (r : List O) (t : Tag Q) : opsT C (⟨d, .bld zs ps, none⟩ :: r) ρ σ Q t = optT ((bldV (ev C ρ) zs ps).map V.agg) (fun v => opsT C r (putd ρ d v) σ Q .mk) .mk := rfl
theorem c_bld (zs : List V) (ps : List (Nat × Nat × X)) (d : Option Nat) (r : List O) (t : Tag K) : calmT C (⟨d, .bld zs ps, none⟩ :: r) ρ σ K t = optT ((bldV (ev C ρ) zs ps).map V.agg) (fun v => calmT C r (putd ρ d v) σ K .mk) .mk := by
  unfold calmT optT; simp only [awpCalm, calmO, isPure, pv]; cases bldV (ev C ρ) zs ps <;> rfl
theorem t_sub (s : Bool) (kk : Nat) (x : X) (lo hi : Option X) (d : Option Nat) (r : List O) (t : Tag Q) : opsT C (⟨d, .sub s kk x lo hi, none⟩ :: r) ρ σ Q t = optT (subV s kk (ev C ρ x) (lo.map (ev C ρ)) (hi.map (ev C ρ))) (fun v => opsT C r (putd ρ d v) σ Q .mk) .mk := rfl
theorem c_sub (s : Bool) (kk : Nat) (x : X) (lo hi : Option X) (d : Option Nat) (r : List O) (t : Tag K) : calmT C (⟨d, .sub s kk x lo hi, none⟩ :: r) ρ σ K t = optT (subV s kk (ev C ρ x) (lo.map (ev C ρ)) (hi.map (ev C ρ))) (fun v => calmT C r (putd ρ d v) σ K .mk) .mk := by
  unfold calmT optT; simp only [awpCalm, calmO, isPure, pv]; cases subV s kk (ev C ρ x) (lo.map (ev C ρ)) (hi.map (ev C ρ)) <;> rfl
theorem t_mkfn (f : FuncId) (cap : List X) (d : Option Nat) (r : List O) (t : Tag Q) : opsT C (⟨d, .mkfn f cap, none⟩ :: r) ρ σ Q t = opsT C r (putd ρ d (.fn f (cap.map (ev C ρ)))) σ Q .mk := rfl
theorem c_mkfn (f : FuncId) (cap : List X) (d : Option Nat) (r : List O) (t : Tag K) : calmT C (⟨d, .mkfn f cap, none⟩ :: r) ρ σ K t = calmT C r (putd ρ d (.fn f (cap.map (ev C ρ)))) σ K .mk := rfl
theorem t_mki (ty : TypeId) (x : X) (d : Option Nat) (r : List O) (t : Tag Q) : opsT C (⟨d, .mki ty x, none⟩ :: r) ρ σ Q t = optT (mkiV ty (ev C ρ x)) (fun v => opsT C r (putd ρ d v) σ Q .mk) .mk := rfl
theorem c_mki (ty : TypeId) (x : X) (d : Option Nat) (r : List O) (t : Tag K) : calmT C (⟨d, .mki ty x, none⟩ :: r) ρ σ K t = optT (mkiV ty (ev C ρ x)) (fun v => calmT C r (putd ρ d v) σ K .mk) .mk := by
  unfold calmT optT; simp only [awpCalm, calmO, isPure, pv]; cases mkiV ty (ev C ρ x) <;> rfl
theorem t_mx (g : Bool) (x y : X) (d : Option Nat) (r : List O) (t : Tag Q) : opsT C (⟨d, .mx g x y, none⟩ :: r) ρ σ Q t = optT (mxV g (ev C ρ x) (ev C ρ y)) (fun v => opsT C r (putd ρ d v) σ Q .mk) .mk := rfl
theorem c_mx (g : Bool) (x y : X) (d : Option Nat) (r : List O) (t : Tag K) : calmT C (⟨d, .mx g x y, none⟩ :: r) ρ σ K t = optT (mxV g (ev C ρ x) (ev C ρ y)) (fun v => calmT C r (putd ρ d v) σ K .mk) .mk := by
  unfold calmT optT; simp only [awpCalm, calmO, isPure, pv]; cases mxV g (ev C ρ x) (ev C ρ y) <;> rfl
theorem t_call (f : FuncId) (args : List X) (d : Option Nat) (r : List O) (t : Tag Q) : opsT C (⟨d, .call f args, none⟩ :: r) ρ σ Q t = FunT C f (args.map fun x => (ev C ρ x).lend) σ (fun v σ' => opsT C r (putd ρ d v) σ' Q .mk) (fun v σ' => Q (.panic v) ρ σ') .mk .mk := rfl
theorem t_callv (x : X) (args : List X) (d : Option Nat) (r : List O) (t : Tag Q) : opsT C (⟨d, .callv x args, none⟩ :: r) ρ σ Q t = fnT (ev C ρ x) (fun f cap => FunT C f ((args.map fun x => (ev C ρ x).lend) ++ cap) σ (fun v σ' => opsT C r (putd ρ d v) σ' Q .mk) (fun v σ' => Q (.panic v) ρ σ') .mk .mk) .mk := rfl
theorem t_new (T : Nat) (cs : List V) (d : Option Nat) (r : List O) (t : Tag Q) : opsT C (⟨d, .new T cs, none⟩ :: r) ρ σ Q t = opsT C r (putd ρ d (.ptr σ.length 0)) (σ ++ [cs]) Q .mk := rfl
theorem t_box (T : Nat) (x : X) (d : Option Nat) (r : List O) (t : Tag Q) : opsT C (⟨d, .box T x, none⟩ :: r) ρ σ Q t = onT ((ev C ρ x).boxable = true) (fun _ => opsT C r (putd ρ d (.ptr σ.length 0)) (σ ++ [(ev C ρ x).cells]) Q .mk) .mk := rfl
theorem t_sto (kk : Nat) (x y : X) (d : Option Nat) (r : List O) (t : Tag Q) : opsT C (⟨d, .sto kk x y, none⟩ :: r) ρ σ Q t = ptrT (ev C ρ x) (fun i o => bxT σ[i]? (fun cs => onT ((ev C ρ y).boxable = true ∧ (ev C ρ y).cells.length = kk ∧ o + kk ≤ cs.length) (fun _ => opsT C r ρ (σ.set i (over cs o (ev C ρ y).cells)) Q .mk) .mk) .mk) .mk := rfl
theorem t_stoo (x : X) (s : Nat) (d : Option Nat) (r : List O) (t : Tag Q) : opsT C (⟨d, .stoo x s, none⟩ :: r) ρ σ Q t = ptrT (ev C ρ x) (fun i o => ownT (get ρ s) (fun T k rows => bxT σ[i]? (fun cs => onT (o < cs.length) (fun _ => opsT C r (put ρ s (.d (.sl rows))) (σ.set i (over cs o [.own T k rows])) Q .mk) .mk) .mk) .mk) .mk := by
  unfold opsT ptrT ownT bxT onT
  simp only [awpOps, runO]
  cases ev C ρ x <;> simp only
  cases get ρ s <;> rfl
theorem t_ldo (x : X) (d : Option Nat) (r : List O) (t : Tag Q) : opsT C (⟨d, .ldo x, none⟩ :: r) ρ σ Q t = ptrT (ev C ρ x) (fun i o => bxT σ[i]? (fun cs => ownT (cs.getD o .junk) (fun T k rows => opsT C r (putd ρ d (.own T k rows)) (σ.set i (cs.set o (.d (.sl rows)))) Q .mk) .mk) .mk) .mk := by
  unfold opsT ptrT ownT bxT
  simp only [awpOps, runO]
  cases ev C ρ x <;> simp only
  rename_i i o
  cases σ[i]? <;> simp only
  rename_i cs
  rw [List.getD_eq_getElem?_getD]
  cases cs[o]? with
  | none => rfl
  | some v => cases v <;> rfl
theorem t_mvo (s : Nat) (d : Option Nat) (r : List O) (t : Tag Q) : opsT C (⟨d, .mvo s, none⟩ :: r) ρ σ Q t = ownT (get ρ s) (fun T k rows => opsT C r (putd (put ρ s (.d (.sl rows))) d (.own T k rows)) σ Q .mk) .mk := rfl
theorem t_nilo (T k : Nat) (d : Option Nat) (r : List O) (t : Tag Q) : opsT C (⟨d, .nilo T k, none⟩ :: r) ρ σ Q t = opsT C r (putd ρ d (.own T k [])) σ Q .mk := rfl
theorem t_app (T k bytes s : Nat) (y : X) (d : Option Nat) (r : List O) (t : Tag Q) : opsT C (⟨d, .app T k bytes s y, none⟩ :: r) ρ σ Q t = ownT (get ρ s) (fun T' k' rows => rwT (rowsV (ev C ρ y)) (fun rows2 => onT (T' = T ∧ k' = k ∧ rows2.all (fun r => r.length == k) = true ∧ (rows.length + rows2.length) * bytes ≤ 140737488355328) (fun _ => opsT C r (putd (put ρ s (.d (.sl rows))) d (.own T k (rows ++ rows2))) σ Q .mk) .mk) .mk) .mk := by
  unfold opsT ownT rwT onT
  simp only [awpOps, runO]
  cases get ρ s <;> simp only
  cases rowsV (ev C ρ y) <;> rfl
theorem t_mks (T k : Nat) (xs : List X) (d : Option Nat) (r : List O) (t : Tag Q) : opsT C (⟨d, .mks T k xs, none⟩ :: r) ρ σ Q t = rwT (rowsOf (xs.map (ev C ρ))) (fun rows => onT (rows.all (fun r => r.length == k) = true) (fun _ => opsT C r (putd ρ d (.d (.sl rows))) σ Q .mk) .mk) .mk := rfl
theorem t_mkc (T k bytes : Nat) (x : X) (d : Option Nat) (r : List O) (t : Tag Q) : opsT C (⟨d, .mkc T k bytes x, none⟩ :: r) ρ σ Q t = intT (ev C ρ x) (fun n => onT (0 ≤ n ∧ n * bytes ≤ 140737488355328) (fun _ => opsT C r (putd ρ d (.own T k [])) σ Q .mk) .mk) .mk := by
  unfold opsT intT onT
  simp only [awpOps, runO]
  cases ev C ρ x with
  | d z => cases z with
    | lit v => cases v <;> rfl
    | sl rows => rfl
  | _ => rfl
theorem t_mkso (T k : Nat) (xs : List X) (d : Option Nat) (r : List O) (t : Tag Q) : opsT C (⟨d, .mkso T k xs, none⟩ :: r) ρ σ Q t = rwT (rowsOf (xs.map (ev C ρ))) (fun rows => onT (rows.all (fun r => r.length == k) = true) (fun _ => opsT C r (putd ρ d (.own T k rows)) σ Q .mk) .mk) .mk := rfl
theorem t_mkb (T bytes : Nat) (z : V) (x : X) (d : Option Nat) (r : List O) (t : Tag Q) : opsT C (⟨d, .mkb T bytes z x, none⟩ :: r) ρ σ Q t = intT (ev C ρ x) (fun n => onT (0 ≤ n ∧ n * bytes ≤ 140737488355328) (fun _ => opsT C r (putd ρ d (.bsl σ.length 0 n.toNat 1)) (σ ++ [List.replicate n.toNat z]) Q .mk) .mk) .mk := by
  unfold opsT intT onT
  simp only [awpOps, runO]
  cases ev C ρ x with
  | d y => cases y with
    | lit v => cases v <;> rfl
    | sl rows => rfl
  | _ => rfl
theorem t_pan (x : X) (d : Option Nat) (r : List O) (t : Tag Q) : opsT C (⟨d, .pan x, none⟩ :: r) ρ σ Q t = ifT (ev C ρ x) (fun ty v => Q (.panic (.iface ty v)) ρ σ) .mk := rfl
theorem t_guard (d : Option Nat) (op : OP) (s : Nat) (b : Bool) (r : List O) (t : Tag Q) : opsT C (⟨d, op, some (s, b)⟩ :: r) ρ σ Q t = boolU (get ρ s) (fun c => iteT (c == b) (fun _ => opsT C (⟨d, op, none⟩ :: r) (put ρ s (.d (.lit (.bool b)))) σ Q .mk) (fun _ => opsT C r (putd (put ρ s (.d (.lit (.bool (!b))))) d (.tup [])) σ Q .mk) .mk .mk) (fun _ => opsT C r (putd ρ d (.tup [])) σ Q .mk) .mk .mk := by
  unfold opsT boolU iteT
  simp only [awpOps, beq_iff_eq, beq_eq_false_iff_ne, ne_eq]
  all_goals rfl
theorem t_nil (t : Tag Q) : opsT C [] ρ σ Q t = Q .normal ρ σ := rfl
theorem c_call (f : FuncId) (args : List X) (d : Option Nat) (r : List O) (t : Tag K) : calmT C (⟨d, .call f args, none⟩ :: r) ρ σ K t = CallT C f (args.map fun x => (ev C ρ x).lend) σ (fun v => calmT C r (putd ρ d v) σ K .mk) .mk := rfl
theorem t_calln (f : FuncId) (args : List X) (d : Option Nat) (r : List O) (t : Tag Q) : opsT C (⟨d, .calln f args, none⟩ :: r) ρ σ Q t = FunT C f (args.map fun x => (ev C ρ x).copy) σ (fun v σ' => opsT C r (putd ρ d v) σ' Q .mk) (fun v σ' => Q (.panic v) ρ σ') .mk .mk := rfl
theorem t_callm (x : X) (args : List X) (s : Nat) (d : Option Nat) (r : List O) (t : Tag Q) : opsT C (⟨d, .callm x args s, none⟩ :: r) ρ σ Q t = fnT (ev C ρ x) (fun f cap => ownT (get ρ s) (fun T k rows => FunOT C f (args.map fun x => (ev C ρ x).lend) T k rows cap σ (fun v σ' => opsT C r (putd (put ρ s (.d (.sl rows))) d v) σ' Q .mk) (fun v σ' => Q (.panic v) (put ρ s (.d (.sl rows))) σ') .mk .mk) .mk) .mk := by
  unfold fnT ownT FunOT opsT
  simp only [awpOps, runO]
  cases ev C ρ x <;> cases get ρ s <;> rfl
theorem c_calln (f : FuncId) (args : List X) (d : Option Nat) (r : List O) (t : Tag K) : calmT C (⟨d, .calln f args, none⟩ :: r) ρ σ K t = CallT C f (args.map fun x => (ev C ρ x).copy) σ (fun v => calmT C r (putd ρ d v) σ K .mk) .mk := rfl
theorem c_callv (x : X) (args : List X) (d : Option Nat) (r : List O) (t : Tag K) : calmT C (⟨d, .callv x args, none⟩ :: r) ρ σ K t = fnT (ev C ρ x) (fun f cap => CallT C f ((args.map fun x => (ev C ρ x).lend) ++ cap) σ (fun v => calmT C r (putd ρ d v) σ K .mk) .mk) .mk := rfl
theorem c_mks (T k : Nat) (xs : List X) (d : Option Nat) (r : List O) (t : Tag K) : calmT C (⟨d, .mks T k xs, none⟩ :: r) ρ σ K t = rwT (rowsOf (xs.map (ev C ρ))) (fun rows => onT (rows.all (fun r => r.length == k) = true) (fun _ => calmT C r (putd ρ d (.d (.sl rows))) σ K .mk) .mk) .mk := rfl
theorem c_guard (d : Option Nat) (op : OP) (s : Nat) (b : Bool) (r : List O) (t : Tag K) : calmT C (⟨d, op, some (s, b)⟩ :: r) ρ σ K t = boolU (get ρ s) (fun c => iteT (c == b) (fun _ => calmT C (⟨d, op, none⟩ :: r) (put ρ s (.d (.lit (.bool b)))) σ K .mk) (fun _ => calmT C r (putd (put ρ s (.d (.lit (.bool (!b))))) d (.tup [])) σ K .mk) .mk .mk) (fun _ => calmT C r (putd ρ d (.tup [])) σ K .mk) .mk .mk := by
  unfold calmT boolU iteT
  simp only [awpCalm, beq_iff_eq, beq_eq_false_iff_ne, ne_eq]
  all_goals rfl
theorem c_nil (t : Tag K) : calmT C [] ρ σ K t = K ρ := rfl

theorem a_mv (x : X) (d : Option Nat) (r : List O) (t : Tag KA) : appT C cc σ σ2 (⟨d, .mv x, none⟩ :: r) ρ acc KA t = appT C cc σ σ2 r (putd ρ d (ev C ρ x).copy) acc KA .mk := by
  unfold appT; simp only [awpA, calmO2, calmO, isPure, pv, true_and]
theorem a_pick (x y z : X) (d : Option Nat) (r : List O) (t : Tag KA) : appT C cc σ σ2 (⟨d, .pick x y z, none⟩ :: r) ρ acc KA t = optT (pickV (ev C ρ x) (ev C ρ y) (ev C ρ z)) (fun v => appT C cc σ σ2 r (putd ρ d v) acc KA .mk) .mk := by
  unfold appT optT; simp only [awpA, calmO2, calmO, isPure, pv]; cases (pickV (ev C ρ x) (ev C ρ y) (ev C ρ z)) <;> simp
theorem a_bin (o : BinOp) (x y : X) (d : Option Nat) (r : List O) (t : Tag KA) : appT C cc σ σ2 (⟨d, .bin o x y, none⟩ :: r) ρ acc KA t = optT (binV o (ev C ρ x) (ev C ρ y)) (fun v => appT C cc σ σ2 r (putd ρ d v) acc KA .mk) .mk := by
  unfold appT optT; simp only [awpA, calmO2, calmO, isPure, pv]; cases (binV o (ev C ρ x) (ev C ρ y)) <;> simp
theorem a_binb (o : BinOp) (x y : X) (d : Option Nat) (r : List O) (t : Tag KA) : appT C cc σ σ2 (⟨d, .binb o x y, none⟩ :: r) ρ acc KA t = optT (binbV o (ev C ρ x) (ev C ρ y)) (fun v => appT C cc σ σ2 r (putd ρ d v) acc KA .mk) .mk := by
  unfold appT optT; simp only [awpA, calmO2, calmO, isPure, pv]; cases (binbV o (ev C ρ x) (ev C ρ y)) <;> simp
theorem a_eqa (neq : Bool) (T : TypeId) (ks : List Kd) (x y : X) (d : Option Nat) (r : List O) (t : Tag KA) : appT C cc σ σ2 (⟨d, .eqa neq T ks x y, none⟩ :: r) ρ acc KA t = onT (C.eqs T = true) (fun _ => optT (eqaV neq ks (ev C ρ x) (ev C ρ y)) (fun v => appT C cc σ σ2 r (putd ρ d v) acc KA .mk) .mk) .mk := by
  unfold appT optT onT
  by_cases h : C.eqs T = true
  · simp only [awpA, calmO2, calmO, isPure, pv, h, if_true, true_and]; cases eqaV neq ks (ev C ρ x) (ev C ρ y) <;> simp
  · simp only [awpA, calmO2, calmO, isPure, pv, if_neg h]; simp [h]
theorem a_nif (neq : Bool) (x : X) (d : Option Nat) (r : List O) (t : Tag KA) : appT C cc σ σ2 (⟨d, .nif neq x, none⟩ :: r) ρ acc KA t = optT (nifV neq (ev C ρ x)) (fun v => appT C cc σ σ2 r (putd ρ d v) acc KA .mk) .mk := by
  unfold appT optT; simp only [awpA, calmO2, calmO, isPure, pv]; cases nifV neq (ev C ρ x) <;> simp
theorem a_un (o : UnOp) (x : X) (d : Option Nat) (r : List O) (t : Tag KA) : appT C cc σ σ2 (⟨d, .un o x, none⟩ :: r) ρ acc KA t = optT (unV o (ev C ρ x)) (fun v => appT C cc σ σ2 r (putd ρ d v) acc KA .mk) .mk := by
  unfold appT optT; simp only [awpA, calmO2, calmO, isPure, pv]; cases (unV o (ev C ρ x)) <;> simp
theorem a_conv (kd : IntKind) (x : X) (d : Option Nat) (r : List O) (t : Tag KA) : appT C cc σ σ2 (⟨d, .conv kd x, none⟩ :: r) ρ acc KA t = optT (convV kd (ev C ρ x)) (fun v => appT C cc σ σ2 r (putd ρ d v) acc KA .mk) .mk := by
  unfold appT optT; simp only [awpA, calmO2, calmO, isPure, pv]; cases (convV kd (ev C ρ x)) <;> simp
theorem a_cstr (x : X) (d : Option Nat) (r : List O) (t : Tag KA) : appT C cc σ σ2 (⟨d, .cstr x, none⟩ :: r) ρ acc KA t = optT (cstrV (ev C ρ x)) (fun v => appT C cc σ σ2 r (putd ρ d v) acc KA .mk) .mk := by
  unfold appT optT; simp only [awpA, calmO2, calmO, isPure, pv]; cases (cstrV (ev C ρ x)) <;> simp
theorem a_cbs (x : X) (d : Option Nat) (r : List O) (t : Tag KA) : appT C cc σ σ2 (⟨d, .cbs x, none⟩ :: r) ρ acc KA t = optT (cbsV σ (ev C ρ x)) (fun v => onT (cbsV σ2 (ev C ρ x) = some v) (fun _ => appT C cc σ σ2 r (putd ρ d v) acc KA .mk) .mk) .mk := by
  unfold appT optT onT; simp only [awpA, calmO2, calmO, isPure, pv]; cases cbsV σ (ev C ρ x) <;> simp only
  rename_i v
  cases cbsV σ2 (ev C ρ x) <;> simp
theorem a_nilck (x : X) (d : Option Nat) (r : List O) (t : Tag KA) : appT C cc σ σ2 (⟨d, .nilck x, none⟩ :: r) ρ acc KA t = optT (nilckV (ev C ρ x)) (fun v => appT C cc σ σ2 r (putd ρ d v) acc KA .mk) .mk := by
  unfold appT optT; simp only [awpA, calmO2, calmO, isPure, pv]; cases (nilckV (ev C ρ x)) <;> simp
theorem a_fa (off : Nat) (x : X) (d : Option Nat) (r : List O) (t : Tag KA) : appT C cc σ σ2 (⟨d, .fa off x, none⟩ :: r) ρ acc KA t = optT (faV off (ev C ρ x)) (fun v => appT C cc σ σ2 r (putd ρ d v) acc KA .mk) .mk := by
  unfold appT optT; simp only [awpA, calmO2, calmO, isPure, pv]; cases (faV off (ev C ρ x)) <;> simp
theorem a_ia (kk : Nat) (x i : X) (d : Option Nat) (r : List O) (t : Tag KA) : appT C cc σ σ2 (⟨d, .ia kk x i, none⟩ :: r) ρ acc KA t = optT (iaV kk (ev C ρ x) (ev C ρ i)) (fun v => appT C cc σ σ2 r (putd ρ d v) acc KA .mk) .mk := by
  unfold appT optT; simp only [awpA, calmO2, calmO, isPure, pv]; cases (iaV kk (ev C ρ x) (ev C ρ i)) <;> simp
theorem a_aa (kk m : Nat) (x i : X) (d : Option Nat) (r : List O) (t : Tag KA) : appT C cc σ σ2 (⟨d, .aa kk m x i, none⟩ :: r) ρ acc KA t = optT (aaV kk m (ev C ρ x) (ev C ρ i)) (fun v => appT C cc σ σ2 r (putd ρ d v) acc KA .mk) .mk := by
  unfold appT optT; simp only [awpA, calmO2, calmO, isPure, pv]; cases (aaV kk m (ev C ρ x) (ev C ρ i)) <;> simp
theorem a_ix (x i : X) (d : Option Nat) (r : List O) (t : Tag KA) : appT C cc σ σ2 (⟨d, .ix x i, none⟩ :: r) ρ acc KA t = optT (ixV (ev C ρ x) (ev C ρ i)) (fun v => appT C cc σ σ2 r (putd ρ d v) acc KA .mk) .mk := by
  unfold appT optT; simp only [awpA, calmO2, calmO, isPure, pv]; cases (ixV (ev C ρ x) (ev C ρ i)) <;> simp
theorem a_fld (off kk : Nat) (ag : Bool) (x : X) (d : Option Nat) (r : List O) (t : Tag KA) : appT C cc σ σ2 (⟨d, .fld off kk ag x, none⟩ :: r) ρ acc KA t = optT (fldV off kk ag (ev C ρ x)) (fun v => appT C cc σ σ2 r (putd ρ d v) acc KA .mk) .mk := by
  unfold appT optT; simp only [awpA, calmO2, calmO, isPure, pv]; cases (fldV off kk ag (ev C ρ x)) <;> simp
theorem a_len (s : Bool) (x : X) (d : Option Nat) (r : List O) (t : Tag KA) : appT C cc σ σ2 (⟨d, .len s x, none⟩ :: r) ρ acc KA t = optT (lenV s (ev C ρ x)) (fun v => appT C cc σ σ2 r (putd ρ d v) acc KA .mk) .mk := by
  unfold appT optT; simp only [awpA, calmO2, calmO, isPure, pv]; cases (lenV s (ev C ρ x)) <;> simp
theorem a_ext (x : X) (i : Nat) (d : Option Nat) (r : List O) (t : Tag KA) : appT C cc σ σ2 (⟨d, .ext x i, none⟩ :: r) ρ acc KA t = optT (extV (ev C ρ x) i) (fun v => appT C cc σ σ2 r (putd ρ d v) acc KA .mk) .mk := by
  unfold appT optT; simp only [awpA, calmO2, calmO, isPure, pv]; cases (extV (ev C ρ x) i) <;> simp
theorem a_bld (zs : List V) (ps : List (Nat × Nat × X)) (d : Option Nat) (r : List O) (t : Tag KA) : appT C cc σ σ2 (⟨d, .bld zs ps, none⟩ :: r) ρ acc KA t = optT ((bldV (ev C ρ) zs ps).map V.agg) (fun v => appT C cc σ σ2 r (putd ρ d v) acc KA .mk) .mk := by
  unfold appT optT; simp only [awpA, calmO2, calmO, isPure, pv]; cases ((bldV (ev C ρ) zs ps).map V.agg) <;> simp
theorem a_sub (s : Bool) (kk : Nat) (x : X) (lo hi : Option X) (d : Option Nat) (r : List O) (t : Tag KA) : appT C cc σ σ2 (⟨d, .sub s kk x lo hi, none⟩ :: r) ρ acc KA t = optT (subV s kk (ev C ρ x) (lo.map (ev C ρ)) (hi.map (ev C ρ))) (fun v => appT C cc σ σ2 r (putd ρ d v) acc KA .mk) .mk := by
  unfold appT optT; simp only [awpA, calmO2, calmO, isPure, pv]; cases (subV s kk (ev C ρ x) (lo.map (ev C ρ)) (hi.map (ev C ρ))) <;> simp
theorem a_mkfn (f : FuncId) (cap : List X) (d : Option Nat) (r : List O) (t : Tag KA) : appT C cc σ σ2 (⟨d, .mkfn f cap, none⟩ :: r) ρ acc KA t = appT C cc σ σ2 r (putd ρ d (.fn f (cap.map (ev C ρ)))) acc KA .mk := by
  unfold appT; simp only [awpA, calmO2, calmO, isPure, pv, true_and]
theorem a_mki (ty : TypeId) (x : X) (d : Option Nat) (r : List O) (t : Tag KA) : appT C cc σ σ2 (⟨d, .mki ty x, none⟩ :: r) ρ acc KA t = optT (mkiV ty (ev C ρ x)) (fun v => appT C cc σ σ2 r (putd ρ d v) acc KA .mk) .mk := by
  unfold appT optT; simp only [awpA, calmO2, calmO, isPure, pv]; cases (mkiV ty (ev C ρ x)) <;> simp
theorem a_mx (g : Bool) (x y : X) (d : Option Nat) (r : List O) (t : Tag KA) : appT C cc σ σ2 (⟨d, .mx g x y, none⟩ :: r) ρ acc KA t = optT (mxV g (ev C ρ x) (ev C ρ y)) (fun v => appT C cc σ σ2 r (putd ρ d v) acc KA .mk) .mk := by
  unfold appT optT; simp only [awpA, calmO2, calmO, isPure, pv]; cases (mxV g (ev C ρ x) (ev C ρ y)) <;> simp
theorem a_load (kk : Nat) (ag : Bool) (x : X) (d : Option Nat) (r : List O) (t : Tag KA) : appT C cc σ σ2 (⟨d, .load kk ag x, none⟩ :: r) ρ acc KA t = optT (loadV σ kk ag (ev C ρ x)) (fun v => onT (loadV σ2 kk ag (ev C ρ x) = some v) (fun _ => appT C cc σ σ2 r (putd ρ d v) acc KA .mk) .mk) .mk := by
  unfold appT optT onT; simp only [awpA, calmO2, calmO, isPure, pv]; cases loadV σ kk ag (ev C ρ x) <;> simp only
  rename_i v
  cases loadV σ2 kk ag (ev C ρ x) <;> simp
theorem a_call (f : FuncId) (args : List X) (d : Option Nat) (r : List O) (t : Tag KA) : appT C cc σ σ2 (⟨d, .call f args, none⟩ :: r) ρ acc KA t = CallT2 C f (args.map fun x => (ev C ρ x).lend) σ σ2 (fun v => appT C cc σ σ2 r (putd ρ d v) acc KA .mk) .mk := by
  unfold appT CallT2; simp only [awpA, calmO2, calmO]
  exact propext ⟨fun ⟨v, h1, ⟨u, h2, h3⟩, h4⟩ => ⟨v, h1, h3 ▸ h2, h4⟩, fun ⟨v, h1, h2, h3⟩ => ⟨v, h1, ⟨v, h2, rfl⟩, h3⟩⟩
theorem a_mks (T k : Nat) (xs : List X) (d : Option Nat) (r : List O) (t : Tag KA) : appT C cc σ σ2 (⟨d, .mks T k xs, none⟩ :: r) ρ acc KA t = rwT (rowsOf (xs.map (ev C ρ))) (fun rows => onT (rows.all (fun r => r.length == k) = true) (fun _ => appT C cc σ σ2 r (putd ρ d (.d (.sl rows))) acc KA .mk) .mk) .mk := by
  unfold appT rwT onT; simp only [awpA, calmO2, calmO]
  cases rowsOf (xs.map (ev C ρ)) <;> simp only
  rename_i rows
  exact propext ⟨fun ⟨h1, _, h2⟩ => ⟨h1, h2⟩, fun ⟨h1, h2⟩ => ⟨h1, ⟨h1, trivial⟩, h2⟩⟩
theorem a_ldo (y : X) (d : Option Nat) (r : List O) (t : Tag KA) : appT C cc σ σ2 (⟨d, .ldo y, none⟩ :: r) ρ acc KA t = onT (ev C ρ y = .ptr cc.i cc.off) (fun _ => appT C cc σ σ2 r (putd ρ d (.d (.sl cc.rows))) acc KA .mk) .mk := by
  unfold appT onT; simp only [awpA, true_and]
theorem a_app (T k bytes s : Nat) (y : X) (d : Option Nat) (r : List O) (t : Tag KA) : appT C cc σ σ2 (⟨d, .app T k bytes s y, none⟩ :: r) ρ none KA t = rwT (rowsV (ev C ρ y)) (fun rows2 => onT (cc.T = T ∧ cc.k = k ∧ rows2.all (fun r => r.length == k) = true ∧ (cc.rows.length + rows2.length) * bytes ≤ 140737488355328) (fun _ => appT C cc σ σ2 r (putd ρ d (.d (.sl (cc.rows ++ rows2)))) (some rows2) KA .mk) .mk) .mk := by
  unfold appT rwT onT; simp only [awpA, true_and]
  cases rowsV (ev C ρ y) <;> rfl
theorem a_stoo (y : X) (s : Nat) (r : List O) (t : Tag KA) : appT C cc σ σ2 (⟨none, .stoo y s, none⟩ :: r) ρ acc KA t = onT (ev C ρ y = .ptr cc.i cc.off) (fun _ => appT C cc σ σ2 r ρ acc KA .mk) .mk := by
  unfold appT onT; simp only [awpA, true_and]
theorem a_nil (rows2 : List (List D)) (t : Tag KA) : appT C cc σ σ2 [] ρ (some rows2) KA t = KA ρ rows2 := rfl
theorem w_drawa (l : List O) (keep : List Nat) (t : Tag Q) : awpT C n0 (.drawa l keep) ρ σ Q t = appAny C l ρ σ (fun ρ' σ' => Q .normal (keepOnly keep ρ') σ') .mk := rfl
theorem b_mv (x : X) (d : Option Nat) (r : List O) (t : Tag KN) : newT C cn σ σ2 (⟨d, .mv x, none⟩ :: r) ρ accn KN t = newT C cn σ σ2 r (putd ρ d (ev C ρ x).copy) accn KN .mk := by
  unfold newT; simp only [awpN, calmO2, calmO, isPure, pv, true_and]
theorem b_pick (x y z : X) (d : Option Nat) (r : List O) (t : Tag KN) : newT C cn σ σ2 (⟨d, .pick x y z, none⟩ :: r) ρ accn KN t = optT (pickV (ev C ρ x) (ev C ρ y) (ev C ρ z)) (fun v => newT C cn σ σ2 r (putd ρ d v) accn KN .mk) .mk := by
  unfold newT optT; simp only [awpN, calmO2, calmO, isPure, pv]; cases (pickV (ev C ρ x) (ev C ρ y) (ev C ρ z)) <;> simp
theorem b_bin (o : BinOp) (x y : X) (d : Option Nat) (r : List O) (t : Tag KN) : newT C cn σ σ2 (⟨d, .bin o x y, none⟩ :: r) ρ accn KN t = optT (binV o (ev C ρ x) (ev C ρ y)) (fun v => newT C cn σ σ2 r (putd ρ d v) accn KN .mk) .mk := by
  unfold newT optT; simp only [awpN, calmO2, calmO, isPure, pv]; cases (binV o (ev C ρ x) (ev C ρ y)) <;> simp
theorem b_binb (o : BinOp) (x y : X) (d : Option Nat) (r : List O) (t : Tag KN) : newT C cn σ σ2 (⟨d, .binb o x y, none⟩ :: r) ρ accn KN t = optT (binbV o (ev C ρ x) (ev C ρ y)) (fun v => newT C cn σ σ2 r (putd ρ d v) accn KN .mk) .mk := by
  unfold newT optT; simp only [awpN, calmO2, calmO, isPure, pv]; cases (binbV o (ev C ρ x) (ev C ρ y)) <;> simp
theorem b_eqa (neq : Bool) (T : TypeId) (ks : List Kd) (x y : X) (d : Option Nat) (r : List O) (t : Tag KN) : newT C cn σ σ2 (⟨d, .eqa neq T ks x y, none⟩ :: r) ρ accn KN t = onT (C.eqs T = true) (fun _ => optT (eqaV neq ks (ev C ρ x) (ev C ρ y)) (fun v => newT C cn σ σ2 r (putd ρ d v) accn KN .mk) .mk) .mk := by
  unfold newT optT onT
  by_cases h : C.eqs T = true
  · simp only [awpN, calmO2, calmO, isPure, pv, h, if_true, true_and]; cases eqaV neq ks (ev C ρ x) (ev C ρ y) <;> simp
  · simp only [awpN, calmO2, calmO, isPure, pv, if_neg h]; simp [h]
theorem b_nif (neq : Bool) (x : X) (d : Option Nat) (r : List O) (t : Tag KN) : newT C cn σ σ2 (⟨d, .nif neq x, none⟩ :: r) ρ accn KN t = optT (nifV neq (ev C ρ x)) (fun v => newT C cn σ σ2 r (putd ρ d v) accn KN .mk) .mk := by
  unfold newT optT; simp only [awpN, calmO2, calmO, isPure, pv]; cases nifV neq (ev C ρ x) <;> simp
theorem b_un (o : UnOp) (x : X) (d : Option Nat) (r : List O) (t : Tag KN) : newT C cn σ σ2 (⟨d, .un o x, none⟩ :: r) ρ accn KN t = optT (unV o (ev C ρ x)) (fun v => newT C cn σ σ2 r (putd ρ d v) accn KN .mk) .mk := by
  unfold newT optT; simp only [awpN, calmO2, calmO, isPure, pv]; cases (unV o (ev C ρ x)) <;> simp
theorem b_conv (kd : IntKind) (x : X) (d : Option Nat) (r : List O) (t : Tag KN) : newT C cn σ σ2 (⟨d, .conv kd x, none⟩ :: r) ρ accn KN t = optT (convV kd (ev C ρ x)) (fun v => newT C cn σ σ2 r (putd ρ d v) accn KN .mk) .mk := by
  unfold newT optT; simp only [awpN, calmO2, calmO, isPure, pv]; cases (convV kd (ev C ρ x)) <;> simp
theorem b_cstr (x : X) (d : Option Nat) (r : List O) (t : Tag KN) : newT C cn σ σ2 (⟨d, .cstr x, none⟩ :: r) ρ accn KN t = optT (cstrV (ev C ρ x)) (fun v => newT C cn σ σ2 r (putd ρ d v) accn KN .mk) .mk := by
  unfold newT optT; simp only [awpN, calmO2, calmO, isPure, pv]; cases (cstrV (ev C ρ x)) <;> simp
theorem b_cbs (x : X) (d : Option Nat) (r : List O) (t : Tag KN) : newT C cn σ σ2 (⟨d, .cbs x, none⟩ :: r) ρ accn KN t = optT (cbsV σ (ev C ρ x)) (fun v => onT (cbsV σ2 (ev C ρ x) = some v) (fun _ => newT C cn σ σ2 r (putd ρ d v) accn KN .mk) .mk) .mk := by
  unfold newT optT onT; simp only [awpN, calmO2, calmO, isPure, pv]; cases cbsV σ (ev C ρ x) <;> simp only
  rename_i v
  cases cbsV σ2 (ev C ρ x) <;> simp
theorem b_nilck (x : X) (d : Option Nat) (r : List O) (t : Tag KN) : newT C cn σ σ2 (⟨d, .nilck x, none⟩ :: r) ρ accn KN t = optT (nilckV (ev C ρ x)) (fun v => newT C cn σ σ2 r (putd ρ d v) accn KN .mk) .mk := by
  unfold newT optT; simp only [awpN, calmO2, calmO, isPure, pv]; cases (nilckV (ev C ρ x)) <;> simp
theorem b_fa (off : Nat) (x : X) (d : Option Nat) (r : List O) (t : Tag KN) : newT C cn σ σ2 (⟨d, .fa off x, none⟩ :: r) ρ accn KN t = optT (faV off (ev C ρ x)) (fun v => newT C cn σ σ2 r (putd ρ d v) accn KN .mk) .mk := by
  unfold newT optT; simp only [awpN, calmO2, calmO, isPure, pv]; cases (faV off (ev C ρ x)) <;> simp
theorem b_ia (kk : Nat) (x i : X) (d : Option Nat) (r : List O) (t : Tag KN) : newT C cn σ σ2 (⟨d, .ia kk x i, none⟩ :: r) ρ accn KN t = optT (iaV kk (ev C ρ x) (ev C ρ i)) (fun v => newT C cn σ σ2 r (putd ρ d v) accn KN .mk) .mk := by
  unfold newT optT; simp only [awpN, calmO2, calmO, isPure, pv]; cases (iaV kk (ev C ρ x) (ev C ρ i)) <;> simp
theorem b_aa (kk m : Nat) (x i : X) (d : Option Nat) (r : List O) (t : Tag KN) : newT C cn σ σ2 (⟨d, .aa kk m x i, none⟩ :: r) ρ accn KN t = optT (aaV kk m (ev C ρ x) (ev C ρ i)) (fun v => newT C cn σ σ2 r (putd ρ d v) accn KN .mk) .mk := by
  unfold newT optT; simp only [awpN, calmO2, calmO, isPure, pv]; cases (aaV kk m (ev C ρ x) (ev C ρ i)) <;> simp
theorem b_ix (x i : X) (d : Option Nat) (r : List O) (t : Tag KN) : newT C cn σ σ2 (⟨d, .ix x i, none⟩ :: r) ρ accn KN t = optT (ixV (ev C ρ x) (ev C ρ i)) (fun v => newT C cn σ σ2 r (putd ρ d v) accn KN .mk) .mk := by
  unfold newT optT; simp only [awpN, calmO2, calmO, isPure, pv]; cases (ixV (ev C ρ x) (ev C ρ i)) <;> simp
theorem b_fld (off kk : Nat) (ag : Bool) (x : X) (d : Option Nat) (r : List O) (t : Tag KN) : newT C cn σ σ2 (⟨d, .fld off kk ag x, none⟩ :: r) ρ accn KN t = optT (fldV off kk ag (ev C ρ x)) (fun v => newT C cn σ σ2 r (putd ρ d v) accn KN .mk) .mk := by
  unfold newT optT; simp only [awpN, calmO2, calmO, isPure, pv]; cases (fldV off kk ag (ev C ρ x)) <;> simp
theorem b_len (s : Bool) (x : X) (d : Option Nat) (r : List O) (t : Tag KN) : newT C cn σ σ2 (⟨d, .len s x, none⟩ :: r) ρ accn KN t = optT (lenV s (ev C ρ x)) (fun v => newT C cn σ σ2 r (putd ρ d v) accn KN .mk) .mk := by
  unfold newT optT; simp only [awpN, calmO2, calmO, isPure, pv]; cases (lenV s (ev C ρ x)) <;> simp
theorem b_ext (x : X) (i : Nat) (d : Option Nat) (r : List O) (t : Tag KN) : newT C cn σ σ2 (⟨d, .ext x i, none⟩ :: r) ρ accn KN t = optT (extV (ev C ρ x) i) (fun v => newT C cn σ σ2 r (putd ρ d v) accn KN .mk) .mk := by
  unfold newT optT; simp only [awpN, calmO2, calmO, isPure, pv]; cases (extV (ev C ρ x) i) <;> simp
theorem b_bld (zs : List V) (ps : List (Nat × Nat × X)) (d : Option Nat) (r : List O) (t : Tag KN) : newT C cn σ σ2 (⟨d, .bld zs ps, none⟩ :: r) ρ accn KN t = optT ((bldV (ev C ρ) zs ps).map V.agg) (fun v => newT C cn σ σ2 r (putd ρ d v) accn KN .mk) .mk := by
  unfold newT optT; simp only [awpN, calmO2, calmO, isPure, pv]; cases ((bldV (ev C ρ) zs ps).map V.agg) <;> simp
theorem b_sub (s : Bool) (kk : Nat) (x : X) (lo hi : Option X) (d : Option Nat) (r : List O) (t : Tag KN) : newT C cn σ σ2 (⟨d, .sub s kk x lo hi, none⟩ :: r) ρ accn KN t = optT (subV s kk (ev C ρ x) (lo.map (ev C ρ)) (hi.map (ev C ρ))) (fun v => newT C cn σ σ2 r (putd ρ d v) accn KN .mk) .mk := by
  unfold newT optT; simp only [awpN, calmO2, calmO, isPure, pv]; cases (subV s kk (ev C ρ x) (lo.map (ev C ρ)) (hi.map (ev C ρ))) <;> simp
theorem b_mkfn (f : FuncId) (cap : List X) (d : Option Nat) (r : List O) (t : Tag KN) : newT C cn σ σ2 (⟨d, .mkfn f cap, none⟩ :: r) ρ accn KN t = newT C cn σ σ2 r (putd ρ d (.fn f (cap.map (ev C ρ)))) accn KN .mk := by
  unfold newT; simp only [awpN, calmO2, calmO, isPure, pv, true_and]
theorem b_mki (ty : TypeId) (x : X) (d : Option Nat) (r : List O) (t : Tag KN) : newT C cn σ σ2 (⟨d, .mki ty x, none⟩ :: r) ρ accn KN t = optT (mkiV ty (ev C ρ x)) (fun v => newT C cn σ σ2 r (putd ρ d v) accn KN .mk) .mk := by
  unfold newT optT; simp only [awpN, calmO2, calmO, isPure, pv]; cases (mkiV ty (ev C ρ x)) <;> simp
theorem b_mx (g : Bool) (x y : X) (d : Option Nat) (r : List O) (t : Tag KN) : newT C cn σ σ2 (⟨d, .mx g x y, none⟩ :: r) ρ accn KN t = optT (mxV g (ev C ρ x) (ev C ρ y)) (fun v => newT C cn σ σ2 r (putd ρ d v) accn KN .mk) .mk := by
  unfold newT optT; simp only [awpN, calmO2, calmO, isPure, pv]; cases (mxV g (ev C ρ x) (ev C ρ y)) <;> simp
theorem b_load (kk : Nat) (ag : Bool) (x : X) (d : Option Nat) (r : List O) (t : Tag KN) : newT C cn σ σ2 (⟨d, .load kk ag x, none⟩ :: r) ρ accn KN t = optT (loadV σ kk ag (ev C ρ x)) (fun v => onT (loadV σ2 kk ag (ev C ρ x) = some v) (fun _ => newT C cn σ σ2 r (putd ρ d v) accn KN .mk) .mk) .mk := by
  unfold newT optT onT; simp only [awpN, calmO2, calmO, isPure, pv]; cases loadV σ kk ag (ev C ρ x) <;> simp only
  rename_i v
  cases loadV σ2 kk ag (ev C ρ x) <;> simp
theorem b_call (f : FuncId) (args : List X) (d : Option Nat) (r : List O) (t : Tag KN) : newT C cn σ σ2 (⟨d, .call f args, none⟩ :: r) ρ accn KN t = CallT2 C f (args.map fun x => (ev C ρ x).lend) σ σ2 (fun v => newT C cn σ σ2 r (putd ρ d v) accn KN .mk) .mk := by
  unfold newT CallT2; simp only [awpN, calmO2, calmO]
  exact propext ⟨fun ⟨v, h1, ⟨u, h2, h3⟩, h4⟩ => ⟨v, h1, h3 ▸ h2, h4⟩, fun ⟨v, h1, h2, h3⟩ => ⟨v, h1, ⟨v, h2, rfl⟩, h3⟩⟩
theorem b_mks (T k : Nat) (xs : List X) (d : Option Nat) (r : List O) (t : Tag KN) : newT C cn σ σ2 (⟨d, .mks T k xs, none⟩ :: r) ρ accn KN t = rwT (rowsOf (xs.map (ev C ρ))) (fun rows => onT (rows.all (fun r => r.length == k) = true) (fun _ => newT C cn σ σ2 r (putd ρ d (.d (.sl rows))) accn KN .mk) .mk) .mk := by
  unfold newT rwT onT; simp only [awpN, calmO2, calmO]
  cases rowsOf (xs.map (ev C ρ)) <;> simp only
  rename_i rows
  exact propext ⟨fun ⟨h1, _, h2⟩ => ⟨h1, h2⟩, fun ⟨h1, h2⟩ => ⟨h1, ⟨h1, trivial⟩, h2⟩⟩
theorem b_new (T : Nat) (cs' : List V) (d : Option Nat) (r : List O) (t : Tag KN) : newT C cn σ σ2 (⟨d, .new T cs', none⟩ :: r) ρ accn KN t = onT (cs' = cn) (fun _ => newT C cn σ σ2 r (putd ρ d (.ptr σ.length 0)) accn KN .mk) .mk := by
  unfold newT onT; simp only [awpN, true_and]
theorem b_sto (kk : Nat) (y z : X) (r : List O) (t : Tag KN) : newT C cn σ σ2 (⟨none, .sto kk y z, none⟩ :: r) ρ none KN t = ptrT (ev C ρ y) (fun i off => onT (i = σ.length ∧ (ev C ρ z).boxable = true ∧ (ev C ρ z).cells.length = kk ∧ off + kk ≤ cn.length) (fun _ => newT C cn σ σ2 r ρ (some (over cn off (ev C ρ z).cells)) KN .mk) .mk) .mk := by
  unfold newT onT ptrT; simp only [awpN, true_and]
  cases ev C ρ y <;> simp only
  exact propext ⟨fun ⟨h1, h2, h3⟩ => ⟨⟨h1, h2⟩, h3⟩, fun ⟨⟨h1, h2⟩, h3⟩ => ⟨h1, h2, h3⟩⟩
theorem b_guard (d : Option Nat) (op : OP) (s : Nat) (b : Bool) (r : List O) (t : Tag KN) (h : op.specialN = false) : newT C cn σ σ2 (⟨d, op, some (s, b)⟩ :: r) ρ accn KN t = boolU (get ρ s) (fun c => iteT (c == b) (fun _ => newT C cn σ σ2 (⟨d, op, none⟩ :: r) (put ρ s (.d (.lit (.bool b)))) accn KN .mk) (fun _ => newT C cn σ σ2 r (putd (put ρ s (.d (.lit (.bool (!b))))) d (.tup [])) accn KN .mk) .mk .mk) (fun _ => newT C cn σ σ2 r (putd ρ d (.tup [])) accn KN .mk) .mk .mk := by
  unfold newT boolU iteT
  cases op <;> first | (cases h; done) | (simp only [awpN, beq_iff_eq, beq_eq_false_iff_ne, ne_eq]; done) | (simp only [awpN, beq_iff_eq, beq_eq_false_iff_ne, ne_eq]; rfl)
theorem b_nil (fin : List V) (t : Tag KN) : newT C cn σ σ2 [] ρ (some fin) KN t = KN ρ fin := rfl
theorem w_drawn (cs : List V) (l : List O) (keep : List Nat) (t : Tag Q) : awpT C n0 (.drawn cs l keep) ρ σ Q t = newT C cs σ (σ ++ [cs]) l ρ none (fun ρ' fin => Q .normal (keepOnly keep ρ') (σ ++ [fin])) .mk := rfl
theorem s_mv (x : X) (d : Option Nat) (r : List O) (t : Tag KS) : stT C (⟨d, .mv x, none⟩ :: r) ρ σ accs KS t = stT C r (putd ρ d (ev C ρ x).copy) σ accs KS .mk := rfl
theorem s_pick (x y z : X) (d : Option Nat) (r : List O) (t : Tag KS) : stT C (⟨d, .pick x y z, none⟩ :: r) ρ σ accs KS t = optT (pickV (ev C ρ x) (ev C ρ y) (ev C ρ z)) (fun v => stT C r (putd ρ d v) σ accs KS .mk) .mk := by
  unfold stT optT; simp only [awpS, calmO, isPure, pv]; cases pickV (ev C ρ x) (ev C ρ y) (ev C ρ z) <;> rfl
theorem s_bin (o : BinOp) (x y : X) (d : Option Nat) (r : List O) (t : Tag KS) : stT C (⟨d, .bin o x y, none⟩ :: r) ρ σ accs KS t = optT (binV o (ev C ρ x) (ev C ρ y)) (fun v => stT C r (putd ρ d v) σ accs KS .mk) .mk := by
  unfold stT optT; simp only [awpS, calmO, isPure, pv]; cases binV o (ev C ρ x) (ev C ρ y) <;> rfl
theorem s_binb (o : BinOp) (x y : X) (d : Option Nat) (r : List O) (t : Tag KS) : stT C (⟨d, .binb o x y, none⟩ :: r) ρ σ accs KS t = optT (binbV o (ev C ρ x) (ev C ρ y)) (fun v => stT C r (putd ρ d v) σ accs KS .mk) .mk := by
  unfold stT optT; simp only [awpS, calmO, isPure, pv]; cases binbV o (ev C ρ x) (ev C ρ y) <;> rfl
theorem s_eqa (neq : Bool) (T : TypeId) (ks : List Kd) (x y : X) (d : Option Nat) (r : List O) (t : Tag KS) : stT C (⟨d, .eqa neq T ks x y, none⟩ :: r) ρ σ accs KS t = onT (C.eqs T = true) (fun _ => optT (eqaV neq ks (ev C ρ x) (ev C ρ y)) (fun v => stT C r (putd ρ d v) σ accs KS .mk) .mk) .mk := by
  unfold stT optT onT
  by_cases h : C.eqs T = true
  · simp only [awpS, calmO, isPure, pv, h, if_true, true_and]; cases eqaV neq ks (ev C ρ x) (ev C ρ y) <;> simp
  · simp only [awpS, calmO, isPure, pv, if_neg h]; simp [h]
theorem s_nif (neq : Bool) (x : X) (d : Option Nat) (r : List O) (t : Tag KS) : stT C (⟨d, .nif neq x, none⟩ :: r) ρ σ accs KS t = optT (nifV neq (ev C ρ x)) (fun v => stT C r (putd ρ d v) σ accs KS .mk) .mk := by
  unfold stT optT; simp only [awpS, calmO, isPure, pv]; cases nifV neq (ev C ρ x) <;> simp
theorem s_un (o : UnOp) (x : X) (d : Option Nat) (r : List O) (t : Tag KS) : stT C (⟨d, .un o x, none⟩ :: r) ρ σ accs KS t = optT (unV o (ev C ρ x)) (fun v => stT C r (putd ρ d v) σ accs KS .mk) .mk := by
  unfold stT optT; simp only [awpS, calmO, isPure, pv]; cases unV o (ev C ρ x) <;> rfl
theorem s_conv (kd : IntKind) (x : X) (d : Option Nat) (r : List O) (t : Tag KS) : stT C (⟨d, .conv kd x, none⟩ :: r) ρ σ accs KS t = optT (convV kd (ev C ρ x)) (fun v => stT C r (putd ρ d v) σ accs KS .mk) .mk := by
  unfold stT optT; simp only [awpS, calmO, isPure, pv]; cases convV kd (ev C ρ x) <;> rfl
theorem s_cstr (x : X) (d : Option Nat) (r : List O) (t : Tag KS) : stT C (⟨d, .cstr x, none⟩ :: r) ρ σ accs KS t = optT (cstrV (ev C ρ x)) (fun v => stT C r (putd ρ d v) σ accs KS .mk) .mk := by
  unfold stT optT; simp only [awpS, calmO, isPure, pv]; cases cstrV (ev C ρ x) <;> rfl
theorem s_cbs (x : X) (d : Option Nat) (r : List O) (t : Tag KS) : stT C (⟨d, .cbs x, none⟩ :: r) ρ σ accs KS t = optT (cbsV σ (ev C ρ x)) (fun v => stT C r (putd ρ d v) σ accs KS .mk) .mk := by
  unfold stT optT; simp only [awpS, calmO, isPure, pv]; cases cbsV σ (ev C ρ x) <;> rfl
theorem s_nilck (x : X) (d : Option Nat) (r : List O) (t : Tag KS) : stT C (⟨d, .nilck x, none⟩ :: r) ρ σ accs KS t = optT (nilckV (ev C ρ x)) (fun v => stT C r (putd ρ d v) σ accs KS .mk) .mk := by
  unfold stT optT; simp only [awpS, calmO, isPure, pv]; cases nilckV (ev C ρ x) <;> rfl
theorem s_fa (off : Nat) (x : X) (d : Option Nat) (r : List O) (t : Tag KS) : stT C (⟨d, .fa off x, none⟩ :: r) ρ σ accs KS t = optT (faV off (ev C ρ x)) (fun v => stT C r (putd ρ d v) σ accs KS .mk) .mk := by
  unfold stT optT; simp only [awpS, calmO, isPure, pv]; cases faV off (ev C ρ x) <;> rfl
theorem s_ia (kk : Nat) (x i : X) (d : Option Nat) (r : List O) (t : Tag KS) : stT C (⟨d, .ia kk x i, none⟩ :: r) ρ σ accs KS t = optT (iaV kk (ev C ρ x) (ev C ρ i)) (fun v => stT C r (putd ρ d v) σ accs KS .mk) .mk := by
  unfold stT optT; simp only [awpS, calmO, isPure, pv]; cases iaV kk (ev C ρ x) (ev C ρ i) <;> rfl
theorem s_aa (kk m : Nat) (x i : X) (d : Option Nat) (r : List O) (t : Tag KS) : stT C (⟨d, .aa kk m x i, none⟩ :: r) ρ σ accs KS t = optT (aaV kk m (ev C ρ x) (ev C ρ i)) (fun v => stT C r (putd ρ d v) σ accs KS .mk) .mk := by
  unfold stT optT; simp only [awpS, calmO, isPure, pv]; cases aaV kk m (ev C ρ x) (ev C ρ i) <;> rfl
theorem s_ix (x i : X) (d : Option Nat) (r : List O) (t : Tag KS) : stT C (⟨d, .ix x i, none⟩ :: r) ρ σ accs KS t = optT (ixV (ev C ρ x) (ev C ρ i)) (fun v => stT C r (putd ρ d v) σ accs KS .mk) .mk := by
  unfold stT optT; simp only [awpS, calmO, isPure, pv]; cases ixV (ev C ρ x) (ev C ρ i) <;> rfl
theorem s_fld (off kk : Nat) (ag : Bool) (x : X) (d : Option Nat) (r : List O) (t : Tag KS) : stT C (⟨d, .fld off kk ag x, none⟩ :: r) ρ σ accs KS t = optT (fldV off kk ag (ev C ρ x)) (fun v => stT C r (putd ρ d v) σ accs KS .mk) .mk := by
  unfold stT optT; simp only [awpS, calmO, isPure, pv]; cases fldV off kk ag (ev C ρ x) <;> rfl
theorem s_len (s : Bool) (x : X) (d : Option Nat) (r : List O) (t : Tag KS) : stT C (⟨d, .len s x, none⟩ :: r) ρ σ accs KS t = optT (lenV s (ev C ρ x)) (fun v => stT C r (putd ρ d v) σ accs KS .mk) .mk := by
  unfold stT optT; simp only [awpS, calmO, isPure, pv]; cases lenV s (ev C ρ x) <;> rfl
theorem s_ext (x : X) (i : Nat) (d : Option Nat) (r : List O) (t : Tag KS) : stT C (⟨d, .ext x i, none⟩ :: r) ρ σ accs KS t = optT (extV (ev C ρ x) i) (fun v => stT C r (putd ρ d v) σ accs KS .mk) .mk := by
  unfold stT optT; simp only [awpS, calmO, isPure, pv]; cases extV (ev C ρ x) i <;> rfl
theorem s_load (kk : Nat) (ag : Bool) (x : X) (d : Option Nat) (r : List O) (t : Tag KS) : stT C (⟨d, .load kk ag x, none⟩ :: r) ρ σ accs KS t = optT (loadV σ kk ag (ev C ρ x)) (fun v => stT C r (putd ρ d v) σ accs KS .mk) .mk := by
  unfold stT optT; simp only [awpS, calmO, isPure, pv]; cases loadV σ kk ag (ev C ρ x) <;> rfl
theorem s_bld (zs : List V) (ps : List (Nat × Nat × X)) (d : Option Nat) (r : List O) (t : Tag KS) : stT C (⟨d, .bld zs ps, none⟩ :: r) ρ σ accs KS t = optT ((bldV (ev C ρ) zs ps).map V.agg) (fun v => stT C r (putd ρ d v) σ accs KS .mk) .mk := by
  unfold stT optT; simp only [awpS, calmO, isPure, pv]; cases bldV (ev C ρ) zs ps <;> rfl
theorem s_sub (s : Bool) (kk : Nat) (x : X) (lo hi : Option X) (d : Option Nat) (r : List O) (t : Tag KS) : stT C (⟨d, .sub s kk x lo hi, none⟩ :: r) ρ σ accs KS t = optT (subV s kk (ev C ρ x) (lo.map (ev C ρ)) (hi.map (ev C ρ))) (fun v => stT C r (putd ρ d v) σ accs KS .mk) .mk := by
  unfold stT optT; simp only [awpS, calmO, isPure, pv]; cases subV s kk (ev C ρ x) (lo.map (ev C ρ)) (hi.map (ev C ρ)) <;> rfl
theorem s_mkfn (f : FuncId) (cap : List X) (d : Option Nat) (r : List O) (t : Tag KS) : stT C (⟨d, .mkfn f cap, none⟩ :: r) ρ σ accs KS t = stT C r (putd ρ d (.fn f (cap.map (ev C ρ)))) σ accs KS .mk := rfl
theorem s_mki (ty : TypeId) (x : X) (d : Option Nat) (r : List O) (t : Tag KS) : stT C (⟨d, .mki ty x, none⟩ :: r) ρ σ accs KS t = optT (mkiV ty (ev C ρ x)) (fun v => stT C r (putd ρ d v) σ accs KS .mk) .mk := by
  unfold stT optT; simp only [awpS, calmO, isPure, pv]; cases mkiV ty (ev C ρ x) <;> rfl
theorem s_mx (g : Bool) (x y : X) (d : Option Nat) (r : List O) (t : Tag KS) : stT C (⟨d, .mx g x y, none⟩ :: r) ρ σ accs KS t = optT (mxV g (ev C ρ x) (ev C ρ y)) (fun v => stT C r (putd ρ d v) σ accs KS .mk) .mk := by
  unfold stT optT; simp only [awpS, calmO, isPure, pv]; cases mxV g (ev C ρ x) (ev C ρ y) <;> rfl
theorem s_call (f : FuncId) (args : List X) (d : Option Nat) (r : List O) (t : Tag KS) : stT C (⟨d, .call f args, none⟩ :: r) ρ σ accs KS t = CallT C f (args.map fun x => (ev C ρ x).lend) σ (fun v => stT C r (putd ρ d v) σ accs KS .mk) .mk := rfl
theorem s_callv (x : X) (args : List X) (d : Option Nat) (r : List O) (t : Tag KS) : stT C (⟨d, .callv x args, none⟩ :: r) ρ σ accs KS t = fnT (ev C ρ x) (fun f cap => CallT C f ((args.map fun x => (ev C ρ x).lend) ++ cap) σ (fun v => stT C r (putd ρ d v) σ accs KS .mk) .mk) .mk := rfl
theorem s_mks (T k : Nat) (xs : List X) (d : Option Nat) (r : List O) (t : Tag KS) : stT C (⟨d, .mks T k xs, none⟩ :: r) ρ σ accs KS t = rwT (rowsOf (xs.map (ev C ρ))) (fun rows => onT (rows.all (fun r => r.length == k) = true) (fun _ => stT C r (putd ρ d (.d (.sl rows))) σ accs KS .mk) .mk) .mk := rfl
theorem s_sto (kk : Nat) (y z : X) (r : List O) (t : Tag KS) : stT C (⟨none, .sto kk y z, none⟩ :: r) ρ σ none KS t = ptrT (ev C ρ y) (fun i off => bxT σ[i]? (fun cs => onT ((ev C ρ z).boxable = true ∧ (ev C ρ z).cells.length = kk ∧ off + kk ≤ cs.length) (fun _ => stT C r ρ σ (some (σ.set i (over cs off (ev C ρ z).cells))) KS .mk) .mk) .mk) .mk := by
  unfold stT onT ptrT bxT; simp only [awpS, true_and]
  cases ev C ρ y <;> simp only
theorem s_nil (σf : List (List V)) (t : Tag KS) : stT C [] ρ σ (some σf) KS t = KS ρ σf := rfl
theorem w_draws (l : List O) (keep : List Nat) (t : Tag Q) : awpT C n0 (.draws l keep) ρ σ Q t = stT C l ρ σ none (fun ρ' σ' => Q .normal (keepOnly keep ρ') σ') .mk := rfl
/-- The cell that such a region appends to. -/
theorem app_at (c : Cell) {l : List O} {K : Slots → List (List V) → Prop} {t : Tag K} {cs : List V} (h1 : σ[c.i]? = some cs) (h2 : cs[c.off]? = some (.own c.T c.k c.rows))
    (h : appT C c σ (σ.set c.i (cs.set c.off (.d (.sl c.rows)))) l ρ none (fun ρ' rows2 => K ρ' ((σ.set c.i (cs.set c.off (.d (.sl c.rows)))).set c.i (over (cs.set c.off (.d (.sl c.rows))) c.off [.own c.T c.k (c.rows ++ rows2)]))) .mk) : appAny C l ρ σ K t := ⟨c, cs, h1, h2, h⟩

theorem w_skip (t : Tag Q) : awpT C n0 .skip ρ σ Q t = Q .normal ρ σ := rfl
theorem w_ops (l : List O) (keep : List Nat) (t : Tag Q) : awpT C n0 (.ops l keep) ρ σ Q t = opsT C l ρ σ (fun e ρ' σ' => Q e (keepOnly keep ρ') σ') .mk := rfl
theorem w_draw (l : List O) (keep : List Nat) (t : Tag Q) : awpT C n0 (.draw l keep) ρ σ Q t = calmT C l ρ σ (fun ρ' => Q .normal (keepOnly keep ρ') σ) .mk := rfl
theorem w_seq (a b : Cd) (t : Tag Q) : awpT C n0 (.seq a b) ρ σ Q t = awpT C n0 a ρ σ (andThen (fun ρ' σ' => awpT C n0 b ρ' σ' Q .mk) Q) .mk := rfl
theorem w_cond (x : X) (a b : Cd) (t : Tag Q) : awpT C n0 (.cond x a b) ρ σ Q t = boolT (ev C ρ x) (fun c => iteT c (fun _ => awpT C n0 a ρ σ Q .mk) (fun _ => awpT C n0 b ρ σ Q .mk) .mk .mk) .mk := rfl
theorem w_block (id : Nat) (a : Cd) (t : Tag Q) : awpT C n0 (.block id a) ρ σ Q t = awpT C n0 a ρ σ (inBlk id Q) .mk := rfl
theorem w_exit (id : Nat) (t : Tag Q) : awpT C n0 (.exit id) ρ σ Q t = Q (.exit id) ρ σ := rfl
theorem w_ret (t : Tag Q) : awpT C n0 .ret ρ σ Q t = Q .ret ρ σ := rfl
theorem then_normal (next : Slots → List (List V) → Prop) : andThen next Q .normal ρ σ = next ρ σ := rfl
theorem then_ret (next : Slots → List (List V) → Prop) : andThen next Q .ret ρ σ = Q .ret ρ σ := rfl
theorem then_exit (next : Slots → List (List V) → Prop) (i : Nat) : andThen next Q (.exit i) ρ σ = Q (.exit i) ρ σ := rfl
theorem then_panic (next : Slots → List (List V) → Prop) (v : V) : andThen next Q (.panic v) ρ σ = Q (.panic v) ρ σ := rfl
theorem blk_normal (id : Nat) : inBlk id Q .normal ρ σ = Q .normal ρ σ := rfl
theorem blk_ret (id : Nat) : inBlk id Q .ret ρ σ = Q .ret ρ σ := rfl
theorem blk_exit (id j : Nat) : inBlk id Q (.exit j) ρ σ = if j = id then Q .normal ρ σ else Q (.exit j) ρ σ := rfl
theorem blk_panic (id : Nat) (v : V) : inBlk id Q (.panic v) ρ σ = Q (.panic v) ρ σ := rfl

theorem awpOps_mono {Q' : APost} (hq : ∀ e ρ σ, Q e ρ σ → Q' e ρ σ) : ∀ {l : List O} {ρ : Slots} {σ : List (List V)}, awpOps C l ρ σ Q → awpOps C l ρ σ Q'
  | [], ρ, σ, h => hq _ _ _ h
  | o :: r, ρ, σ, h => by
    have step : ∀ {ρ : Slots} {K K' : Slots → List (List V) → Prop}, (∀ ρ σ, K ρ σ → K' ρ σ) → runO C o.op o.dst ρ σ K Q → runO C o.op o.dst ρ σ K' Q' := by
      intro ρ K K' hk hr
      have hout : ∀ (o' : Out) (σ' : List (List V)), (match o' with | .ret v => K (putd ρ o.dst v) σ' | .panic v => Q (.panic v) ρ σ') → (match o' with | .ret v => K' (putd ρ o.dst v) σ' | .panic v => Q' (.panic v) ρ σ') := by
        intro o' σ' hh
        cases o' with
        | ret v => exact hk _ _ hh
        | panic v => exact hq _ _ _ hh
      generalize o.op = op at hr ⊢
      unfold runO at hr ⊢
      cases op <;> (try simp only at hr ⊢)
      case call f args => exact hr.mono hout
      case callv x args => generalize ev C ρ x = z at hr ⊢; cases z <;> (try simp only at hr ⊢) <;> first | exact hr.elim | exact hr.mono hout
      case calln f args => exact hr.mono hout
      case callm x args t =>
        generalize ev C ρ x = z at hr ⊢
        generalize get ρ t = z' at hr ⊢
        split at hr
        case h_2 => exact hr.elim
        refine hr.mono fun o' σ' hh => ?_
        cases o' with
        | ret v => exact hk _ _ hh
        | panic v => exact hq _ _ _ hh
      case new T cs => exact hk _ _ hr
      case box T x => exact ⟨hr.1, hk _ _ hr.2⟩
      case sto k x y =>
        generalize ev C ρ x = z at hr ⊢; cases z <;> (try simp only at hr ⊢) <;> first | exact hr.elim | skip
        rename_i i off
        generalize σ[i]? = z at hr ⊢; cases z <;> (try simp only at hr ⊢) <;> first | exact hr.elim | exact ⟨hr.1, hk _ _ hr.2⟩
      case stoo x t =>
        generalize ev C ρ x = z at hr ⊢; cases z <;> (try simp only at hr ⊢) <;> first | exact hr.elim | skip
        rename_i i off
        generalize get ρ t = z at hr ⊢; cases z <;> (try simp only at hr ⊢) <;> first | exact hr.elim | skip
        generalize σ[i]? = z at hr ⊢; cases z <;> (try simp only at hr ⊢) <;> first | exact hr.elim | exact ⟨hr.1, hk _ _ hr.2⟩
      case ldo x =>
        generalize ev C ρ x = z at hr ⊢; cases z <;> (try simp only at hr ⊢) <;> first | exact hr.elim | skip
        rename_i i off
        generalize σ[i]? = z at hr ⊢; cases z <;> (try simp only at hr ⊢) <;> first | exact hr.elim | skip
        rename_i cs
        generalize cs[off]? = z at hr ⊢; cases z <;> (try simp only at hr ⊢) <;> first | exact hr.elim | skip
        rename_i v
        cases v <;> (try simp only at hr ⊢) <;> first | exact hr.elim | exact hk _ _ hr
      case mvo t => generalize get ρ t = z at hr ⊢; cases z <;> (try simp only at hr ⊢) <;> first | exact hr.elim | exact hk _ _ hr
      case nilo T k => exact hk _ _ hr
      case app T k b t y =>
        generalize get ρ t = z at hr ⊢; cases z <;> (try simp only at hr ⊢) <;> first | exact hr.elim | skip
        generalize rowsV (ev C ρ y) = z at hr ⊢; cases z <;> (try simp only at hr ⊢) <;> first | exact hr.elim | exact ⟨hr.1, hk _ _ hr.2⟩
      case mks T k xs => generalize rowsOf (xs.map (ev C ρ)) = z at hr ⊢; cases z <;> (try simp only at hr ⊢) <;> first | exact hr.elim | exact ⟨hr.1, hk _ _ hr.2⟩
      case mkso T k xs => generalize rowsOf (xs.map (ev C ρ)) = z at hr ⊢; cases z <;> (try simp only at hr ⊢) <;> first | exact hr.elim | exact ⟨hr.1, hk _ _ hr.2⟩
      case mkc T k bytes x =>
        generalize ev C ρ x = z at hr ⊢
        cases z <;> (try simp only at hr ⊢) <;> first | exact hr.elim | skip
        rename_i z
        cases z <;> (try simp only at hr ⊢) <;> first | exact hr.elim | skip
        rename_i z
        cases z <;> (try simp only at hr ⊢) <;> first | exact hr.elim | exact ⟨hr.1, hk _ _ hr.2⟩
      case mkb T bytes q x =>
        generalize ev C ρ x = z at hr ⊢
        cases z <;> (try simp only at hr ⊢) <;> first | exact hr.elim | skip
        rename_i z
        cases z <;> (try simp only at hr ⊢) <;> first | exact hr.elim | skip
        rename_i z
        cases z <;> (try simp only at hr ⊢) <;> first | exact hr.elim | exact ⟨hr.1, hk _ _ hr.2⟩
      case pan x => generalize ev C ρ x = z at hr ⊢; cases z <;> (try simp only at hr ⊢) <;> first | exact hr.elim | exact hq _ _ _ hr
      all_goals (split at hr <;> first | exact hk _ _ hr | exact hr.elim)
    simp only [awpOps] at h ⊢
    cases hg : o.g with
    | none => rw [hg] at h; exact step (fun _ _ hh => awpOps_mono hq hh) h
    | some p =>
      obtain ⟨t, want⟩ := p
      rw [hg] at h
      simp only at h ⊢
      split at h
      · rename_i b hb
        exact ⟨fun e => step (fun _ _ hh => awpOps_mono hq hh) (h.1 e), fun e => awpOps_mono hq (h.2 e)⟩
      · rename_i hb
        exact awpOps_mono hq h
      · exact h.elim
theorem calmO_mono {op : OP} {k k' : V → Prop} (hk : ∀ v, k v → k' v) (h : calmO C op ρ σ k) : calmO C op ρ σ k' := by
  obtain ⟨v, h1, h2⟩ := calmO_split h
  unfold calmO at h1 ⊢
  split at h1
  · obtain ⟨u, g1, g2⟩ := h1; subst g2; exact ⟨u, g1, hk _ h2⟩
  · split at h1
    · obtain ⟨u, g1, g2⟩ := h1; subst g2; exact ⟨u, g1, hk _ h2⟩
    · exact h1.elim
  · split at h1
    · exact ⟨h1.1, hk _ (h1.2 ▸ h2)⟩
    · exact h1.elim
  · obtain ⟨u, g1, g2⟩ := h1; subst g2; exact ⟨u, g1, hk _ h2⟩
  · split at h1
    · subst h1; exact hk _ h2
    · exact h1.elim
theorem awpCalm_mono {K K' : Slots → Prop} (hk : ∀ ρ, K ρ → K' ρ) : ∀ {l : List O} {ρ : Slots}, awpCalm C l ρ σ K → awpCalm C l ρ σ K'
  | [], ρ, h => hk _ h
  | o :: r, ρ, h => by
    simp only [awpCalm] at h ⊢
    cases hg : o.g with
    | none => rw [hg] at h; exact calmO_mono (fun _ hh => awpCalm_mono hk hh) h
    | some p =>
      obtain ⟨t, want⟩ := p
      rw [hg] at h
      simp only at h ⊢
      split at h
      · rename_i b hb
        exact ⟨fun e => calmO_mono (fun _ hh => awpCalm_mono hk hh) (h.1 e), fun e => awpCalm_mono hk (h.2 e)⟩
      · rename_i hb
        exact awpCalm_mono hk h
      · exact h.elim
theorem awpA_mono {c : Cell} {K K' : Slots → List (List D) → Prop} (hk : ∀ ρ r, K ρ r → K' ρ r) : ∀ {l : List O} {ρ : Slots} {acc : Option (List (List D))}, awpA C c σ σ2 l ρ acc K → awpA C c σ σ2 l ρ acc K'
  | [], ρ, acc, h => by
    cases acc with
    | none => exact h.elim
    | some r => exact hk _ _ h
  | o :: r, ρ, acc, h => by
    unfold awpA at h ⊢
    split at h
    · exact ⟨h.1, h.2.1, awpA_mono hk h.2.2⟩
    · refine ⟨h.1, ?_⟩
      have h2 := h.2
      split at h2
      · exact ⟨h2.1, awpA_mono hk h2.2⟩
      · exact h2.elim
    · exact ⟨h.1, h.2.1, h.2.2.1, awpA_mono hk h.2.2.2⟩
    · split at h
      · exact calmO_mono (fun v hh => ⟨hh.1, awpA_mono hk hh.2⟩) h
      · split at h
        · exact ⟨fun e => calmO_mono (fun v hh => ⟨hh.1, awpA_mono hk hh.2⟩) (h.1 e), fun e => awpA_mono hk (h.2 e)⟩
        · exact awpA_mono hk h
        · exact h.elim
theorem awpN_mono {cn : List V} {K K' : Slots → List V → Prop} (hk : ∀ ρ r, K ρ r → K' ρ r) : ∀ {l : List O} {ρ : Slots} {acc : Option (List V)}, awpN C cn σ σ2 l ρ acc K → awpN C cn σ σ2 l ρ acc K'
  | [], ρ, acc, h => by
    cases acc with
    | none => exact h.elim
    | some r => exact hk _ _ h
  | o :: r, ρ, acc, h => by
    unfold awpN at h ⊢
    split at h
    · exact ⟨h.1, h.2.1, awpN_mono hk h.2.2⟩
    · refine ⟨h.1, h.2.1, ?_⟩
      have h2 := h.2.2
      split at h2
      · exact ⟨h2.1, h2.2.1, awpN_mono hk h2.2.2⟩
      · exact h2.elim
    · split at h
      · exact calmO_mono (fun v hh => ⟨hh.1, awpN_mono hk hh.2⟩) h
      · split at h
        · exact ⟨fun e => calmO_mono (fun v hh => ⟨hh.1, awpN_mono hk hh.2⟩) (h.1 e), fun e => awpN_mono hk (h.2 e)⟩
        · exact awpN_mono hk h
        · exact h.elim
theorem awpS_mono {K K' : Slots → List (List V) → Prop} (hk : ∀ ρ r, K ρ r → K' ρ r) : ∀ {l : List O} {ρ : Slots} {acc : Option (List (List V))}, awpS C σ l ρ acc K → awpS C σ l ρ acc K'
  | [], ρ, acc, h => by
    cases acc with
    | none => exact h.elim
    | some r => exact hk _ _ h
  | o :: r, ρ, acc, h => by
    unfold awpS at h ⊢
    split at h
    · refine ⟨h.1, h.2.1, ?_⟩
      have h2 := h.2.2
      split at h2
      · split at h2
        · exact ⟨h2.1, awpS_mono hk h2.2⟩
        · exact h2.elim
      · exact h2.elim
    · split at h
      · exact calmO_mono (fun v hh => awpS_mono hk hh) h
      · split at h
        · exact ⟨fun e => calmO_mono (fun v hh => awpS_mono hk hh) (h.1 e), fun e => awpS_mono hk (h.2 e)⟩
        · exact awpS_mono hk h
        · exact h.elim
theorem awp_mono : ∀ {c : Cd} {ρ : Slots} {σ : List (List V)} {Q Q' : APost}, (∀ e ρ σ, Q e ρ σ → Q' e ρ σ) → awp C n0 c ρ σ Q → awp C n0 c ρ σ Q' := by
  intro c
  induction c with
  | skip => exact fun hq h => hq _ _ _ h
  | ops l keep => exact fun hq h => awpOps_mono (fun e ρ σ => hq e _ σ) h
  | draw l keep => exact fun hq h => awpCalm_mono (fun ρ => hq _ _ _) h
  | drawa l keep =>
    intro ρ σ Q Q' hq h
    obtain ⟨c, cs, h1, h2, h3⟩ := h
    exact ⟨c, cs, h1, h2, awpA_mono (fun ρ r hh => hq _ _ _ hh) h3⟩
  | drawn cs l keep => exact fun hq h => awpN_mono (fun ρ r hh => hq _ _ _ hh) h
  | draws l keep => exact fun hq h => awpS_mono (fun ρ r hh => hq _ _ _ hh) h
  | seq a b iha ihb =>
    exact fun hq h => iha (fun e ρ σ hh => by
      cases e with
      | normal => exact ihb hq hh
      | ret => exact hq _ _ _ hh
      | exit i => exact hq _ _ _ hh
      | panic v => exact hq _ _ _ hh) h
  | cond x a b iha ihb =>
    intro ρ σ Q Q' hq h
    simp only [awp] at h ⊢
    generalize ev C ρ x = z at h ⊢; cases z <;> (try simp only at h ⊢) <;> first | exact h.elim | skip
    rename_i x
    cases x <;> (try simp only at h ⊢) <;> first | exact h.elim | skip
    rename_i v
    cases v <;> (try simp only at h ⊢) <;> first | exact h.elim | skip
    exact ⟨fun e => iha hq (h.1 e), fun e => ihb hq (h.2 e)⟩
  | block id a ih =>
    exact fun hq h => ih (fun e ρ σ hh => by
      cases e with
      | normal => exact hq _ _ _ hh
      | ret => exact hq _ _ _ hh
      | exit i =>
        simp only [inBlk] at hh ⊢
        split
        · rename_i e; rw [if_pos e] at hh; exact hq _ _ _ hh
        · rename_i e; rw [if_neg e] at hh; exact hq _ _ _ hh
      | panic v => exact hq _ _ _ hh) h
  | loop a ih =>
    intro ρ σ Q Q' hq h
    obtain ⟨ρ1, σ1, h0, I, h1, h2⟩ := h
    exact ⟨ρ1, σ1, h0, I, h1, fun m ρ' σ' hI => ih (fun e ρ σ hh => by
      cases e with
      | normal => exact hh
      | ret => exact hq _ _ _ hh
      | exit i => exact hq _ _ _ hh
      | panic v => exact hq _ _ _ hh) (h2 m ρ' σ' hI)⟩
  | exit id => exact fun hq h => hq _ _ _ h
  | ret => exact fun hq h => hq _ _ _ h

/-- A loop: the relation at its head. -/
theorem awp_loopS {a : Cd} (I : Nat → Slots → List (List V) → Prop) (m : Nat) {ρ1 : Slots} {σ1 : List (List V)} (hu : Shift n0 ρ σ ρ1 σ1) (h0 : I m ρ1 σ1)
    (h : ∀ m ρ' σ', I m ρ' σ' → awp C n0 a ρ' σ' (andThen (fun ρ'' σ'' => ∃ m', m' < m ∧ ∃ ρ3 σ3, Shift n0 ρ'' σ'' ρ3 σ3 ∧ I m' ρ3 σ3) Q)) : awp C n0 (.loop a) ρ σ Q :=
  ⟨ρ1, σ1, hu, I, ⟨m, h0⟩, h⟩
theorem andThen_imp {R R' : Slots → List (List V) → Prop} {Q : APost} (h : ∀ ρ σ, R ρ σ → R' ρ σ) : ∀ e ρ σ, andThen R Q e ρ σ → andThen R' Q e ρ σ := fun e ρ σ hh => by
  cases e with
  | normal => exact h _ _ hh
  | ret => exact hh
  | exit i => exact hh
  | panic v => exact hh
/-- A loop: the relation at its head, the boxes that stay. -/
theorem awp_loop {a : Cd} (I : Nat → Slots → List (List V) → Prop) (m : Nat) {σ1 : List (List V)} (hu : Up σ σ1) (h0 : I m ρ σ1)
    (h : ∀ m ρ' σ', I m ρ' σ' → awp C n0 a ρ' σ' (andThen (fun ρ'' σ'' => ∃ m', m' < m ∧ ∃ k, n0 ≤ k ∧ boxesBelow k (σ''.take k) = true ∧ slotsBelow k ρ'' = true ∧ I m' ρ'' (σ''.take k)) Q)) : awp C n0 (.loop a) ρ σ Q :=
  awp_loopS I m (Shift.up n0 ρ hu) h0 fun m ρ' σ' hI => awp_mono (andThen_imp fun ρ'' σ'' ⟨m', h1, k, h2, h3, h4, h5⟩ => ⟨m', h1, ρ'', σ''.take k, .cut h2 h3 h4, h5⟩) (h m ρ' σ' hI)
theorem awp_loopK {a : Cd} (ks : List Nat) (I : Nat → Slots → List (List V) → Prop) (m : Nat) {σ1 : List (List V)} (hu : Up σ σ1) (h0 : I m (keepOnly ks ρ) σ1)
    (h : ∀ m ρ' σ', I m ρ' σ' → awp C n0 a ρ' σ' (andThen (fun ρ'' σ'' => ∃ m', m' < m ∧ ∃ k, n0 ≤ k ∧ boxesBelow k (σ''.take k) = true ∧ slotsBelow k (keepOnly ks ρ'') = true ∧ I m' (keepOnly ks ρ'') (σ''.take k)) Q)) : awp C n0 (.loop a) ρ σ Q :=
  awp_loopS I m ((Shift.keep n0 ks ρ σ).trans (Shift.up n0 _ hu)) h0 fun m ρ' σ' hI => awp_mono (andThen_imp fun ρ'' σ'' ⟨m', h1, k, h2, h3, h4, h5⟩ => ⟨m', h1, _, σ''.take k, (Shift.keep n0 ks ρ'' σ'').trans (.cut h2 h3 h4), h5⟩) (h m ρ' σ' hI)
end
mutual
theorem V.under_mono {k j : Nat} (hj : k ≤ j) : ∀ v : V, V.under k v = true → V.under j v = true
  | .agg cs, h => by simp only [V.under] at h ⊢; exact V.unders_mono hj cs h
  | .tup cs, h => by simp only [V.under] at h ⊢; exact V.unders_mono hj cs h
  | .fn _ cs, h => by simp only [V.under] at h ⊢; exact V.unders_mono hj cs h
  | .iface _ v, h => by simp only [V.under] at h ⊢; exact V.under_mono hj v h
  | .ptr i o, h => by simp only [V.under, decide_eq_true_eq] at h ⊢; omega
  | .bsl i o n m, h => by simp only [V.under, decide_eq_true_eq] at h ⊢; omega
  | .d _, _ => rfl
  | .own _ _ _, _ => rfl
  | .nil, _ => rfl
  | .row _ _, _ => rfl
  | .junk, _ => rfl
theorem V.unders_mono {k j : Nat} (hj : k ≤ j) : ∀ cs : List V, V.unders k cs = true → V.unders j cs = true
  | [], _ => rfl
  | x :: r, h => by
    simp only [V.unders, Bool.and_eq_true] at h ⊢
    exact ⟨V.under_mono hj x h.1, V.unders_mono hj r h.2⟩
end
theorem boxesBelow_mono {σ : List (List V)} {k j : Nat} (h : boxesBelow k σ = true) (hj : k ≤ j) : boxesBelow j σ = true := by
  unfold boxesBelow at *
  rw [List.all_eq_true] at h ⊢
  exact fun cs hcs => V.unders_mono hj cs (h cs hcs)
/-- The end of a function that leaves the boxes as they were (those that it made are dropped). -/
theorem boxesBelow_app {σ l : List (List V)} (h : boxesBelow σ.length σ = true) (hl : l.all (fun cs => V.unders (σ ++ l).length cs) = true) : boxesBelow (σ ++ l).length (σ ++ l) = true := by
  have := boxesBelow_mono h (j := (σ ++ l).length) (by simp)
  unfold boxesBelow at *
  rw [List.all_append, this, hl]; rfl
theorem fin_ret {σ σ' : List (List V)} {ρ : Slots} {rs : List RV} {Q : Out → List (List V) → Prop} (hb : boxesBelow σ.length σ = true) {v : V} (h : resV σ' ρ rs = some v) (hv : V.under σ.length v = true) (hσ : σ'.take σ.length = σ) (hq : Q (.ret v) σ) : fin σ.length rs Q .ret ρ σ' :=
  ⟨ρ, σ', .refl _ _ _, v, h, σ.length, Nat.le_refl _, by rw [hσ]; exact hb, hv, by rw [hσ]; exact hq⟩
theorem fin_end {σ σ' : List (List V)} {ρ : Slots} {rs : List RV} {Q : Out → List (List V) → Prop} (hb : boxesBelow σ.length σ = true) {v : V} (h : resV σ' ρ rs = some v) (hv : V.under σ.length v = true) (hσ : σ'.take σ.length = σ) (hq : Q (.ret v) σ) : fin σ.length rs Q .normal ρ σ' :=
  ⟨ρ, σ', .refl _ _ _, v, h, σ.length, Nat.le_refl _, by rw [hσ]; exact hb, hv, by rw [hσ]; exact hq⟩
/-- The end of a round that leaves the boxes as they were at its head. -/
theorem round_end {n0 m m' : Nat} {ρ : Slots} {σ σ' : List (List V)} {I : Nat → Slots → List (List V) → Prop} (hm : m' < m) (hn : n0 ≤ σ.length) (hb : boxesBelow σ.length σ = true) (hs : slotsBelow σ.length ρ = true) (hσ : σ'.take σ.length = σ) (hI : I m' ρ σ) :
    ∃ m', m' < m ∧ ∃ k, n0 ≤ k ∧ boxesBelow k (σ'.take k) = true ∧ slotsBelow k ρ = true ∧ I m' ρ (σ'.take k) :=
  ⟨m', hm, σ.length, hn, by rw [hσ]; exact hb, hs, by rw [hσ]; exact hI⟩

/-- The relation holds at the next round's head (some boxes dropped). -/
def Nxt (n0 : Nat) (R : Slots → List (List V) → Prop) (ρ : Slots) (σ : List (List V)) (_ : Tag R) : Prop := ∃ k, n0 ≤ k ∧ boxesBelow k (σ.take k) = true ∧ slotsBelow k ρ = true ∧ R ρ (σ.take k)
theorem Nxt.same {n0 : Nat} {R : Slots → List (List V) → Prop} {ρ : Slots} {σ : List (List V)} (hn : n0 ≤ σ.length) (hb : boxesBelow σ.length σ = true) (hs : slotsBelow σ.length ρ = true) (hR : R ρ σ) : Nxt n0 R ρ σ .mk :=
  ⟨σ.length, hn, by rw [List.take_length]; exact hb, hs, by rw [List.take_length]; exact hR⟩
theorem Nxt.drop {n0 : Nat} {R : Slots → List (List V) → Prop} {ρ : Slots} {σ l : List (List V)} (hn : n0 ≤ σ.length) (hb : boxesBelow σ.length σ = true) (hs : slotsBelow σ.length ρ = true) (hR : R ρ σ) : Nxt n0 R ρ (σ ++ l) .mk :=
  ⟨σ.length, hn, by rw [List.take_left]; exact hb, hs, by rw [List.take_left]; exact hR⟩
/-- A loop that counts, ahead of which nil slices come to be grown. -/
theorem awp_forU {C : Cx} {n0 : Nat} {ρ : Slots} {σ : List (List V)} {Q : APost} {a : Cd} (R : Nat → Slots → List (List V) → Prop) (n : Nat) {σ1 : List (List V)} (hu : Up σ σ1) (h0 : R 0 ρ σ1)
    (h : ∀ j ρ' σ', j ≤ n → R j ρ' σ' → awpT C n0 a ρ' σ' (andThen (fun ρ'' σ'' => j < n ∧ Nxt n0 (R (j + 1)) ρ'' σ'' .mk) Q) .mk) (t : Tag Q) : awpT C n0 (.loop a) ρ σ Q t :=
  awp_loop (fun m ρ σ => ∃ j, j ≤ n ∧ m = n - j ∧ R j ρ σ) n hu ⟨0, by omega, by omega, h0⟩ fun m ρ' σ' ⟨j, hj, hm, hR⟩ => by
    have hi : ∀ e ρ'' σ'', andThen (fun ρ'' σ'' => j < n ∧ Nxt n0 (R (j + 1)) ρ'' σ'' .mk) Q e ρ'' σ'' → andThen (fun ρ'' σ'' => ∃ m', m' < m ∧ ∃ k, n0 ≤ k ∧ boxesBelow k (σ''.take k) = true ∧ slotsBelow k ρ'' = true ∧ ∃ j, j ≤ n ∧ m' = n - j ∧ R j ρ'' (σ''.take k)) Q e ρ'' σ'' := by
      intro e ρ'' σ'' h
      cases e with
      | normal =>
        obtain ⟨h1, k, h2, h3, h4, h5⟩ := h
        exact ⟨n - (j + 1), by omega, k, h2, h3, h4, j + 1, by omega, rfl, h5⟩
      | ret => exact h
      | exit i => exact h
      | panic v => exact h
    exact awp_mono hi (h j ρ' σ' hj hR)
/-- A loop that counts; only these slots count at its head. -/
theorem awp_forKU {C : Cx} {n0 : Nat} {ρ : Slots} {σ : List (List V)} {Q : APost} {a : Cd} (ks : List Nat) (R : Nat → Slots → List (List V) → Prop) (n : Nat) {σ1 : List (List V)} (hu : Up σ σ1) (h0 : R 0 (keepOnly ks ρ) σ1)
    (h : ∀ j ρ' σ', j ≤ n → R j ρ' σ' → awpT C n0 a ρ' σ' (andThen (fun ρ'' σ'' => j < n ∧ Nxt n0 (R (j + 1)) (keepOnly ks ρ'') σ'' .mk) Q) .mk) (t : Tag Q) : awpT C n0 (.loop a) ρ σ Q t :=
  awp_loopK ks (fun m ρ σ => ∃ j, j ≤ n ∧ m = n - j ∧ R j ρ σ) n hu ⟨0, by omega, by omega, h0⟩ fun m ρ' σ' ⟨j, hj, hm, hR⟩ => by
    have hi : ∀ e ρ'' σ'', andThen (fun ρ'' σ'' => j < n ∧ Nxt n0 (R (j + 1)) (keepOnly ks ρ'') σ'' .mk) Q e ρ'' σ'' → andThen (fun ρ'' σ'' => ∃ m', m' < m ∧ ∃ k, n0 ≤ k ∧ boxesBelow k (σ''.take k) = true ∧ slotsBelow k (keepOnly ks ρ'') = true ∧ ∃ j, j ≤ n ∧ m' = n - j ∧ R j (keepOnly ks ρ'') (σ''.take k)) Q e ρ'' σ'' := by
      intro e ρ'' σ'' h
      cases e with
      | normal =>
        obtain ⟨h1, k, h2, h3, h4, h5⟩ := h
        exact ⟨n - (j + 1), by omega, k, h2, h3, h4, j + 1, by omega, rfl, h5⟩
      | ret => exact h
      | exit i => exact h
      | panic v => exact h
    exact awp_mono hi (h j ρ' σ' hj hR)
theorem awp_forK {C : Cx} {n0 : Nat} {ρ : Slots} {σ : List (List V)} {Q : APost} {a : Cd} (ks : List Nat) (R : Nat → Slots → List (List V) → Prop) (n : Nat) (h0 : R 0 (keepOnly ks ρ) σ)
    (h : ∀ j ρ' σ', j ≤ n → R j ρ' σ' → awpT C n0 a ρ' σ' (andThen (fun ρ'' σ'' => j < n ∧ Nxt n0 (R (j + 1)) (keepOnly ks ρ'') σ'' .mk) Q) .mk) (t : Tag Q) : awpT C n0 (.loop a) ρ σ Q t := awp_forKU ks R n (.refl σ) h0 h t
/-- A loop that counts. -/
theorem awp_for {C : Cx} {n0 : Nat} {ρ : Slots} {σ : List (List V)} {Q : APost} {a : Cd} (R : Nat → Slots → List (List V) → Prop) (n : Nat) (h0 : R 0 ρ σ)
    (h : ∀ j ρ' σ', j ≤ n → R j ρ' σ' → awpT C n0 a ρ' σ' (andThen (fun ρ'' σ'' => j < n ∧ Nxt n0 (R (j + 1)) ρ'' σ'' .mk) Q) .mk) (t : Tag Q) : awpT C n0 (.loop a) ρ σ Q t := awp_forU R n (.refl σ) h0 h t
/-- The end of a function whose result leads to boxes of its own: they never turn again. -/
theorem fin_frz {σ σ' : List (List V)} {ρ : Slots} (ρ2 : Slots) {rs : List RV} {Q : Out → List (List V) → Prop} (hb : boxesBelow σ.length σ = true) {v : V} (hσ : σ'.take σ.length = σ) (hf : ∀ p, p ∈ ρ2 → FrzV σ' σ.length (get ρ p.1) p.2) (h : resV σ ρ2 rs = some v) (hv : V.under σ.length v = true) (hq : Q (.ret v) σ) : fin σ.length rs Q .ret ρ σ' :=
  ⟨ρ2, σ, by have := Shift.frz (n0 := σ.length) (k := σ.length) (ρ := ρ) (ρ' := ρ2) (σ := σ') (Nat.le_refl _) (by rw [hσ]; exact hb) hf; rwa [hσ] at this, v, h, σ.length, Nat.le_refl _, by rw [List.take_length]; exact hb, hv, by rw [List.take_length]; exact hq⟩
/-- At the next round's head the relation holds, after a step that runs no code. -/
def NxtS (n0 : Nat) (R : Slots → List (List V) → Prop) (ρ : Slots) (σ : List (List V)) (_ : Tag R) : Prop := ∃ ρ3 σ3, Shift n0 ρ σ ρ3 σ3 ∧ R ρ3 σ3
theorem NxtS.frz {n0 : Nat} {R : Slots → List (List V) → Prop} {ρ : Slots} {σ l : List (List V)} (ρ2 : Slots) (hn : n0 ≤ σ.length) (hb : boxesBelow σ.length σ = true) (hf : ∀ p, p ∈ ρ2 → FrzV (σ ++ l) σ.length (get ρ p.1) p.2) (hR : R ρ2 σ) : NxtS n0 R ρ (σ ++ l) .mk :=
  ⟨ρ2, σ, by have := Shift.frz (n0 := n0) (k := σ.length) (ρ := ρ) (ρ' := ρ2) (σ := σ ++ l) hn (by rw [List.take_left]; exact hb) hf; rwa [List.take_left] at this, hR⟩
theorem NxtS.of {n0 : Nat} {R : Slots → List (List V) → Prop} {ρ : Slots} {σ : List (List V)} (h : Nxt n0 R ρ σ .mk) : NxtS n0 R ρ σ .mk := by
  obtain ⟨k, h1, h2, h3, h4⟩ := h
  exact ⟨ρ, σ.take k, .cut h1 h2 h3, h4⟩
/-- A loop that counts; ahead of it and at the end of each round a step that runs no code. -/
theorem awp_forS {C : Cx} {n0 : Nat} {ρ : Slots} {σ : List (List V)} {Q : APost} {a : Cd} (ks : List Nat) (R : Nat → Slots → List (List V) → Prop) (n : Nat) {ρ1 : Slots} {σ1 : List (List V)} (hu : Shift n0 (keepOnly ks ρ) σ ρ1 σ1) (h0 : R 0 ρ1 σ1)
    (h : ∀ j ρ' σ', j ≤ n → R j ρ' σ' → awpT C n0 a ρ' σ' (andThen (fun ρ'' σ'' => j < n ∧ NxtS n0 (R (j + 1)) (keepOnly ks ρ'') σ'' .mk) Q) .mk) (t : Tag Q) : awpT C n0 (.loop a) ρ σ Q t :=
  awp_loopS (fun m ρ σ => ∃ j, j ≤ n ∧ m = n - j ∧ R j ρ σ) n ((Shift.keep n0 ks ρ σ).trans hu) ⟨0, by omega, by omega, h0⟩ fun m ρ' σ' ⟨j, hj, hm, hR⟩ =>
    awp_mono (andThen_imp fun ρ'' σ'' ⟨h1, ρ3, σ3, h2, h3⟩ => ⟨n - (j + 1), by omega, ρ3, σ3, (Shift.keep n0 ks ρ'' σ'').trans h2, j + 1, by omega, rfl, h3⟩) (h j ρ' σ' hj hR)
/-- A call of a function that leaves the boxes alone. -/
def RetV (v : V) (σ : List (List V)) : Out → List (List V) → Prop := fun o σ' => o = .ret v ∧ σ' = σ
theorem fun_ret {C : Cx} {f : FuncId} {args : List V} {σ : List (List V)} {v : V} {K P : V → List (List V) → Prop} {s : Tag K} {t : Tag P} (h : Fun C f args σ (RetV v σ)) (hk : K v σ) : FunT C f args σ K P s t :=
  h.mono fun o σ' ⟨e1, e2⟩ => by subst e1; subst e2; exact hk
theorem calm_ret {C : Cx} {f : FuncId} {args : List V} {σ : List (List V)} {v : V} {k : V → Prop} {t : Tag k} (h : Fun C f args σ (RetV v σ)) (hk : k v) : CallT C f args σ k t := ⟨v, h, hk⟩
theorem calm_ret2 {C : Cx} {σ σ2 : List (List V)} {f : FuncId} {args : List V} {v : V} {k : V → Prop} {t : Tag k} (h : ∀ σ, Fun C f args σ (RetV v σ)) (hk : k v) : CallT2 C f args σ σ2 k t := ⟨v, h σ, h σ2, hk⟩
theorem fun_mono {C : Cx} {f : FuncId} {args : List V} {σ : List (List V)} {K P : V → List (List V) → Prop} {s : Tag K} {t : Tag P} {Q : Out → List (List V) → Prop} (h : Fun C f args σ Q) (hk : ∀ o σ', Q o σ' → retK K P o σ') : FunT C f args σ K P s t := h.mono hk
/-- A function, by its code. -/
theorem fun_code {C : Cx} {f : FuncId} {fn : Func} {c : Cd} {rs : List RV} {args : List V} {σ : List (List V)} {Q : Out → List (List V) → Prop} (hf : C.P.funcs[f]? = some fn) (hok : okFn C.tab fn args.length c rs = true) (hno : args.all (! ·.isOwn) = true)
    (h : boxesBelow σ.length σ = true → (∀ i (h : i < args.length), V.Wf args[i]) → awpT C σ.length c (slots0 0 args) σ (fin σ.length rs Q) .mk) : Fun C f args σ Q := fun_intro hf hok hno h

theorem funo_ret {C : Cx} {f : FuncId} {pre post : List V} {T k : Nat} {rows : List (List D)} {σ : List (List V)} {v : V} {K P : V → List (List V) → Prop} {s : Tag K} {t : Tag P} (h : FunO C f pre T k rows post σ (RetV v σ)) (hk : K v σ) : FunOT C f pre T k rows post σ K P s t :=
  h.mono fun o σ' ⟨e1, e2⟩ => by subst e1; subst e2; exact hk
/-- A function that may grow a row, called with nil. -/
theorem fun_of_funo_nil {C : Cx} {f : FuncId} {pre post : List V} {T k : Nat} {σ : List (List V)} {Q : Out → List (List V) → Prop} (h : FunO C f pre T k [] post σ Q) : Fun C f (pre ++ .nil :: post) σ Q :=
  ⟨h.1, fun M bm tk pr w vs hG hI ht hl hr => by
    have hm : pre.length < (pre ++ V.nil :: post).length := by simp
    have h0 := hr pre.length hm (by rw [hl]; exact hm)
    simp only [List.getElem_append_right (Nat.le_refl _), Nat.sub_self, List.getElem_cons_zero] at h0
    have e0 : vs[pre.length]'(by rw [hl]; exact hm) = .slice none 0 0 := by
      generalize vs[pre.length]'(by rw [hl]; exact hm) = z at h0
      cases h0; rfl
    refine h.2 M bm tk pr w vs hG hI (by rw [hl]; simp) (fun i h1 h2 => ?_) (.inl ⟨?_, rfl⟩)
    · have h3 := hr i (by simpa using h1) h2
      by_cases e : i < pre.length
      · rw [List.getElem_append_left e] at h3 ⊢; exact h3
      · rw [List.getElem_append_right (by omega)] at h3 ⊢
        by_cases e' : i = pre.length
        · subst e'
          simp only [Nat.sub_self, List.getElem_cons_zero]
          rw [e0]; exact .own (DRep.nil M)
        · obtain ⟨m, hm⟩ : ∃ m, i - pre.length = m + 1 := ⟨i - pre.length - 1, by omega⟩
          simp only [hm, List.getElem_cons_succ] at h3 ⊢
          exact h3
    · rw [List.getD_eq_getElem?_getD, List.getElem?_eq_getElem (by rw [hl]; exact hm), Option.getD_some]; exact e0⟩
theorem funo_code {C : Cx} {f : FuncId} {fn : Func} {c : Cd} {rs : List RV} {pre post : List V} {T k : Nat} {rows : List (List D)} {σ : List (List V)} {Q : Out → List (List V) → Prop} (hf : C.P.funcs[f]? = some fn) (hok : okFn C.tab fn (pre ++ .own T k rows :: post).length c rs = true) (hno : (pre ++ post).all (! ·.isOwn) = true)
    (h : boxesBelow σ.length σ = true → (∀ i (h : i < (pre ++ .own T k rows :: post).length), V.Wf (pre ++ .own T k rows :: post)[i]) → awpT C σ.length c (slots0 0 (pre ++ .own T k rows :: post)) σ (fin σ.length rs Q) .mk) : FunO C f pre T k rows post σ Q := funo_intro hf hok hno h

/-! ### Values -/
section
variable {σ : List (List V)}
theorem v_len_d (rows : List (List D)) : lenV false (.d (.sl rows)) = some (vint .i64 rows.length) := rfl
theorem v_len_own (T k : Nat) (rows : List (List D)) : lenV false (.own T k rows) = some (vint .i64 rows.length) := rfl
theorem v_len_nil : lenV false .nil = some (vint .i64 0) := rfl
theorem v_len_str (s : ByteArray) : lenV true (.d (.lit (.string s))) = some (vint .i64 s.size) := rfl
theorem v_rows_d (rows : List (List D)) : rowsV (.d (.sl rows)) = some rows := rfl
theorem v_rows_own (T k : Nat) (rows : List (List D)) : rowsV (.own T k rows) = some rows := rfl
theorem v_rows_nil : rowsV .nil = some [] := rfl
theorem v_add (k : IntKind) (a b : Int) : binV .add (.d (.lit (.int k a))) (.d (.lit (.int k b))) = some (vint k (k.wrap (a + b))) := by simp [binV, isShift, binI]
theorem v_sub (k : IntKind) (a b : Int) : binV .sub (.d (.lit (.int k a))) (.d (.lit (.int k b))) = some (vint k (k.wrap (a - b))) := by simp [binV, isShift, binI]
theorem v_mul (k : IntKind) (a b : Int) : binV .mul (.d (.lit (.int k a))) (.d (.lit (.int k b))) = some (vint k (k.wrap (a * b))) := by simp [binV, isShift, binI]
theorem v_quo (k : IntKind) (a b : Int) : binV .quo (.d (.lit (.int k a))) (.d (.lit (.int k b))) = if b = 0 then none else some (vint k (k.wrap (a.tdiv b))) := by simp [binV, isShift, binI]
theorem v_rem (k : IntKind) (a b : Int) : binV .rem (.d (.lit (.int k a))) (.d (.lit (.int k b))) = if b = 0 then none else some (vint k (a.tmod b)) := by simp [binV, isShift, binI]
theorem v_band (k : IntKind) (a b : Int) : binV .and (.d (.lit (.int k a))) (.d (.lit (.int k b))) = some (vint k (k.wrap (BitVec.ofInt k.bits a &&& BitVec.ofInt k.bits b).toNat)) := by simp only [binV, isShift, Bool.false_eq_true, if_false, if_true, binI]
theorem v_bor (k : IntKind) (a b : Int) : binV .or (.d (.lit (.int k a))) (.d (.lit (.int k b))) = some (vint k (k.wrap (BitVec.ofInt k.bits a ||| BitVec.ofInt k.bits b).toNat)) := by simp only [binV, isShift, Bool.false_eq_true, if_false, if_true, binI]
theorem v_bxor (k : IntKind) (a b : Int) : binV .xor (.d (.lit (.int k a))) (.d (.lit (.int k b))) = some (vint k (k.wrap (BitVec.ofInt k.bits a ^^^ BitVec.ofInt k.bits b).toNat)) := by simp only [binV, isShift, Bool.false_eq_true, if_false, if_true, binI]
theorem v_eql (k : IntKind) (a b : Int) : binV .eql (.d (.lit (.int k a))) (.d (.lit (.int k b))) = some (vbool (decide (a = b))) := by simp [binV, isShift, binI]; rfl
theorem v_neq (k : IntKind) (a b : Int) : binV .neq (.d (.lit (.int k a))) (.d (.lit (.int k b))) = some (vbool (!decide (a = b))) := by simp [binV, isShift, binI]; rfl
theorem v_lss (k : IntKind) (a b : Int) : binV .lss (.d (.lit (.int k a))) (.d (.lit (.int k b))) = some (vbool (decide (a < b))) := by simp [binV, isShift, binI]
theorem v_leq (k : IntKind) (a b : Int) : binV .leq (.d (.lit (.int k a))) (.d (.lit (.int k b))) = some (vbool (decide (a ≤ b))) := by simp [binV, isShift, binI]
theorem v_gtr (k : IntKind) (a b : Int) : binV .gtr (.d (.lit (.int k a))) (.d (.lit (.int k b))) = some (vbool (decide (b < a))) := by simp [binV, isShift, binI]
theorem v_geq (k : IntKind) (a b : Int) : binV .geq (.d (.lit (.int k a))) (.d (.lit (.int k b))) = some (vbool (decide (b ≤ a))) := by simp [binV, isShift, binI]
theorem v_shl (k k' : IntKind) (a b : Int) : binV .shl (.d (.lit (.int k a))) (.d (.lit (.int k' b))) = if b < 0 then none else some (vint k (k.wrap (a * 2 ^ (min b.toNat k.bits)))) := by simp [binV, isShift, binSh]
theorem v_shr (k k' : IntKind) (a b : Int) : binV .shr (.d (.lit (.int k a))) (.d (.lit (.int k' b))) = if b < 0 then none else some (vint k (a.fdiv (2 ^ (min b.toNat k.bits)))) := by simp [binV, isShift, binSh]
theorem bytes_eq (a b : ByteArray) : (a.toList == b.toList) = decide (a = b) := by
  rw [ByteArray.toList_eq, ByteArray.toList_eq, Bool.eq_iff_iff]
  simp only [beq_iff_eq, decide_eq_true_eq]
  constructor
  · intro h
    cases a; cases b
    simp only [ByteArray.mk.injEq]
    exact Array.toList_inj.1 h
  · intro h; rw [h]
theorem v_seql (a b : ByteArray) : binV .eql (.d (.lit (.string a))) (.d (.lit (.string b))) = some (vbool (decide (a = b))) := by simp only [binV, binS, bytes_eq]
theorem v_sneq (a b : ByteArray) : binV .neq (.d (.lit (.string a))) (.d (.lit (.string b))) = some (vbool (!decide (a = b))) := by simp only [binV, binS, bytes_eq]
theorem v_sadd (a b : ByteArray) : binV .add (.d (.lit (.string a))) (.d (.lit (.string b))) = if a.size + b.size ≤ 9223372036854775807 then some (vstr (a ++ b)) else none := rfl
theorem v_slss (a b : ByteArray) : binV .lss (.d (.lit (.string a))) (.d (.lit (.string b))) = some (vbool (Op.bytesLess a.toList b.toList)) := rfl
theorem v_eqa (neq : Bool) (ks : List Kd) (a b : List V) : eqaV neq ks (.agg a) (.agg b) = (eqLits ks a b).map fun r => vbool (bif neq then !r else r) := by
  unfold eqaV; simp only; cases eqLits ks a b <;> rfl
theorem q_nil : eqLits [] [] [] = some true := rfl
theorem q_int (k : IntKind) (ks : List Kd) (a b : Int) (r s : List V) : eqLits (.i k :: ks) (.d (.lit (.int k a)) :: r) (.d (.lit (.int k b)) :: s) = (eqLits ks r s).map fun z => decide (a = b) && z := by
  simp only [eqLits, eqLit, and_self, if_true]; cases eqLits ks r s <;> rfl
theorem q_str (ks : List Kd) (a b : ByteArray) (r s : List V) : eqLits (.s :: ks) (.d (.lit (.string a)) :: r) (.d (.lit (.string b)) :: s) = (eqLits ks r s).map fun z => decide (a = b) && z := by
  simp only [eqLits, eqLit]; cases eqLits ks r s <;> rfl
theorem q_bool (ks : List Kd) (a b : Bool) (r s : List V) : eqLits (.b :: ks) (.d (.lit (.bool a)) :: r) (.d (.lit (.bool b)) :: s) = (eqLits ks r s).map fun z => (a == b) && z := by
  simp only [eqLits, eqLit]; cases eqLits ks r s <;> rfl
theorem v_nif_nil (neq : Bool) : nifV neq (.d (.lit .nilIface)) = some (vbool (!neq)) := rfl
theorem v_nif_if (neq : Bool) (t : TypeId) (x : V) : nifV neq (.iface t x) = some (vbool neq) := rfl
theorem v_beql (a b : Bool) : binbV .eql (.d (.lit (.bool a))) (.d (.lit (.bool b))) = some (vbool (a == b)) := rfl
theorem v_bneq (a b : Bool) : binbV .neq (.d (.lit (.bool a))) (.d (.lit (.bool b))) = some (vbool (!(a == b))) := rfl
theorem v_not (b : Bool) : unV .not (.d (.lit (.bool b))) = some (vbool (!b)) := rfl
theorem v_neg (k : IntKind) (n : Int) : unV .neg (.d (.lit (.int k n))) = some (vint k (k.wrap (0 - n))) := rfl
theorem v_pick (c a b : Bool) : pickV (.d (.lit (.bool c))) (.d (.lit (.bool a))) (.d (.lit (.bool b))) = some (vbool (bif c then a else b)) := rfl
theorem v_pick_uf (b : Bool) : pickV (.d (.lit (.bool false))) (.tup []) (.d (.lit (.bool b))) = some (vbool b) := rfl
theorem v_pick_tu (a : Bool) : pickV (.d (.lit (.bool true))) (.d (.lit (.bool a))) (.tup []) = some (vbool a) := rfl
theorem v_pick_jf (b : Bool) : pickV (.d (.lit (.bool false))) .junk (.d (.lit (.bool b))) = some (vbool b) := rfl
theorem v_pick_tj (a : Bool) : pickV (.d (.lit (.bool true))) (.d (.lit (.bool a))) .junk = some (vbool a) := rfl
theorem v_fa_ptr (off i o : Nat) : faV off (.ptr i o) = some (.ptr i (o + off)) := rfl
theorem v_fa_row (off : Nat) (cs : List D) (o : Nat) : faV off (.row cs o) = some (.row cs (o + off)) := rfl
def iaK (k : Nat) (o : Option (List D)) : Option V := match o with | some r => if r.length = k then some (.row r 0) else none | none => none
theorem iaK_some (k : Nat) (r : List D) : iaK k (some r) = if r.length = k then some (.row r 0) else none := rfl
theorem v_ia_nat (k : Nat) (y : D) (kd : IntKind) (j : Nat) : iaV k (.d y) (.d (.lit (.int kd (j : Int)))) = (rowsV (.d y)).bind fun rows => iaK k rows[j]? := by
  unfold iaV
  cases h : rowsV (.d y) with
  | none => simp only [h]; rfl
  | some rows => simp only [h, Option.bind_some, Int.toNat_natCast]; rw [if_pos (by omega)]; rfl
theorem v_ia_own (k T k' : Nat) (rows : List (List D)) (kd : IntKind) (j : Nat) : iaV k (.own T k' rows) (.d (.lit (.int kd (j : Int)))) = iaK k rows[j]? := by
  unfold iaV
  simp only [rowsV, Int.toNat_natCast]; rw [if_pos (by omega)]; rfl
theorem v_ia_bsl (k b off n : Nat) (kd : IntKind) (j : Nat) : iaV k (.bsl b off n k) (.d (.lit (.int kd (j : Int)))) = if j < n then some (.ptr b (off + j * k)) else none := by
  unfold iaV
  simp only [Int.toNat_natCast, and_true]
  by_cases h : j < n
  · rw [if_pos h, if_pos (by omega)]
  · rw [if_neg h, if_neg (by omega)]
theorem v_len_bsl (b off n k : Nat) : lenV false (.bsl b off n k) = some (vint .i64 n) := rfl
theorem v_aa (k n : Nat) (x : V) (kd : IntKind) (j : Int) : aaV k n x (.d (.lit (.int kd j))) = if 0 ≤ j ∧ j < n then faV (j.toNat * k) x else none := rfl
def ixK (o : Option UInt8) : Option V := match o with | some b => some (vint .u8 b.toNat) | none => none
theorem ixK_some (b : UInt8) : ixK (some b) = some (vint .u8 b.toNat) := rfl
theorem v_ix_nat (s : ByteArray) (kd : IntKind) (j : Nat) : ixV (.d (.lit (.string s))) (.d (.lit (.int kd (j : Int)))) = ixK s.data.toList[j]? := by
  simp only [ixV, Int.toNat_natCast]; rw [if_pos (by omega)]; rfl
theorem v_ix (s : ByteArray) (kd : IntKind) (n : Int) : ixV (.d (.lit (.string s))) (.d (.lit (.int kd n))) = if 0 ≤ n then ixK s.data.toList[n.toNat]? else none := rfl
theorem v_fld (off k : Nat) (ag : Bool) (cs : List V) : fldV off k ag (.agg cs) = if off + k ≤ cs.length then packV ag ((cs.drop off).take k) else none := rfl
theorem v_pack1 (c : V) : packV false [c] = some c.copy := rfl
theorem v_packA (cs : List V) : packV true cs = some (.agg (cs.map V.copy)) := rfl
theorem v_ext (cs : List V) (i : Nat) : extV (.tup cs) i = (cs[i]?).map V.copy := by simp only [extV]; cases cs[i]? <;> rfl
theorem v_conv (k k' : IntKind) (n : Int) : convV k (.d (.lit (.int k' n))) = some (vint k (k.wrap n)) := rfl
theorem v_cbs (y : D) (rows : List (List D)) (ns : List Int) (h1 : rowsV (.d y) = some rows) (h2 : bytesV rows = some ns) : cbsV σ (.d y) = some (vstr ⟨(ns.map fun n => UInt8.ofNat n.toNat).toArray⟩) := by simp only [cbsV]; rw [h1, Option.bind_some, h2]; rfl
theorem v_cbs1 (n : Int) : cbsV σ (.d (.sl [[.lit (.int .u8 n)]])) = some (vstr ⟨#[UInt8.ofNat n.toNat]⟩) := rfl
theorem v_cstr (s : ByteArray) : cstrV (.d (.lit (.string s))) = some (vstr s) := rfl
theorem v_nilck_ptr (i o : Nat) : nilckV (.ptr i o) = some (.ptr i o) := rfl
theorem v_nilck_row (cs : List D) (o : Nat) : nilckV (.row cs o) = some (.row cs o) := rfl
theorem v_nilck_fn (f : FuncId) (cs : List V) : nilckV (.fn f cs) = some (.fn f cs) := rfl
theorem v_mx (g : Bool) (k : IntKind) (a b : Int) : mxV g (.d (.lit (.int k a))) (.d (.lit (.int k b))) = some (vint k (if g then max a b else min a b)) := by
  have h1 : (if b > a then b else a) = max a b := by rw [Int.max_def]; split <;> split <;> omega
  have h2 : (if b < a then b else a) = min a b := by rw [Int.min_def]; split <;> split <;> omega
  cases g
  · simp only [mxV, if_true, Bool.false_eq_true, if_false, h2]
  · simp only [mxV, if_true, h1]
theorem v_mki_d (t : TypeId) (x : D) : mkiV t (.d x) = some (.iface t (.d x)) := rfl
theorem v_mki_agg (t : TypeId) (cs : List V) : mkiV t (.agg cs) = some (.iface t (.agg (cs.map V.copy))) := rfl
theorem v_load_row (k : Nat) (ag : Bool) (cs : List D) (o : Nat) : loadV σ k ag (.row cs o) = (if o + k ≤ cs.length then some (((cs.drop o).take k).map V.d) else none).bind (packV ag) := rfl
def ldK (k : Nat) (ag : Bool) (o : Nat) (b : Option (List V)) : Option V := match b with | some cs => if o + k ≤ cs.length then packV ag ((cs.drop o).take k) else none | none => none
theorem ldK_some (k : Nat) (ag : Bool) (o : Nat) (cs : List V) : ldK k ag o (some cs) = if o + k ≤ cs.length then packV ag ((cs.drop o).take k) else none := rfl
theorem v_load_ptr (k : Nat) (ag : Bool) (i o : Nat) : loadV σ k ag (.ptr i o) = ldK k ag o σ[i]? := by
  unfold loadV cellsV ldK
  simp only
  cases σ[i]? with
  | none => rfl
  | some cs => simp only; split <;> rfl
theorem box_at (l : List (List V)) (j : Nat) : (σ ++ l)[σ.length + j]? = l[j]? := by rw [List.getElem?_append_right (by omega)]; congr 1; omega
theorem box_at0 (l : List (List V)) : (σ ++ l)[σ.length]? = l[0]? := box_at l 0
theorem box_old {i : Nat} {cs : List V} (h : σ[i]? = some cs) (l : List (List V)) : (σ ++ l)[i]? = some cs := by rw [List.getElem?_append_left (List.getElem?_eq_some_iff.1 h).1]; exact h
theorem set_at (l : List (List V)) (j : Nat) (x : List V) : (σ ++ l).set (σ.length + j) x = σ ++ l.set j x := by rw [List.set_append_right _ _ (by omega)]; congr 2; omega
theorem set_at0 (l : List (List V)) (x : List V) : (σ ++ l).set σ.length x = σ ++ l.set 0 x := set_at l 0 x
theorem set_old {i : Nat} {cs : List V} (h : σ[i]? = some cs) (l : List (List V)) (x : List V) : (σ ++ l).set i x = σ.set i x ++ l := by rw [List.set_append_left _ _ (List.getElem?_eq_some_iff.1 h).1]
theorem wrap_i64 {a : Int} (h1 : -9223372036854775808 ≤ a) (h2 : a ≤ 9223372036854775807) : IntKind.i64.wrap a = a := by
  simp [IntKind.wrap, IntKind.bits, IntKind.signed]
  split <;> omega
end
theorem wf_len {rows : List (List D)} (h : V.Wf (.d (.sl rows))) : rows.length ≤ 9223372036854775807 := by
  cases h with | d h => cases h with | sl _ h _ => exact h
theorem wf_int {k : IntKind} {n : Int} (h : V.Wf (.d (.lit (.int k n)))) : k.min ≤ n ∧ n ≤ k.max := by
  cases h with | d h => cases h with | lit _ h => exact h
theorem wf_str {s : ByteArray} (h : V.Wf (.d (.lit (.string s)))) : s.size ≤ 9223372036854775807 := by
  cases h with | d h => cases h with | lit _ h => exact h
theorem wf_cell {cs : List V} (h : V.Wf (.agg cs)) (i : Nat) (hi : i < cs.length) : V.Wf cs[i] := by
  cases h with | agg h => exact h i hi
theorem wf_elem {rows : List (List D)} (h : V.Wf (.d (.sl rows))) (i j : Nat) (hi : i < rows.length) (hj : j < rows[i].length) : V.Wf (.d rows[i][j]) := by
  cases h with | d h => cases h with | sl _ _ h => exact .d (h i j hi hj)
theorem wrap_nat {j n : Nat} (h : j < n) (hn : n ≤ 9223372036854775807) : IntKind.i64.wrap ((j : Int) + 1) = ((j + 1 : Nat) : Int) := by
  rw [wrap_i64 (by omega) (by omega)]; rfl
set_option linter.defProp false in
/-- All rules in one. -/
def aw := And.intro (And.intro (And.intro (And.intro (And.intro (And.intro (And.intro (And.intro @a_mv @a_pick) (And.intro @a_bin @a_binb)) (And.intro (And.intro @a_un @a_conv) (And.intro @a_cstr (And.intro @a_cbs @a_nilck)))) (And.intro (And.intro (And.intro @a_fa @a_ia) (And.intro @a_aa (And.intro @a_ix @a_fld))) (And.intro (And.intro @a_len @a_ext) (And.intro @a_bld (And.intro @a_sub @a_mkfn))))) (And.intro (And.intro (And.intro (And.intro @a_mki @a_mx) (And.intro @a_load (And.intro @a_call @a_mks))) (And.intro (And.intro @a_ldo @a_app) (And.intro @a_stoo (And.intro @a_nil @w_drawa)))) (And.intro (And.intro (And.intro @w_drawn @s_mv) (And.intro @s_pick (And.intro @s_bin @s_binb))) (And.intro (And.intro @s_eqa @s_nif) (And.intro @s_un (And.intro @s_conv @s_cstr)))))) (And.intro (And.intro (And.intro (And.intro (And.intro @s_cbs @s_nilck) (And.intro @s_fa (And.intro @s_ia @s_aa))) (And.intro (And.intro @s_ix @s_fld) (And.intro @s_len (And.intro @s_ext @s_load)))) (And.intro (And.intro (And.intro @s_bld @s_sub) (And.intro @s_mkfn (And.intro @s_mki @s_mx))) (And.intro (And.intro @s_call @s_callv) (And.intro @s_mks (And.intro @s_sto @s_nil))))) (And.intro (And.intro (And.intro (And.intro @w_draws @b_mv) (And.intro @b_pick (And.intro @b_bin @b_binb))) (And.intro (And.intro @b_un @b_conv) (And.intro @b_cstr (And.intro @b_cbs @b_nilck)))) (And.intro (And.intro (And.intro @b_fa @b_ia) (And.intro @b_aa (And.intro @b_ix @b_fld))) (And.intro (And.intro @b_len @b_ext) (And.intro @b_bld (And.intro @b_sub @b_mkfn))))))) (And.intro (And.intro (And.intro (And.intro (And.intro (And.intro @b_mki @b_mx) (And.intro @b_load @b_call)) (And.intro (And.intro @b_mks @b_new) (And.intro @b_sto (And.intro @b_nil @ev_t)))) (And.intro (And.intro (And.intro @ev_k @get_cons) (And.intro @get_nil (And.intro @put_cons @put_nil))) (And.intro (And.intro @putd_some @putd_none) (And.intro @keepOnly_nil (And.intro @keepOnly_cons @optT_some))))) (And.intro (And.intro (And.intro (And.intro @fnT_fn @ptrT_ptr) (And.intro @ownT_own (And.intro @ifT_iface @bxT_some))) (And.intro (And.intro @rwT_some @boolT_bool) (And.intro @iteT_true (And.intro @iteT_false @onT_true)))) (And.intro (And.intro (And.intro @t_mv @c_mv) (And.intro @t_pick (And.intro @c_pick @t_bin))) (And.intro (And.intro @c_bin @t_binb) (And.intro @c_binb (And.intro @t_eqa @c_eqa)))))) (And.intro (And.intro (And.intro (And.intro (And.intro @t_nif @c_nif) (And.intro @a_eqa (And.intro @a_nif @b_eqa))) (And.intro (And.intro @b_nif @v_eqa) (And.intro @q_nil (And.intro @q_int @q_str)))) (And.intro (And.intro (And.intro @q_bool @v_nif_nil) (And.intro @v_nif_if (And.intro @t_un @c_un))) (And.intro (And.intro @t_conv @c_conv) (And.intro @t_cstr (And.intro @c_cstr @t_cbs))))) (And.intro (And.intro (And.intro (And.intro @c_cbs @t_nilck) (And.intro @c_nilck (And.intro @t_fa @c_fa))) (And.intro (And.intro @t_ia @c_ia) (And.intro @t_aa (And.intro @c_aa @t_ix)))) (And.intro (And.intro (And.intro @c_ix @t_fld) (And.intro @c_fld (And.intro @t_len @c_len))) (And.intro (And.intro @t_ext @c_ext) (And.intro @t_load (And.intro @c_load @t_bld)))))))) (And.intro (And.intro (And.intro (And.intro (And.intro (And.intro (And.intro @c_bld @t_sub) (And.intro @c_sub @t_mkfn)) (And.intro (And.intro @c_mkfn @t_mki) (And.intro @c_mki (And.intro @t_mx @c_mx)))) (And.intro (And.intro (And.intro (And.intro @t_call (And.intro @t_calln @t_callm)) @t_callv) (And.intro @t_new (And.intro @t_box @t_sto))) (And.intro (And.intro @t_stoo @t_ldo) (And.intro @t_mvo (And.intro @t_nilo @t_app))))) (And.intro (And.intro (And.intro (And.intro @t_mks @t_mkso) (And.intro @t_mkc (And.intro @intT_int @t_pan))) (And.intro (And.intro @t_guard @t_nil) (And.intro (And.intro @c_call @c_calln) (And.intro @c_callv @c_mks)))) (And.intro (And.intro (And.intro @c_guard @c_nil) (And.intro @w_skip (And.intro @w_ops @w_draw))) (And.intro (And.intro @w_seq @w_cond) (And.intro @w_block (And.intro @w_exit @w_ret)))))) (And.intro (And.intro (And.intro (And.intro (And.intro @then_normal @then_ret) (And.intro @then_exit (And.intro @then_panic @blk_normal))) (And.intro (And.intro @blk_ret @blk_exit) (And.intro @blk_panic (And.intro @v_len_d @v_len_own)))) (And.intro (And.intro (And.intro (And.intro @v_len_nil (And.intro @v_len_bsl (And.intro @v_ia_own (And.intro @v_ia_bsl @t_mkb)))) @v_len_str) (And.intro @v_rows_d (And.intro @v_rows_own @v_rows_nil))) (And.intro (And.intro @v_add @v_sub) (And.intro @v_mul (And.intro @v_quo @v_rem))))) (And.intro (And.intro (And.intro (And.intro @v_band @v_bor) (And.intro @v_bxor (And.intro @v_eql @v_neq))) (And.intro (And.intro @v_lss @v_leq) (And.intro @v_gtr (And.intro @v_geq @v_shl)))) (And.intro (And.intro (And.intro @v_shr @v_seql) (And.intro @v_sneq (And.intro @v_sadd @v_slss))) (And.intro (And.intro @v_beql @v_bneq) (And.intro @v_not (And.intro @v_neg @v_pick))))))) (And.intro (And.intro (And.intro (And.intro (And.intro (And.intro @v_pick_uf @v_pick_tu) (And.intro @boolU_bool @boolU_un)) (And.intro (And.intro @v_pick_jf @v_pick_tj) (And.intro @v_fa_ptr (And.intro @v_fa_row @iaK_some)))) (And.intro (And.intro (And.intro @v_ia_nat @v_aa) (And.intro @ixK_some (And.intro @v_ix_nat @v_fld))) (And.intro (And.intro @v_pack1 @v_packA) (And.intro @v_ext (And.intro @v_conv @v_cstr))))) (And.intro (And.intro (And.intro (And.intro @v_nilck_ptr @v_nilck_row) (And.intro @v_nilck_fn (And.intro @v_mx @v_mki_d))) (And.intro (And.intro @v_mki_agg @v_load_row) (And.intro @ldK_some (And.intro @v_load_ptr @box_at)))) (And.intro (And.intro (And.intro @box_at0 @set_at) (And.intro @set_at0 (And.intro @Option.bind_some.{0,0} @Option.map_some.{0,0}))) (And.intro (And.intro @Option.map_none.{0,0} @List.getElem?_map.{0,0}) (And.intro @List.length_map.{0,0} (And.intro @List.length_append.{0} @List.append_assoc.{0})))))) (And.intro (And.intro (And.intro (And.intro (And.intro @List.cons_append.{0} @List.nil_append.{0}) (And.intro @List.drop_succ_cons.{0} (And.intro @List.drop_zero.{0} @List.take_succ_cons.{0}))) (And.intro (And.intro @List.take_zero.{0} @List.length_cons.{0}) (And.intro @List.length_nil.{0} (And.intro @List.getElem?_cons_zero.{0} @List.getElem?_cons_succ.{0})))) (And.intro (And.intro (And.intro @List.set_cons_zero.{0} @List.set_cons_succ.{0}) (And.intro @Nat.zero_add (And.intro @and_true @true_and))) (And.intro (And.intro @true_implies @not_true_eq_false) (And.intro @not_false_eq_true (And.intro @false_implies @Bool.not_true))))) (And.intro (And.intro (And.intro (And.intro @Bool.not_false @List.contains_cons.{0}) (And.intro @List.contains_nil.{0} (And.intro @List.map_cons.{0,0} @List.map_nil.{0,0}))) (And.intro (And.intro @Bool.or_false @Bool.false_or) (And.intro @Bool.or_true (And.intro @Bool.true_or @Bool.false_eq_true)))) (And.intro (And.intro (And.intro @Bool.true_eq_false @bq_true) (And.intro @bq_false (And.intro @Bool.not_not @decide_not))) (And.intro (And.intro @List.all_cons.{0} @List.all_nil.{0}) (And.intro @Bool.and_true (And.intro @List.getD_cons_zero.{0} @List.getD_cons_succ.{0}))))))))
end Go.Proofs.YtbhippphcmkjnaaGreatDoor
