/- The plain world, second part: boxes and drawn regions. -/
import Derived.Test.YtinenohgemndiaaA13
import Derived.Orders
import Derived.RowKit
import Derived.Recover
set_option linter.unusedVariables false
set_option linter.unusedSimpArgs false
set_option linter.unusedSectionVars false
namespace Go.Proofs.Ytinenohgemndiaa
open Go.RowKit
mutual
def V.under (k : Nat) : V → Bool
  | .agg cs => V.unders k cs
  | .tup cs => V.unders k cs
  | .fn _ cs => V.unders k cs
  | .ptr i _ => decide (i < k)
  | .bsl i _ _ _ => decide (i < k)
  | .iface _ v => V.under k v
  | .mp i => decide (i < k)
  | .bsc i _ _ => decide (i < k)
  | .mapc _ kv => V.underkv k kv
  | .d _ => true
  | .own _ _ _ => true
  | .nil => true
  | .row _ _ => true
  | .junk => true
def V.unders (k : Nat) : List V → Bool
  | [] => true
  | x :: r => V.under k x && V.unders k r
def V.underkv (k : Nat) : List (Key × V) → Bool
  | [] => true
  | p :: r => V.underp k p && V.underkv k r
def V.underp (k : Nat) : Key × V → Bool
  | (_, x) => V.under k x
end
theorem V.unders_get {k : Nat} : ∀ {cs : List V}, V.unders k cs = true → ∀ i (h : i < cs.length), V.under k cs[i] = true
  | x :: r, h, i, hi => by
    simp only [V.unders, Bool.and_eq_true] at h
    cases i with
    | zero => exact h.1
    | succ i => exact V.unders_get h.2 i (by simpa using hi)
theorem V.unders_of {k : Nat} : ∀ {cs : List V}, (∀ i (h : i < cs.length), V.under k cs[i] = true) → V.unders k cs = true
  | [], _ => rfl
  | x :: r, h => by
    simp only [V.unders, Bool.and_eq_true]
    exact ⟨h 0 (by simp), V.unders_of fun i hi => h (i + 1) (by simpa using hi)⟩
theorem Rep.drop {M : Facts} {bm : List Nat} {k : Nat} {x : V} {v : Value} (h : Rep M bm x v) : V.under k x = true → Rep M (bm.take k) x v := by
  induction h with
  | d h => exact fun _ => .d h
  | own h => exact fun _ => .own h
  | nil => exact fun _ => .nil
  | agg hl h h1 ih => exact fun hb => .agg hl (fun i g1 g2 => ih i g1 g2 (V.unders_get (by simpa only [V.under] using hb) i g1)) h1
  | tup hl h ih => exact fun hb => .tup hl (fun i g1 g2 => ih i g1 g2 (V.unders_get (by simpa only [V.under] using hb) i g1))
  | ptr h => exact fun hb => .ptr (by
      simp only [V.under, decide_eq_true_eq] at hb
      rw [List.getElem?_take_of_lt hb]; exact h)
  | row val hf hd => exact fun _ => .row val hf hd
  | bsl h hc hm => exact fun hb => .bsl (by
      simp only [V.under, decide_eq_true_eq] at hb
      rw [List.getElem?_take_of_lt hb]; exact h) hc hm
  | fn hl h ih => exact fun hb => .fn hl (fun i g1 g2 => ih i g1 g2 (V.unders_get (by simpa only [V.under] using hb) i g1))
  | iface h ih => exact fun hb => .iface (ih (by simpa only [V.under] using hb))
  | mp h => exact fun hb => .mp (by
      simp only [V.under, decide_eq_true_eq] at hb
      rw [List.getElem?_take_of_lt hb]; exact h)
  | bsc h hc hm => exact fun hb => .bsc (by
      simp only [V.under, decide_eq_true_eq] at hb
      rw [List.getElem?_take_of_lt hb]; exact h) hc hm
  | junk v => exact fun _ => .junk v
theorem Rep.under {M : Facts} {bm : List Nat} {x : V} {v : Value} (h : Rep M bm x v) : V.under bm.length x = true := by
  induction h with
  | d h => rfl
  | own h => rfl
  | nil => rfl
  | agg hl h h1 ih => simp only [V.under]; exact V.unders_of fun i hi => ih i hi (by omega)
  | tup hl h ih => simp only [V.under]; exact V.unders_of fun i hi => ih i hi (by omega)
  | ptr h => simp only [V.under, decide_eq_true_eq]; exact (List.getElem?_eq_some_iff.1 h).1
  | row val hf hd => rfl
  | bsl h hc hm => simp only [V.under, decide_eq_true_eq]; exact (List.getElem?_eq_some_iff.1 h).1
  | fn hl h ih => simp only [V.under]; exact V.unders_of fun i hi => ih i hi (by omega)
  | iface h ih => simpa only [V.under] using ih
  | mp h => simp only [V.under, decide_eq_true_eq]; exact (List.getElem?_eq_some_iff.1 h).1
  | bsc h hc hm => simp only [V.under, decide_eq_true_eq]; exact (List.getElem?_eq_some_iff.1 h).1
  | junk v => rfl
theorem MR.drop {M : Facts} {bm : List Nat} {k : Nat} {st : Bool} {kv : List (Key × V)} {es : List MapEntry} (h : MR M bm st kv es) : V.underkv k kv = true → MR M (bm.take k) st kv es := by
  induction h with
  | nil => exact fun _ => .nil
  | cons hk hs hx ho _ ih =>
    intro hb
    simp only [V.underkv, V.underp, Bool.and_eq_true] at hb
    exact .cons hk hs (hx.drop hb.1) ho (ih hb.2)
theorem MR.under {M : Facts} {bm : List Nat} {st : Bool} {kv : List (Key × V)} {es : List MapEntry} (h : MR M bm st kv es) : V.underkv bm.length kv = true := by
  induction h with
  | nil => rfl
  | cons hk hs hx ho _ ih => simp only [V.underkv, V.underp, Bool.and_eq_true]; exact ⟨hx.under, ih⟩
def boxesBelow (k : Nat) (σ : List (List V)) : Bool := σ.all fun cs => V.unders k cs
def slotsBelow (k : Nat) (ρ : Slots) : Bool := ρ.all fun p => V.under k p.2
section
variable {C : Cx} {M : Facts} {bm : List Nat} {tk : Toks} {pr : Prot} {ρ : Slots} {σ : List (List V)} {n : Nat} {a : Act} {w : World} {K : Slots → List (List V) → Prop} {Q : AEx → Slots → List (List V) → Prop}
theorem Inv.drop (h : Inv M bm σ tk pr w) {k : Nat} (hb : boxesBelow k (σ.take k) = true) : Inv M (bm.take k) (σ.take k) tk pr w := by
  refine ⟨h.facts, by simp [h.len], fun i b cs hi hc => ?_, fun b hb => h.free b (List.mem_of_mem_take hb), h.bmnd.sublist (List.take_sublist _ _), fun i j g hg => ?_, h.inj, h.prlt⟩
  · have hik : i < k := by have := (List.getElem?_eq_some_iff.1 hi).1; simp at this; omega
    have hmem := List.mem_of_getElem? hc
    rw [List.getElem?_take_of_lt hik] at hi hc
    have hbl : V.unders k cs = true := List.all_eq_true.1 hb cs hmem
    rcases h.box i b cs hi hc with ⟨vs, T, h1, h2, h3⟩ | ⟨st, kv, es, clock, rfl, h1, h2, h3⟩
    case inr => exact .inr ⟨st, kv, es, clock, rfl, h1, h2, h3.drop (by simpa [V.unders, V.under] using hbl)⟩
    exact .inl ⟨vs, T, h1, h2, fun j g1 g2 => ⟨⟨(h3 j g1 g2).1.rep.drop (V.unders_get hbl j g1), (h3 j g1 g2).1.own⟩, (h3 j g1 g2).2⟩⟩
  · obtain ⟨t1, t2, t3⟩ := h.tok i j g hg
    exact ⟨t1, fun hm => t2 (List.mem_of_mem_take hm), t3⟩
theorem Inv.under (h : Inv M bm σ tk pr w) : boxesBelow σ.length σ = true := by
  rw [boxesBelow, List.all_eq_true]
  intro cs hcs
  obtain ⟨i, hi, rfl⟩ := List.getElem_of_mem hcs
  rcases h.box i (bm[i]'(by rw [h.len]; exact hi)) σ[i] (List.getElem?_eq_getElem _) (List.getElem?_eq_getElem _) with ⟨vs, T, h1, h2, h3⟩ | ⟨st, kv, es, clock, e, h1, h2, h3⟩
  case inr => rw [e]; simp only [V.unders, V.under, Bool.and_true]; rw [← h.len]; exact h3.under
  refine V.unders_of fun j hj => ?_
  rw [← h.len]
  exact (h3 j hj (by omega)).1.rep.under
theorem get_below {k : Nat} (h : slotsBelow k ρ = true) (t : Nat) : V.under k (get ρ t) = true := by
  induction ρ with
  | nil => rfl
  | cons p r ih =>
    obtain ⟨s, u⟩ := p
    simp only [slotsBelow, List.all_cons, Bool.and_eq_true] at h
    simp only [get]
    split
    · exact h.1
    · exact ih h.2
theorem SRel.drop (h : SRel M bm tk pr ρ σ n a w) {k : Nat} (h1 : boxesBelow k (σ.take k) = true) (h2 : slotsBelow k ρ = true) : SRel M (bm.take k) tk pr ρ (σ.take k) n a w :=
  ⟨h.inv.drop h1, h.defers, h.size, fun t => ⟨(h.slots t).rep.drop (get_below h2 t), (h.slots t).own⟩⟩
theorem Later.drop {M' : Facts} {bm' : List Nat} {w' : World} (h : Later M bm pr w M' bm' w') {k : Nat} (hk : bm.length ≤ k) : Later M bm pr w M' (bm'.take k) w' := by
  obtain ⟨t, ht⟩ := h.pre
  exact ⟨h.le, ⟨t.take (k - bm.length), by rw [ht, List.take_append, List.take_of_length_le hk]⟩, h.keep, h.facts, h.os, h.tape, h.output, h.size⟩
theorem Oper.wp_mono2 {P : Program} {o : Oper} {a : Act} {w : World} {K K' : Act → World → Prop} {Q Q' : Exit → Act → World → Prop} (h1 : ∀ a w, K a w → K' a w) (h2 : ∀ e a w, Q e a w → Q' e a w) (hh : o.wp P a w K Q) : o.wp P a w K' Q' := by
  unfold Oper.wp at *
  generalize (execOp a.eval o).run P w = r at *
  cases r with
  | ok n w' =>
    cases n <;> simp only [Oper.upon] at hh ⊢ <;>
      first
        | exact h1 _ _ hh
        | exact Calls.mono hh (fun e w'' he => by
            cases e with
            | returned v => exact h1 _ _ he
            | panicked c => exact h2 _ _ _ he
            | outgrown => obtain ⟨a, w, hq⟩ := he; exact ⟨a, w, h2 _ _ _ hq⟩)
        | exact Rows.mono hh (fun _ _ he => h1 _ _ he)
        | exact hh
  | halt x w' => cases x <;> simp only [Oper.upon] at hh ⊢ <;> first | exact h2 _ _ _ hh | exact hh
theorem yield_sound (h : SRel M bm tk pr ρ σ n a w) {ops : Array Oper} {t j : Nat} {b : Bool} (hg : get ρ t = .d (.lit (.bool b))) (hj : (match ops[j]? with | some q => q.dst == some t | none => false) = true) : yielded ops a.tmps j = some b := by
  split at hj
  · rename_i q hq
    have hq2 : q.dst = some t := by simpa using hj
    have hr := (h.slots t).rep
    rw [hg] at hr
    have hv := hr.bool_inv
    unfold yielded
    rw [hq]
    simp only [Option.bind_some, hq2]
    cases ht : a.tmps[t]? with
    | none =>
      simp only [Array.getD_eq_getD_getElem?, ht, Option.getD_none] at hv
      cases hv
    | some v =>
      simp only [Array.getD_eq_getD_getElem?, ht, Option.getD_some] at hv
      subst hv; rfl
  · cases hj
theorem rep_un {M : Facts} {bm : List Nat} : Rep M bm (.tup []) undef := .tup (vs := []) rfl fun i h => by simp at h
theorem yield_un (h : SRel M bm tk pr ρ σ n a w) {ops : Array Oper} {t j : Nat} (hg : get ρ t = .tup []) (hj : (match ops[j]? with | some q => q.dst == some t | none => false) = true) : yielded ops a.tmps j = none := by
  split at hj
  · rename_i q hq
    have hq2 : q.dst = some t := by simpa using hj
    have hr := (h.slots t).rep
    rw [hg] at hr
    unfold yielded
    rw [hq]
    simp only [Option.bind_some, hq2]
    cases ht : a.tmps[t]? with
    | none => rfl
    | some v =>
      simp only [Array.getD_eq_getD_getElem?, ht, Option.getD_some] at hr
      cases hr with
      | tup _ _ => rfl
  · cases hj
theorem SRel.know (h : SRel M bm tk pr ρ σ n a w) {t : Nat} {b : Bool} (hb : get ρ t = .d (.lit (.bool b))) {c : Bool} (hc : b = c) : SRel M bm tk pr (put ρ t (.d (.lit (.bool c)))) σ n a w :=
  ⟨h.inv, h.defers, h.size, fun s => by
    rw [get_put]
    split
    · rename_i e; subst e; subst hc; rw [← hb]; exact h.slots s
    · exact h.slots s⟩
theorem awpOps_sound {M0 : Facts} {bm0 : List Nat} {w0 : World} (hG : C.glob M0 pr w0) {ops : Array Oper} : ∀ {l : List O} {l' : List Oper} {M : Facts} {bm : List Nat} {tk : Toks} {ρ : Slots} {σ : List (List V)} {a : Act} {w : World},
    okOs C.tab n ops l l' = true → Later M0 bm0 pr w0 M bm w → SRel M bm tk pr ρ σ n a w → awpOps C l ρ σ Q → wpList C.P ops (LiftX M0 bm0 pr w0 n Q) l' a w
  | [], [], M, bm, tk, ρ, σ, a, w, _, hl, h, hq => ⟨M, bm, tk, ρ, σ, _, hq, .normal, h, hl⟩
  | o :: r, o' :: r', M, bm, tk, ρ, σ, a, w, hok, hl, h, hq => by
    simp only [okOs, Bool.and_eq_true] at hok
    obtain ⟨h1, h2⟩ := hok
    have hG' := hG.mono hl
    have step : ∀ {ρ : Slots}, SRel M bm tk pr ρ σ n a w → runO C o.op o.dst ρ σ (fun ρ' σ' => awpOps C r ρ' σ' Q) Q → o'.wp C.P a w (wpList C.P ops (LiftX M0 bm0 pr w0 n Q) r') (LiftX M0 bm0 pr w0 n Q) := fun h hr => by
      refine Oper.wp_mono2 (fun a' w' hL => ?_) (fun e a' w' hL => hL.trans hl) (runO_sound hG' h h1 hr)
      obtain ⟨M', bm', tk', ρ', σ', k1, k2, k3⟩ := hL
      exact awpOps_sound hG h2 (hl.trans k3 (fun _ h => h)) k2 k1
    have hgd : ∀ g, o.g = g → (match g, o'.guard with
        | none, none => true
        | some (t, b), some (j, b') => b == b' && (match ops[j]? with | some q => q.dst == some t | none => false)
        | _, _ => false) = true := fun g hg => by
      subst hg
      unfold okO at h1
      simp only [Bool.and_eq_true] at h1
      exact h1.2
    have hdst : o.dst = o'.dst := by
      unfold okO at h1
      simp only [Bool.and_eq_true, beq_iff_eq] at h1
      exact h1.1.1.2
    have hdn : ∀ d, o'.dst = some d → d < n := by
      unfold okO at h1
      simp only [Bool.and_eq_true] at h1
      intro d hd
      have := h1.1.2
      rw [hd] at this
      simpa using this
    unfold wpList
    simp only [awpOps] at hq
    split at hq
    · rename_i hg
      have := hgd none hg
      split at this
      · rename_i hg2
        rw [if_pos (by simp [Region.wanted, hg2])]
        exact .inl (step h hq)
      · rename_i e _; cases e
      · cases this
    · rename_i t want hg
      have := hgd _ hg
      split at this
      · rename_i e _; cases e
      · rename_i t' b' j b'' e hg2
        cases e
        simp only [Bool.and_eq_true, beq_iff_eq] at this
        obtain ⟨rfl, hj⟩ := this
        split at hq
        · rename_i b hb
          have hy := yield_sound h hb hj
          by_cases hbw : b = want
          · rw [if_pos (by simp [Region.wanted, hg2, hy, hbw])]
            exact .inl (step (h.know hb hbw) (hq.1 hbw))
          · rw [if_neg (by simp [Region.wanted, hg2, hy, hbw])]
            have := hq.2 hbw
            rw [hdst] at this
            exact awpOps_sound hG h2 hl ((h.know hb (c := !want) (by cases b <;> cases want <;> simp_all)).putd hdn rep_un (by simp)) this
        · rename_i hb
          have hy := yield_un h hb hj
          rw [if_neg (by simp [Region.wanted, hg2, hy])]
          rw [hdst] at hq
          exact awpOps_sound hG h2 hl (h.putd hdn rep_un (by simp)) hq
        · exact hq.elim
      · cases this
  | [], _ :: _, _, _, _, _, _, _, _, hok, _, _, _ => by cases hok
  | _ :: _, [], _, _, _, _, _, _, _, hok, _, _, _ => by cases hok
end
end Go.Proofs.Ytinenohgemndiaa
namespace Go.Proofs.Ytinenohgemndiaa
open Go.RowKit
def X.slots : X → List Nat
  | .t n => [n]
  | _ => []
def OP.slots : OP → List Nat
  | .mv x | .un _ x | .conv _ x | .cstr x | .cbs x | .nilck x | .fa _ x | .fld _ _ _ x | .len _ x | .ext x _ | .load _ _ x | .mki _ x | .tas _ _ x => x.slots
  | .pick c a b => c.slots ++ (a.slots ++ b.slots)
  | .clip c a b => c.slots ++ (a.slots ++ b.slots)
  | .mlk _ _ _ x k => x.slots ++ k.slots
  | .mln x => x.slots
  | .nif _ x => x.slots
  | .eqa _ _ _ x y => x.slots ++ y.slots
  | .bin _ x y | .binb _ x y | .ia _ x y | .aa _ _ x y | .ix x y | .mx _ x y => x.slots ++ y.slots
  | .bld _ ps => ps.flatMap fun p => p.2.2.slots
  | .sub _ _ x lo hi => x.slots ++ (lo.toList ++ hi.toList).flatMap X.slots
  | .mkfn _ cap => cap.flatMap X.slots
  | .mks _ _ xs => xs.flatMap X.slots
  | .call _ args => args.flatMap X.slots
  | .callv x args => x.slots ++ args.flatMap X.slots
  | .calln _ args => args.flatMap X.slots
  | _ => []
def calmO (C : Cx) (op : OP) (ρ : Slots) (σ : List (List V)) (k : V → Prop) : Prop :=
  match op with
  | .call f args => ∃ v, Fun C f (args.map fun x => (ev C ρ x).lend) σ (fun o σ' => o = .ret v ∧ σ' = σ) ∧ k v
  | .callv x args => match ev C ρ x with
    | .fn f cap => ∃ v, Fun C f ((args.map fun x => (ev C ρ x).lend) ++ cap) σ (fun o σ' => o = .ret v ∧ σ' = σ) ∧ k v
    | _ => False
  | .mks _ kk xs => match rowsOf (xs.map (ev C ρ)) with
    | some rows => rows.all (fun r => r.length == kk) = true ∧ k (.d (.sl rows))
    | none => False
  | .calln f args => ∃ v, Fun C f (args.map fun x => (ev C ρ x).copy) σ (fun o σ' => o = .ret v ∧ σ' = σ) ∧ k v
  | op => match isPure op, pv C op ρ σ with
    | true, some v => k v
    | _, _ => False
def awpCalm (C : Cx) : List O → Slots → List (List V) → (Slots → Prop) → Prop
  | [], ρ, _, K => K ρ
  | o :: r, ρ, σ, K => match o.g with
    | none => calmO C o.op ρ σ fun v => awpCalm C r (putd ρ o.dst v) σ K
    | some (t, want) => match get ρ t with
      | .d (.lit (.bool b)) => (b = want → calmO C o.op (put ρ t (.d (.lit (.bool want)))) σ fun v => awpCalm C r (putd (put ρ t (.d (.lit (.bool want)))) o.dst v) σ K) ∧ (b ≠ want → awpCalm C r (putd (put ρ t (.d (.lit (.bool (!want))))) o.dst (.tup [])) σ K)
      | .tup [] => awpCalm C r (putd ρ o.dst (.tup [])) σ K
      | _ => False
def runsS : List (Option Nat × V × Bool) → Slots → Slots
  | [], ρ => ρ
  | (d, x, b) :: r, ρ => runsS r (if b then putd ρ d x else ρ)
theorem get_putd (ρ : Slots) (d : Option Nat) (x : V) (t : Nat) : get (putd ρ d x) t = if d = some t then x else get ρ t := by
  cases d with
  | none => simp [putd]
  | some d => simp only [putd, get_put, Option.some.injEq]; split <;> split <;> first | rfl | omega
theorem get_runsS : ∀ (l : List (Option Nat × V × Bool)) (ρ ρ' : Slots) (t : Nat), get ρ t = get ρ' t → get (runsS l ρ) t = get (runsS l ρ') t
  | [], _, _, _, h => h
  | (d, x, b) :: r, ρ, ρ', t, h => by
    simp only [runsS]
    apply get_runsS r
    cases b
    · exact h
    · simp only [if_true, get_putd]; split
      · rfl
      · exact h
theorem runsS_congr : ∀ (l l' : List (Option Nat × V × Bool)) (ρ : Slots) (t : Nat), l.length = l'.length → (∀ i (h : i < l.length) (h' : i < l'.length), l[i].1 = l'[i].1 ∧ l[i].2.1 = l'[i].2.1 ∧ (l[i].1 = some t → l[i].2.2 = l'[i].2.2)) → get (runsS l ρ) t = get (runsS l' ρ) t
  | [], [], _, _, _, _ => rfl
  | (d, x, b) :: r, (d', x', b') :: r', ρ, t, hl, h => by
    simp only [runsS]
    obtain ⟨h1, h2, h3⟩ := h 0 (by simp) (by simp)
    simp only [List.getElem_cons_zero] at h1 h2 h3
    subst h1; subst h2
    have hr := fun ρ => runsS_congr r r' ρ t (by simpa using hl) (fun i g1 g2 => h (i + 1) (by simpa using g1) (by simpa using g2))
    by_cases e : d = some t
    · rw [h3 e]; exact hr _
    · rw [← hr]
      apply get_runsS
      cases b <;> cases b' <;> simp [get_putd, e]
  | [], _ :: _, _, _, hl, _ => by simp at hl
  | _ :: _, [], _, _, hl, _ => by simp at hl
theorem runsS_none : ∀ (l : List (Option Nat × V × Bool)) (ρ : Slots) (t : Nat), (∀ p ∈ l, p.1 = some t → p.2.2 = false) → get (runsS l ρ) t = get ρ t
  | [], _, _, _ => rfl
  | (d, x, b) :: r, ρ, t, h => by
    simp only [runsS]
    rw [runsS_none r _ t (fun p hp => h p (by simp [hp]))]
    cases b
    · rfl
    · simp only [if_true, get_putd]
      split
      · rename_i e; have := h (d, x, true) (by simp) e; cases this
      · rfl
theorem runsS_append : ∀ (l l' : List (Option Nat × V × Bool)) (ρ : Slots), runsS (l ++ l') ρ = runsS l' (runsS l ρ)
  | [], _, _ => rfl
  | (d, x, b) :: r, l', ρ => by simp only [List.cons_append, runsS]; exact runsS_append r l' _
theorem runsS_last (l : List (Option Nat × V × Bool)) (ρ : Slots) (i : Nat) (h : i < l.length) (t : Nat) (hd : l[i].1 = some t) (hb : l[i].2.2 = true) (hn : ∀ j (hj : j < l.length), i < j → l[j].1 = some t → l[j].2.2 = false) : get (runsS l ρ) t = l[i].2.1 := by
  have e : runsS l ρ = runsS (l.take i ++ (l[i] :: l.drop (i + 1))) ρ := by rw [List.getElem_cons_drop, List.take_append_drop]
  rw [e, runsS_append]
  generalize runsS (l.take i) ρ = ρ1
  generalize hli : l[i] = p at hd hb
  obtain ⟨d, x, b⟩ := p
  simp only at hd hb
  subst hd; subst hb
  simp only [runsS, if_true]
  rw [runsS_none]
  · simp [get_putd]
  · intro p hp hpt
    obtain ⟨j, hj, rfl⟩ := List.getElem_of_mem hp
    simp only [List.getElem_drop] at hpt ⊢
    exact hn (i + 1 + j) (by simp at hj; omega) (by omega) hpt
end Go.Proofs.Ytinenohgemndiaa
namespace Go.Proofs.Ytinenohgemndiaa
open Go.RowKit
def O.looks (o : O) : List Nat := o.op.slots ++ (match o.g with | some (t, _) => [t] | none => [])
def edgesOf (o : Oper) : List Nat := (o.after.toList.filter fun e => Region.binds .any e).map (·.on)
def beforeL : List Oper → List (List Nat) → List (List Nat)
  | [], acc => acc
  | o :: r, acc => beforeL r (acc ++ [edgesOf o ++ (edgesOf o).flatMap fun j => acc.getD j []])
def drawOK (l : List O) (os : List Oper) : Bool :=
  let bf := beforeL os []
  (List.range os.length).all fun i =>
    (match os[i]? with | some o => (edgesOf o).all fun j => decide (j < i) | none => true) &&
    (match l[i]? with
    | some o => (o.looks ++ o.dst.toList).all fun t => (List.range l.length).all fun j => j == i || (match l[j]? with
      | some p => p.dst != some t || (if j < i then (bf.getD i []).contains j else (bf.getD j []).contains i)
      | none => true)
    | none => true)
def steps : List O → List V → Nat → (Nat → Bool) → List (Option Nat × V × Bool)
  | o :: l, x :: xs, k, S => (o.dst, x, S k) :: steps l xs (k + 1) S
  | _, _, _, _ => []
theorem steps_len : ∀ (l : List O) (xs : List V) (k : Nat) (S : Nat → Bool), xs.length = l.length → (steps l xs k S).length = l.length
  | [], [], _, _, _ => rfl
  | o :: l, x :: xs, k, S, h => by simp only [steps, List.length_cons]; rw [steps_len l xs (k + 1) S (by simpa using h)]
  | [], _ :: _, _, _, h => by simp at h
  | _ :: _, [], _, _, h => by simp at h
theorem steps_get : ∀ (l : List O) (xs : List V) (k : Nat) (S : Nat → Bool) (i : Nat) (h : i < (steps l xs k S).length) (h1 : i < l.length) (h2 : i < xs.length), (steps l xs k S)[i] = (l[i].dst, xs[i], S (k + i))
  | o :: l, x :: xs, k, S, 0, h, h1, h2 => rfl
  | o :: l, x :: xs, k, S, i + 1, h, h1, h2 => by
    have := steps_get l xs (k + 1) S i (by simpa [steps] using h) (by simpa using h1) (by simpa using h2)
    simp only [steps, List.getElem_cons_succ]
    rw [this, show k + 1 + i = k + (i + 1) by omega]
def Loc (C : Cx) (o : O) (ρ : Slots) (σ : List (List V)) (x : V) : Prop :=
  match o.g with
  | none => calmO C o.op ρ σ fun v => v = x
  | some (t, want) => match get ρ t with
    | .d (.lit (.bool b)) => (b = want → calmO C o.op ρ σ fun v => v = x) ∧ (b ≠ want → x = .tup [])
    | .tup [] => x = .tup []
    | _ => False
section
variable {C : Cx} {pr : Prot} {σ : List (List V)} {n : Nat} {Q : AEx → Slots → List (List V) → Prop}
theorem calmO_split {op : OP} {ρ : Slots} {k : V → Prop} (h : calmO C op ρ σ k) : ∃ v, calmO C op ρ σ (fun u => u = v) ∧ k v := by
  unfold calmO at h
  split at h
  · obtain ⟨v, h1, h2⟩ := h
    exact ⟨v, by simp only [calmO]; exact ⟨v, h1, rfl⟩, h2⟩
  · rename_i x args
    split at h
    · rename_i f cap e
      obtain ⟨v, h1, h2⟩ := h
      exact ⟨v, by simp only [calmO, e]; exact ⟨v, h1, rfl⟩, h2⟩
    · exact h.elim
  · split at h
    · rename_i rows e
      obtain ⟨h1, h2⟩ := h
      exact ⟨_, by simp only [calmO, e]; exact ⟨h1, trivial⟩, h2⟩
    · exact h.elim
  · obtain ⟨v, h1, h2⟩ := h
    exact ⟨v, by simp only [calmO]; exact ⟨v, h1, rfl⟩, h2⟩
  · rename_i n1 n2 n3 n4
    split at h
    · rename_i v hp e
      refine ⟨v, ?_, h⟩
      unfold calmO
      split
      · exact absurd rfl (n1 _ _)
      · exact absurd rfl (n2 _ _)
      · exact absurd rfl (n3 _ _ _)
      · exact absurd rfl (n4 _ _)
      · rw [hp, e]
    · exact h.elim
theorem ev_congr {ρ ρ' : Slots} {x : X} (h : ∀ t ∈ x.slots, get ρ t = get ρ' t) : ev C ρ x = ev C ρ' x := by
  cases x with
  | t n => exact h n (by simp [X.slots])
  | k v => rfl
  | g n => rfl
theorem map_congr' {ρ ρ' : Slots} {xs : List X} (h : ∀ t ∈ xs.flatMap X.slots, get ρ t = get ρ' t) : xs.map (ev C ρ) = xs.map (ev C ρ') :=
  List.map_congr_left fun x hx => ev_congr fun t ht => h t (List.mem_flatMap.2 ⟨x, hx, ht⟩)
theorem bld_congr {ρ ρ' : Slots} : ∀ {ps : List (Nat × Nat × X)} {cs : List V}, (∀ t ∈ ps.flatMap (fun p => p.2.2.slots), get ρ t = get ρ' t) → bldV (ev C ρ) cs ps = bldV (ev C ρ') cs ps
  | [], cs, _ => rfl
  | (off, k, x) :: ps, cs, h => by
    have e : ev C ρ x = ev C ρ' x := ev_congr fun t ht => h t (by simp [ht])
    simp only [bldV, e]
    have := fun cs => bld_congr (ps := ps) (cs := cs) (fun t ht => h t (by simp only [List.flatMap_cons, List.mem_append]; exact .inr ht))
    split
    · split <;> first | rfl | exact this _
    · rfl
theorem pv_congr {ρ ρ' : Slots} {op : OP} (h : ∀ t ∈ op.slots, get ρ t = get ρ' t) : pv C op ρ σ = pv C op ρ' σ := by
  have two : ∀ {x y : X}, (∀ t ∈ x.slots ++ y.slots, get ρ t = get ρ' t) → ev C ρ x = ev C ρ' x ∧ ev C ρ y = ev C ρ' y := fun h =>
    ⟨ev_congr fun t ht => h t (by simp [ht]), ev_congr fun t ht => h t (by simp [ht])⟩
  cases op <;> simp only [OP.slots] at h <;> simp only [pv]
  case pick c a b =>
    have e1 : ev C ρ c = ev C ρ' c := ev_congr fun t ht => h t (by simp [ht])
    have e2 : ev C ρ a = ev C ρ' a := ev_congr fun t ht => h t (by simp [ht])
    have e3 : ev C ρ b = ev C ρ' b := ev_congr fun t ht => h t (by simp [ht])
    rw [e1, e2, e3]
  case clip c a b =>
    have e1 : ev C ρ c = ev C ρ' c := ev_congr fun t ht => h t (by simp [ht])
    have e2 : ev C ρ a = ev C ρ' a := ev_congr fun t ht => h t (by simp [ht])
    have e3 : ev C ρ b = ev C ρ' b := ev_congr fun t ht => h t (by simp [ht])
    rw [e1, e2, e3]
  case bin o x y => rw [(two h).1, (two h).2]
  case binb o x y => rw [(two h).1, (two h).2]
  case ia k x y => rw [(two h).1, (two h).2]
  case aa k m x y => rw [(two h).1, (two h).2]
  case ix x y => rw [(two h).1, (two h).2]
  case mx g x y => rw [(two h).1, (two h).2]
  case mlk st ok z x y => rw [(two h).1, (two h).2]
  case bld zs ps => rw [bld_congr h]
  case mkfn f cap => rw [map_congr' h]
  case sub s k x lo hi =>
    have e1 : ev C ρ x = ev C ρ' x := ev_congr fun t ht => h t (by simp [ht])
    have e2 : lo.map (ev C ρ) = lo.map (ev C ρ') := by
      cases lo with
      | none => rfl
      | some y => simp only [Option.map_some]; rw [ev_congr fun t ht => h t (by simp [ht])]
    have e3 : hi.map (ev C ρ) = hi.map (ev C ρ') := by
      cases hi with
      | none => rfl
      | some y => simp only [Option.map_some]; rw [ev_congr fun t ht => h t (by simp [ht])]
    rw [e1, e2, e3]
  case eqa neq T ks x y =>
    have e1 : ev C ρ x = ev C ρ' x := ev_congr fun t ht => h t (by simp [ht])
    have e2 : ev C ρ y = ev C ρ' y := ev_congr fun t ht => h t (by simp [ht])
    rw [e1, e2]
  all_goals first
    | rfl
    | rw [ev_congr h]
theorem calmO_congr {ρ ρ' : Slots} {op : OP} {k : V → Prop} (h : ∀ t ∈ op.slots, get ρ t = get ρ' t) (hc : calmO C op ρ σ k) : calmO C op ρ' σ k := by
  unfold calmO at hc
  split at hc
  · rename_i f args
    have e : (args.map fun x => (ev C ρ x).lend) = args.map fun x => (ev C ρ' x).lend := List.map_congr_left fun x hx => by rw [ev_congr fun t ht => h t (List.mem_flatMap.2 ⟨x, hx, ht⟩)]
    rw [e] at hc
    exact hc
  · rename_i x args
    simp only [OP.slots] at h
    have e : (args.map fun x => (ev C ρ x).lend) = args.map fun x => (ev C ρ' x).lend := List.map_congr_left fun x hx => by rw [ev_congr fun t ht => h t (List.mem_append_right _ (List.mem_flatMap.2 ⟨x, hx, ht⟩))]
    have e2 : ev C ρ x = ev C ρ' x := ev_congr fun t ht => h t (by simp [ht])
    rw [e, e2] at hc
    exact hc
  · rename_i T kk xs
    rw [map_congr' (C := C) h] at hc
    exact hc
  · rename_i f args
    have e : (args.map fun x => (ev C ρ x).copy) = args.map fun x => (ev C ρ' x).copy := List.map_congr_left fun x hx => by rw [ev_congr fun t ht => h t (List.mem_flatMap.2 ⟨x, hx, ht⟩)]
    rw [e] at hc
    exact hc
  · rename_i n1 n2 n3 n4
    rw [pv_congr h] at hc
    unfold calmO
    split
    · exact absurd rfl (n1 _ _)
    · exact absurd rfl (n2 _ _)
    · exact absurd rfl (n3 _ _ _)
    · exact absurd rfl (n4 _ _)
    · exact hc
theorem Loc.congr {ρ ρ' : Slots} {o : O} {x : V} (h : ∀ t ∈ o.looks, get ρ t = get ρ' t) (hc : Loc C o ρ σ x) : Loc C o ρ' σ x := by
  unfold O.looks at h
  unfold Loc at hc ⊢
  split at hc
  · rename_i hg
    rw [hg] at h
    exact calmO_congr (fun t ht => h t (by simp [ht])) hc
  · rename_i t want hg
    rw [hg] at h
    have e : get ρ t = get ρ' t := h t (by simp)
    rw [e] at hc
    split at hc
    · rename_i b hb
      exact ⟨fun hw => calmO_congr (fun t ht => h t (by simp [ht])) (hc.1 hw), hc.2⟩
    · exact hc
    · exact hc.elim
theorem calm_ex : ∀ {l : List O} {ρ : Slots} {k : Nat} {K : Slots → Prop}, awpCalm C l ρ σ K →
    ∃ xs : List V, xs.length = l.length ∧ (∃ ρ', K ρ' ∧ ∀ t, get ρ' t = get (runsS (steps l xs k fun _ => true) ρ) t) ∧
      ∀ i (h : i < l.length) (h' : i < xs.length), ∃ ρi, Loc C l[i] ρi σ xs[i] ∧ ∀ t, get ρi t = get (runsS (steps l xs k fun j => decide (j < k + i)) ρ) t
  | [], ρ, k, K, h => ⟨[], rfl, ⟨ρ, h, fun _ => rfl⟩, fun i h => by simp at h⟩
  | o :: r, ρ, k, K, h => by
    have key : ∀ x ρ2, (∀ t, get ρ2 t = get ρ t) → Loc C o ρ σ x → awpCalm C r (putd ρ2 o.dst x) σ K → ∃ xs : List V, xs.length = (o :: r).length ∧ (∃ ρ', K ρ' ∧ ∀ t, get ρ' t = get (runsS (steps (o :: r) xs k fun _ => true) ρ) t) ∧
        ∀ i (h : i < (o :: r).length) (h' : i < xs.length), ∃ ρi, Loc C (o :: r)[i] ρi σ xs[i] ∧ ∀ t, get ρi t = get (runsS (steps (o :: r) xs k fun j => decide (j < k + i)) ρ) t := by
      intro x ρ2 h2e hx hr
      obtain ⟨xs, h1, ⟨ρ', h2, h3⟩, h4⟩ := calm_ex (k := k + 1) hr
      have hput : ∀ t, get (putd ρ2 o.dst x) t = get (putd ρ o.dst x) t := fun t => by rw [get_putd, get_putd, h2e]
      refine ⟨x :: xs, by simp [h1], ⟨ρ', h2, fun t => ?_⟩, fun i hi hi' => ?_⟩
      · simp only [steps, runsS, if_true]; rw [h3 t]; exact get_runsS _ _ _ _ (hput t)
      · cases i with
        | zero =>
          refine ⟨ρ, hx, fun t => ?_⟩
          rw [runsS_none]
          intro p hp _
          obtain ⟨j, hj, rfl⟩ := List.getElem_of_mem hp
          have hl := steps_len (o :: r) (x :: xs) k (fun j => decide (j < k + 0)) (by simp [h1])
          rw [hl] at hj
          rw [steps_get _ _ _ _ _ (by rw [hl]; exact hj) hj (by simp [h1]; simpa using hj)]
          simp
        | succ i =>
          obtain ⟨ρi, g1, g2⟩ := h4 i (by simpa using hi) (by simpa using hi')
          refine ⟨ρi, g1, fun t => ?_⟩
          simp only [steps, runsS]
          rw [if_pos (by simp), g2 t, show k + 1 + i = k + (i + 1) by omega]
          exact get_runsS _ _ _ _ (hput t)
    have know : ∀ {t : Nat} {b c : Bool}, get ρ t = .d (.lit (.bool b)) → b = c → ∀ s, get (put ρ t (.d (.lit (.bool c)))) s = get ρ s := fun hb hc s => by
      rw [get_put]
      split
      · rename_i e; subst e; subst hc; exact hb.symm
      · rfl
    simp only [awpCalm] at h
    split at h
    · rename_i hg
      obtain ⟨v, h1, h2⟩ := calmO_split h
      exact key v ρ (fun _ => rfl) (by unfold Loc; rw [hg]; exact h1) h2
    · rename_i t want hg
      split at h
      · rename_i b hb
        by_cases e : b = want
        · obtain ⟨v, h1, h2⟩ := calmO_split (h.1 e)
          exact key v _ (know hb e) (by unfold Loc; rw [hg]; simp only; rw [hb]; exact ⟨fun _ => calmO_congr (fun s _ => know hb e s) h1, fun ne => absurd e ne⟩) h2
        · exact key (.tup []) _ (know hb (c := !want) (by cases b <;> cases want <;> simp_all)) (by unfold Loc; rw [hg]; simp only; rw [hb]; exact ⟨(fun ee => absurd ee e), (fun _ => by trivial)⟩) (h.2 e)
      · rename_i hb
        exact key (.tup []) ρ (fun _ => rfl) (by unfold Loc; rw [hg]; simp only; rw [hb]; trivial) h
      · exact h.elim
end
end Go.Proofs.Ytinenohgemndiaa
namespace Go.Proofs.Ytinenohgemndiaa
open Go.RowKit
theorem beforeL_pre : ∀ (os : List Oper) (acc : List (List Nat)), (beforeL os acc).length = acc.length + os.length ∧ ∀ i, i < acc.length → (beforeL os acc)[i]? = acc[i]?
  | [], acc => ⟨rfl, fun _ _ => rfl⟩
  | o :: r, acc => by
    obtain ⟨h1, h2⟩ := beforeL_pre r (acc ++ [edgesOf o ++ (edgesOf o).flatMap fun j => acc.getD j []])
    simp only [beforeL]
    refine ⟨by rw [h1]; simp; omega, fun i hi => ?_⟩
    rw [h2 i (by simp; omega), List.getElem?_append_left hi]
theorem beforeL_at (os : List Oper) : ∀ (acc : List (List Nat)) (i : Nat) (o : Oper), os[i]? = some o → ∃ pre : List (List Nat), (beforeL os acc)[acc.length + i]? = some (edgesOf o ++ (edgesOf o).flatMap fun j => pre.getD j []) ∧ ∀ j, j < acc.length + i → pre[j]? = (beforeL os acc)[j]? := by
  induction os with
  | nil => intro acc i o h; simp at h
  | cons o' r ih =>
    intro acc i o h
    simp only [beforeL]
    cases i with
    | zero =>
      simp at h; subst h
      obtain ⟨h1, h2⟩ := beforeL_pre r (acc ++ [edgesOf o' ++ (edgesOf o').flatMap fun j => acc.getD j []])
      refine ⟨acc, ?_, fun j hj => ?_⟩
      · rw [h2 _ (by simp)]
        rw [List.getElem?_append_right (by simp)]
        simp
      · rw [h2 j (by simp; omega), List.getElem?_append_left (by omega)]
    | succ i =>
      obtain ⟨pre, h1, h2⟩ := ih (acc ++ [edgesOf o' ++ (edgesOf o').flatMap fun j => acc.getD j []]) i o (by simpa using h)
      rw [List.length_append, List.length_singleton] at h1 h2
      rw [show acc.length + (i + 1) = acc.length + 1 + i by omega]
      exact ⟨pre, h1, h2⟩
theorem before_closed {os : List Oper} (hlt : ∀ (i : Nat) (o : Oper), os[i]? = some o → ∀ j ∈ edgesOf o, j < i) {S : Nat → Prop} (hcl : ∀ (i : Nat) (o : Oper), os[i]? = some o → S i → ∀ j ∈ edgesOf o, S j) :
    ∀ (i : Nat) (o : Oper), os[i]? = some o → (∀ j ∈ edgesOf o, S j) → ∀ j ∈ (beforeL os []).getD i [], S j := by
  intro i
  induction i using Nat.strongRecOn with
  | _ i ih =>
  intro o ho he j hj
  obtain ⟨pre, h1, h2⟩ := beforeL_at os [] i o ho
  simp only [List.length_nil, Nat.zero_add] at h1 h2
  rw [List.getD_eq_getElem?_getD, h1, Option.getD_some] at hj
  rcases List.mem_append.1 hj with hj | hj
  · exact he j hj
  · obtain ⟨e, g1, g2⟩ := List.mem_flatMap.1 hj
    have hei := hlt i o ho e g1
    rw [List.getD_eq_getElem?_getD, h2 e hei, ← List.getD_eq_getElem?_getD] at g2
    have hlen : e < os.length := by have := (List.getElem?_eq_some_iff.1 ho).1; omega
    exact ih e hei os[e] (List.getElem?_eq_getElem hlen) (hcl e _ (List.getElem?_eq_getElem hlen) (he e g1)) j g2
theorem drawOK_facts {l : List O} {os : List Oper} (hl : l.length = os.length) (h : drawOK l os = true) :
    (∀ (i : Nat) (o : Oper), os[i]? = some o → ∀ j ∈ edgesOf o, j < i) ∧
    ∀ (i : Nat) (o : O), l[i]? = some o → ∀ t ∈ o.looks ++ o.dst.toList, ∀ (j : Nat) (p : O), l[j]? = some p → p.dst = some t → j ≠ i → (j < i ∧ j ∈ (beforeL os []).getD i []) ∨ (i < j ∧ i ∈ (beforeL os []).getD j []) := by
  unfold drawOK at h
  simp only [List.all_eq_true, List.mem_range, Bool.and_eq_true] at h
  refine ⟨fun i o ho j hj => ?_, fun i o ho t ht j p hp hd hne => ?_⟩
  · have := (h i (List.getElem?_eq_some_iff.1 ho).1).1
    rw [ho] at this
    simpa using List.all_eq_true.1 this j hj
  · have h1 := (h i (by rw [← hl]; exact (List.getElem?_eq_some_iff.1 ho).1)).2
    rw [ho] at h1
    simp only [List.all_eq_true, List.mem_range] at h1
    have h2 := h1 t ht j (List.getElem?_eq_some_iff.1 hp).1
    rw [hp] at h2
    simp only [hd, Bool.or_eq_true, beq_iff_eq, bne_self_eq_false, Bool.false_eq_true, false_or] at h2
    rcases h2 with h2 | h2
    · exact absurd h2 hne
    · split at h2
      · exact .inl ⟨by assumption, by simpa using h2⟩
      · exact .inr ⟨by omega, by simpa using h2⟩
theorem okOs_get {tab : Tab} {n : Nat} {ops : Array Oper} : ∀ {l : List O} {os : List Oper}, okOs tab n ops l os = true → l.length = os.length ∧ ∀ (i : Nat) (o : O) (o' : Oper), l[i]? = some o → os[i]? = some o' → okO tab n ops o o' = true
  | [], [], _ => ⟨rfl, fun i o o' h => by simp at h⟩
  | o :: l, o' :: os, h => by
    simp only [okOs, Bool.and_eq_true] at h
    obtain ⟨h1, h2⟩ := okOs_get h.2
    refine ⟨by simp [h1], fun i p p' hp hp' => ?_⟩
    cases i with
    | zero => simp at hp hp'; subst hp; subst hp'; exact h.1
    | succ i => exact h2 i p p' (by simpa using hp) (by simpa using hp')
  | [], _ :: _, h => by cases h
  | _ :: _, [], h => by cases h
section
variable {C : Cx} {pr : Prot} {ρ : Slots} {σ : List (List V)} {n : Nat} {Q : AEx → Slots → List (List V) → Prop}
theorem SRel.congr {M : Facts} {bm : List Nat} {tk : Toks} {ρ ρ' : Slots} {a : Act} {w : World} (h : SRel M bm tk pr ρ σ n a w) (he : ∀ t, get ρ' t = get ρ t) : SRel M bm tk pr ρ' σ n a w :=
  ⟨h.inv, h.defers, h.size, fun t => by rw [he]; exact h.slots t⟩
theorem calm_run {op : OP} {ρ : Slots} {x : V} {dst : Option Nat} (h : calmO C op ρ σ fun v => v = x) : runO C op dst ρ σ (fun ρ' σ' => ρ' = putd ρ dst x ∧ σ' = σ) (fun _ _ _ => False) := by
  unfold calmO at h
  split at h
  · obtain ⟨v, h1, rfl⟩ := h
    exact h1.mono fun o σ' ⟨e1, e2⟩ => by subst e1; exact ⟨rfl, e2⟩
  · split at h
    · rename_i f cap e
      obtain ⟨v, h1, rfl⟩ := h
      simp only [runO, e]
      exact h1.mono fun o σ' ⟨e1, e2⟩ => by subst e1; exact ⟨rfl, e2⟩
    · exact h.elim
  · split at h
    · rename_i rows e
      obtain ⟨h1, rfl⟩ := h
      simp only [runO, e]
      exact ⟨h1, trivial, trivial⟩
    · exact h.elim
  · obtain ⟨v, h1, rfl⟩ := h
    exact h1.mono fun o σ' ⟨e1, e2⟩ => by subst e1; exact ⟨rfl, e2⟩
  · split at h
    · rename_i v hp e
      subst h
      cases op <;> simp only [isPure] at hp <;> first | (cases hp; done) | skip
      all_goals
        unfold runO
        simp only
        rw [e]
        constructor <;> trivial
    · exact h.elim
theorem set_count : ∀ (l : List Bool) (i : Nat), l[i]? = some false → ((l.set i true).filter (! ·)).length + 1 = (l.filter (! ·)).length
  | b :: l, 0, h => by simp at h; subst h; simp
  | b :: l, i + 1, h => by
    have := set_count l i (by simpa using h)
    cases b <;> simp only [List.set_cons_succ, List.filter_cons] <;> simp <;> omega
theorem draw_sound {M0 : Facts} {bm0 : List Nat} {w0 : World} (hG : C.glob M0 pr w0) {id : Nat} {ops : Array Oper} {l : List O} {M : Facts} {bm : List Nat} {tk : Toks} {a : Act} {w : World} (hok : okOs C.tab n ops l ops.toList = true) (hdr : drawOK l ops.toList = true)
    (hl : Later M0 bm0 pr w0 M bm w) (h : SRel M bm tk pr ρ σ n a w) (hq : awpCalm C l ρ σ fun ρ' => Q .normal ρ' σ) : (Code.region id ops true).wp C.P (LiftX M0 bm0 pr w0 n Q) a w := by
  obtain ⟨hlen, hget⟩ := okOs_get hok
  obtain ⟨hlt, hcmp⟩ := drawOK_facts hlen hdr
  obtain ⟨xs, hxl, ⟨ρf, hρf, hρe⟩, hloc⟩ := calm_ex (k := 0) hq
  have hnl : l.length = ops.size := by rw [hlen]; simp
  refine wp_region_any C.mixed ?_
  have hsteps : ∀ S : Nat → Bool, (steps l xs 0 S).length = l.length := fun S => steps_len l xs 0 S hxl
  have hsg : ∀ (S : Nat → Bool) (i : Nat) (hi : i < (steps l xs 0 S).length) (h1 : i < l.length), (steps l xs 0 S)[i] = (l[i].dst, xs[i]'(by omega), S i) := fun S i hi h1 => by
    have := steps_get l xs 0 S i hi h1 (by omega)
    simpa using this
  suffices H : ∀ (fuel : Nat) (listed : Array Bool) (M : Facts) (tk : Toks) (a : Act) (w : World), Later M0 bm0 pr w0 M bm w → SRel M bm tk pr (runsS (steps l xs 0 fun i => listed.getD i false) ρ) σ n a w → listed.size = l.length →
      (∀ (i : Nat) (o : Oper), ops.toList[i]? = some o → listed.getD i false = true → ∀ j ∈ edgesOf o, listed.getD j false = true) → (listed.toList.filter (! ·)).length = fuel → wpAny C.P .any ops (LiftX M0 bm0 pr w0 n Q) fuel listed a w by
    obtain ⟨h1, h2⟩ := h.ext (Grows.drew w)
    refine H ops.size (Array.replicate ops.size false) M tk a w.drew (hl.trans h2 (fun _ h => h)) (h1.congr fun t => ?_) (by simp [hnl]) (fun i o ho hi => ?_) (by simp)
    · rw [runsS_none]
      intro p hp _
      obtain ⟨j, hj, rfl⟩ := List.getElem_of_mem hp
      rw [hsteps] at hj
      rw [hsg _ j (by rw [hsteps]; exact hj) hj]
      simp [Array.getD_eq_getD_getElem?, Array.getElem?_replicate]
      split <;> rfl
    · simp [Array.getD_eq_getD_getElem?, Array.getElem?_replicate] at hi
      split at hi <;> cases hi
  intro fuel
  induction fuel with
  | zero =>
    intro listed M tk a w hl h hsz hcl hcnt
    have hall : ∀ i, i < l.length → listed.getD i false = true := fun i hi => by
      have hb : listed[i]? = some (listed[i]'(by omega)) := Array.getElem?_eq_getElem _
      rw [Array.getD_eq_getD_getElem?, hb, Option.getD_some]
      have hne : listed.toList.filter (! ·) = [] := List.eq_nil_of_length_eq_zero hcnt
      have := List.filter_eq_nil_iff.1 hne (listed[i]'(by omega)) (by simp)
      simpa using this
    refine ⟨?_, M, bm, tk, ρf, σ, .normal, hρf, .normal, h.congr (fun t => ?_), hl⟩
    · unfold Region.ready
      rw [List.filter_eq_nil_iff]
      intro i hi
      have hi' : i < l.length := by rw [hnl]; simpa using hi
      have h9 := hall i hi'
      have : listed.getD i true = true := by
        have hb : listed[i]? = some (listed[i]'(by omega)) := Array.getElem?_eq_getElem _
        rw [Array.getD_eq_getD_getElem?, hb, Option.getD_some] at h9 ⊢
        exact h9
      simp [this]
    · rw [hρe t]
      refine runsS_congr _ _ ρ t (by rw [hsteps, hsteps]) (fun i g1 g2 => ?_)
      rw [hsteps] at g1
      rw [hsg _ i (by rw [hsteps]; exact g1) g1, hsg _ i (by rw [hsteps]; exact g1) g1]
      exact ⟨rfl, rfl, fun _ => (hall i g1).symm⟩
  | succ fuel ih =>
    intro listed M tk a w hl h hsz hcl hcnt
    refine ⟨fun hnil => ?_, fun i hi => ?_⟩
    · exfalso
      -- the first operation that is not listed is ready
      have hex : ∃ i, i < l.length ∧ listed.getD i false = false := by
        apply Classical.byContradiction
        intro hno
        have hne : listed.toList.filter (! ·) = [] := by
          rw [List.filter_eq_nil_iff]
          intro b hb
          obtain ⟨i, hi, rfl⟩ := List.getElem_of_mem hb
          have hi' : i < listed.size := by simpa using hi
          have h9 : ¬ listed.getD i false = false := fun e => hno ⟨i, by omega, e⟩
          have hb : listed[i]? = some listed[i] := Array.getElem?_eq_getElem hi'
          rw [Array.getD_eq_getD_getElem?, hb, Option.getD_some] at h9
          simpa using h9
        rw [hne] at hcnt
        simp at hcnt
      have hmin : ∃ i, i < l.length ∧ listed.getD i false = false ∧ ∀ j, j < i → listed.getD j false = true := by
        obtain ⟨i, h1, h2⟩ := hex
        induction i using Nat.strongRecOn with
        | _ i ihm =>
        by_cases hj : ∃ j, j < i ∧ listed.getD j false = false
        · obtain ⟨j, g1, g2⟩ := hj; exact ihm j g1 (by omega) g2
        · exact ⟨i, h1, h2, fun j hji => by
            cases hb : listed.getD j false with
            | true => rfl
            | false => exact absurd ⟨j, hji, hb⟩ hj⟩
      obtain ⟨i, h1, h2, h3⟩ := hmin
      have hio : i < ops.toList.length := by rw [← hlen]; exact h1
      have : i ∈ Region.ready .any ops listed := by
        unfold Region.ready
        rw [List.mem_filter]
        refine ⟨by simp; omega, ?_⟩
        have ht : listed.getD i true = false := by
          have hb : listed[i]? = some (listed[i]'(by omega)) := Array.getElem?_eq_getElem _
          rw [Array.getD_eq_getD_getElem?, hb, Option.getD_some] at h2 ⊢
          exact h2
        have ho : ops[i]? = some (ops[i]'(by omega)) := Array.getElem?_eq_getElem _
        rw [ht, ho]
        simp only [Bool.not_false, Bool.true_and, Option.map_some, Option.getD_some]
        rw [← Array.all_toList, List.all_eq_true]
        intro e he
        cases hb : Region.binds .any e with
        | false => rfl
        | true =>
          have : e.on ∈ edgesOf (ops[i]'(by omega)) := by
            unfold edgesOf
            exact List.mem_map.2 ⟨e, List.mem_filter.2 ⟨he, hb⟩, rfl⟩
          simp [h3 e.on (hlt i _ (by rw [List.getElem?_eq_getElem hio]; simp) e.on this)]
      rw [hnil] at this
      cases this
    · unfold Region.ready at hi
      rw [List.mem_filter] at hi
      obtain ⟨hir, hic⟩ := hi
      have hi1 : i < ops.size := by simpa using hir
      have hi2 : i < l.length := by omega
      have ho : ops[i]? = some ops[i] := Array.getElem?_eq_getElem hi1
      have hoL : ops.toList[i]? = some ops[i] := by rw [Array.getElem?_toList]; exact ho
      rw [ho] at hic
      simp only [Option.map_some, Option.getD_some, Bool.and_eq_true, Bool.not_eq_true'] at hic
      obtain ⟨hun, hed⟩ := hic
      have hun' : listed[i]? = some false := by
        have hb : listed[i]? = some (listed[i]'(by omega)) := Array.getElem?_eq_getElem _
        rw [Array.getD_eq_getD_getElem?, hb, Option.getD_some] at hun
        rw [hb, hun]
      have hunf : listed.getD i false = false := by rw [Array.getD_eq_getD_getElem?, hun']; rfl
      have hedge : ∀ j ∈ edgesOf ops[i], listed.getD j false = true := by
        intro j hj
        unfold edgesOf at hj
        obtain ⟨e, he, rfl⟩ := List.mem_map.1 hj
        rw [List.mem_filter] at he
        rw [← Array.all_toList, List.all_eq_true] at hed
        have := hed e he.1
        simpa [he.2] using this
      have hbef := before_closed hlt (S := fun j => listed.getD j false = true) hcl i _ hoL hedge
      -- a listed operation has its own ones listed
      have hlist : ∀ j p, l[j]? = some p → listed.getD j false = true → ∀ q ∈ (beforeL ops.toList []).getD j [], listed.getD q false = true := fun j p hj hjl => by
        have hjo : j < ops.toList.length := by rw [← hlen]; exact (List.getElem?_eq_some_iff.1 hj).1
        exact before_closed hlt (S := fun j => listed.getD j false = true) hcl j _ (List.getElem?_eq_getElem hjo) (hcl j _ (List.getElem?_eq_getElem hjo) hjl)
      have hsame : ∀ t ∈ l[i].looks ++ l[i].dst.toList, ∀ j (hj : j < l.length), j ≠ i → l[j].dst = some t → (listed.getD j false = decide (j < i)) := by
        intro t ht j hj hne hd
        rcases hcmp i l[i] (List.getElem?_eq_getElem hi2) t ht j l[j] (List.getElem?_eq_getElem hj) hd hne with ⟨g1, g2⟩ | ⟨g1, g2⟩
        · rw [hbef j g2]; simp [g1]
        · have : ¬ listed.getD j false = true := fun hjl => by
            have := hlist j l[j] (List.getElem?_eq_getElem hj) hjl i g2
            rw [hunf] at this; cases this
          have e : listed.getD j false = false := by simpa using this
          rw [e]; simp; omega
      obtain ⟨ρi, hL, hρi⟩ := hloc i hi2 (by omega)
      have hgetL : ∀ t ∈ l[i].looks, get ρi t = get (runsS (steps l xs 0 fun i => listed.getD i false) ρ) t := by
        intro t ht
        rw [hρi t]
        refine runsS_congr _ _ ρ t (by rw [hsteps, hsteps]) (fun j g1 g2 => ?_)
        rw [hsteps] at g1
        rw [hsg _ j (by rw [hsteps]; exact g1) g1, hsg _ j (by rw [hsteps]; exact g1) g1]
        refine ⟨rfl, rfl, fun hd => ?_⟩
        simp only [Nat.zero_add]
        by_cases e : j = i
        · subst e; rw [hunf]; simp
        · exact (hsame t (by simp [ht]) j g1 e hd).symm
      have hL2 := hL.congr hgetL
      have hnext : ∀ t, get (runsS (steps l xs 0 fun j => (listed.setIfInBounds i true).getD j false) ρ) t = get (putd (runsS (steps l xs 0 fun j => listed.getD j false) ρ) l[i].dst (xs[i]'(by omega))) t := by
        intro t
        have hset : ∀ j, (listed.setIfInBounds i true).getD j false = if j = i then true else listed.getD j false := fun j => by
          rw [Array.getD_eq_getD_getElem?, Array.getD_eq_getD_getElem?]
          split
          · rename_i e; subst e; rw [Array.getElem?_setIfInBounds_self_of_lt (by omega)]; rfl
          · rename_i e; rw [Array.getElem?_setIfInBounds_ne (Ne.symm e)]
        rw [get_putd]
        split
        · rename_i e
          have := runsS_last (steps l xs 0 fun j => (listed.setIfInBounds i true).getD j false) ρ i (by rw [hsteps]; exact hi2) t (by rw [hsg _ i _ hi2]; exact e) (by rw [hsg _ i _ hi2, hset]; simp) (fun j hj hij hd => by
            rw [hsteps] at hj
            rw [hsg _ j _ hj] at hd ⊢
            simp only at hd ⊢
            rw [hset, if_neg (by omega), hsame t (by simp [e]) j hj (by omega) hd]
            simp; omega)
          rw [this, hsg _ i _ hi2]
        · rename_i e
          refine runsS_congr _ _ ρ t (by rw [hsteps, hsteps]) (fun j g1 g2 => ?_)
          rw [hsteps] at g1
          rw [hsg _ j (by rw [hsteps]; exact g1) g1, hsg _ j (by rw [hsteps]; exact g1) g1]
          refine ⟨rfl, rfl, fun hd => ?_⟩
          simp only at hd ⊢
          rw [hset, if_neg (fun ee => by subst ee; exact e hd)]
      have hnextcl : ∀ (q : Nat) (o : Oper), ops.toList[q]? = some o → (listed.setIfInBounds i true).getD q false = true → ∀ j ∈ edgesOf o, (listed.setIfInBounds i true).getD j false = true := by
        have hset : ∀ j, (listed.setIfInBounds i true).getD j false = if j = i then true else listed.getD j false := fun j => by
          rw [Array.getD_eq_getD_getElem?, Array.getD_eq_getD_getElem?]
          split
          · rename_i e; subst e; rw [Array.getElem?_setIfInBounds_self_of_lt (by omega)]; rfl
          · rename_i e; rw [Array.getElem?_setIfInBounds_ne (Ne.symm e)]
        intro q o hqo hql j hj
        rw [hset] at hql ⊢
        split
        · rfl
        · split at hql
          · rename_i e; subst e
            rw [hoL] at hqo; cases hqo
            exact hedge j hj
          · exact hcl q o hqo hql j hj
      have hnextc : ((listed.setIfInBounds i true).toList.filter (! ·)).length = fuel := by
        have := set_count listed.toList i (by rw [Array.getElem?_toList]; exact hun')
        rw [Array.toList_setIfInBounds]
        omega
      have hoo := hget i l[i] ops[i] (List.getElem?_eq_getElem hi2) hoL
      have hdst : l[i].dst = ops[i].dst := by
        unfold okO at hoo
        simp only [Bool.and_eq_true, beq_iff_eq] at hoo
        exact hoo.1.1.2
      have hdn : ∀ d, ops[i].dst = some d → d < n := by
        unfold okO at hoo
        simp only [Bool.and_eq_true] at hoo
        intro d hd
        have := hoo.1.2
        rw [hd] at this
        simpa using this
      have hgd := hoo
      unfold okO at hgd
      simp only [Bool.and_eq_true] at hgd
      replace hgd := hgd.2
      have exec : calmO C l[i].op (runsS (steps l xs 0 fun i => listed.getD i false) ρ) σ (fun v => v = xs[i]'(by omega)) → (ops[i]).wp C.P a w (wpAny C.P .any ops (LiftX M0 bm0 pr w0 n Q) fuel (listed.setIfInBounds i true)) (LiftX M0 bm0 pr w0 n Q) := fun hc => by
        refine Oper.wp_mono2 (fun a' w' hL => ?_) (fun e a' w' hL => ?_) (runO_sound (hG.mono hl) h hoo (calm_run hc))
        · obtain ⟨M', bm', tk', ρ', σ', ⟨rfl, rfl⟩, k2, k3⟩ := hL
          have hbm : bm' = bm := by
            obtain ⟨t, rfl⟩ := k3.pre
            have e1 := k2.inv.len
            have e2 := h.inv.len
            have : t = [] := List.eq_nil_of_length_eq_zero (by simp at e1; omega)
            simp [this]
          subst hbm
          exact ih _ M' tk' a' w' (hl.trans k3 (fun _ h => h)) (k2.congr hnext) (by simp [hsz]) hnextcl hnextc
        · obtain ⟨_, _, _, _, _, _, hf, _⟩ := hL
          exact hf.elim
      unfold wpOp
      rw [ho]
      simp only
      unfold Loc at hL2
      split at hL2
      · rename_i hg
        rw [hg] at hgd
        split at hgd
        · rename_i hg2
          rw [if_pos (by simp [Region.wanted, hg2])]
          exact .inl (exec hL2)
        · rename_i e _; cases e
        · cases hgd
      · rename_i t want hg
        rw [hg] at hgd
        split at hgd
        · rename_i e _; cases e
        · rename_i t' b' j b'' e hg2
          cases e
          simp only [Bool.and_eq_true, beq_iff_eq] at hgd
          obtain ⟨rfl, hj⟩ := hgd
          split at hL2
          · rename_i b hb
            have hy := yield_sound h hb hj
            by_cases hbw : b = want
            · rw [if_pos (by simp [Region.wanted, hg2, hy, hbw])]
              exact .inl (exec (hL2.1 hbw))
            · rw [if_neg (by simp [Region.wanted, hg2, hy, hbw])]
              have hx := hL2.2 hbw
              refine ih _ M tk _ w hl ((h.putd hdn rep_un (by simp)).congr fun t => ?_) (by simp [hsz]) hnextcl hnextc
              rw [hnext t, hx, hdst]
          · rename_i hb
            have hy := yield_un h hb hj
            rw [if_neg (by simp [Region.wanted, hg2, hy])]
            refine ih _ M tk _ w hl ((h.putd hdn rep_un (by simp)).congr fun t => ?_) (by simp [hsz]) hnextcl hnextc
            rw [hnext t, hL2, hdst]
          · exact hL2.elim
        · cases hgd
end
end Go.Proofs.Ytinenohgemndiaa
namespace Go.Proofs.Ytinenohgemndiaa
open Go.RowKit
section
variable {C : Cx} {pr : Prot} {n : Nat} {Q : AEx → Slots → List (List V) → Prop}
theorem draw_gen {M0 : Facts} {bm0 : List Nat} {w0 : World} {id : Nat} {ops : Array Oper} {M : Facts} {bm : List Nat} {tk : Toks} {a : Act} {w : World} (St : (Nat → Bool) → Slots) (Sg : (Nat → Bool) → List (List V)) (ρf : Slots) (σf : List (List V))
    (hlt : ∀ (i : Nat) (o : Oper), ops.toList[i]? = some o → ∀ j ∈ edgesOf o, j < i)
    (hext : ∀ S S', (∀ j, j < ops.size → S j = S' j) → (∀ t, get (St S) t = get (St S') t) ∧ Sg S = Sg S')
    (hl : Later M0 bm0 pr w0 M bm w) (h : SRel M bm tk pr (St fun _ => false) (Sg fun _ => false) n a w)
    (hf : (∀ t, get ρf t = get (St fun _ => true) t) ∧ σf = Sg fun _ => true) (hq : Q .normal ρf σf)
    (step : ∀ (S : Nat → Bool) (i : Nat) (o : Oper), ops.toList[i]? = some o → S i = false → (∀ (j : Nat) (p : Oper), ops.toList[j]? = some p → S j = true → ∀ e ∈ edgesOf p, S e = true) → (∀ e ∈ edgesOf o, S e = true) →
      ∀ (M : Facts) (bm : List Nat) (tk : Toks) (a : Act) (w : World), Later M0 bm0 pr w0 M bm w → SRel M bm tk pr (St S) (Sg S) n a w →
        if Region.wanted o (yielded ops a.tmps) then o.wp C.P a w (Lift M bm pr w n fun ρ' σ' => (∀ t, get ρ' t = get (St fun j => j == i || S j) t) ∧ σ' = Sg fun j => j == i || S j) (LiftX M bm pr w n fun _ _ _ => False)
        else SRel M bm tk pr (St fun j => j == i || S j) (Sg fun j => j == i || S j) n (a.put o.dst undef) w) :
    (Code.region id ops true).wp C.P (LiftX M0 bm0 pr w0 n Q) a w := by
  refine wp_region_any C.mixed ?_
  suffices H : ∀ (fuel : Nat) (listed : Array Bool) (M : Facts) (bm : List Nat) (tk : Toks) (a : Act) (w : World), Later M0 bm0 pr w0 M bm w → SRel M bm tk pr (St fun i => listed.getD i false) (Sg fun i => listed.getD i false) n a w → listed.size = ops.size →
      (∀ (i : Nat) (o : Oper), ops.toList[i]? = some o → listed.getD i false = true → ∀ j ∈ edgesOf o, listed.getD j false = true) → (listed.toList.filter (! ·)).length = fuel → wpAny C.P .any ops (LiftX M0 bm0 pr w0 n Q) fuel listed a w by
    obtain ⟨h1, h2⟩ := h.ext (Grows.drew w)
    have hrep : ∀ j, (Array.replicate ops.size false).getD j false = false := fun j => by
      simp only [Array.getD_eq_getD_getElem?, Array.getElem?_replicate]
      split <;> rfl
    obtain ⟨e1, e2⟩ := hext (fun i => (Array.replicate ops.size false).getD i false) (fun _ => false) (fun j _ => hrep j)
    refine H ops.size (Array.replicate ops.size false) M bm tk a w.drew (hl.trans h2 (fun _ h => h)) ?_ (by simp) (fun i o ho hi => ?_) (by simp)
    · rw [e2]; exact h1.congr e1
    · rw [hrep] at hi; cases hi
  intro fuel
  induction fuel with
  | zero =>
    intro listed M bm tk a w hl h hsz hcl hcnt
    have hall : ∀ i, i < ops.size → listed.getD i false = true := fun i hi => by
      have hb : listed[i]? = some (listed[i]'(by omega)) := Array.getElem?_eq_getElem _
      rw [Array.getD_eq_getD_getElem?, hb, Option.getD_some]
      have hne : listed.toList.filter (! ·) = [] := List.eq_nil_of_length_eq_zero hcnt
      have := List.filter_eq_nil_iff.1 hne (listed[i]'(by omega)) (by simp)
      simpa using this
    obtain ⟨e1, e2⟩ := hext (fun i => listed.getD i false) (fun _ => true) hall
    refine ⟨?_, M, bm, tk, ρf, σf, .normal, hq, .normal, ?_, hl⟩
    · unfold Region.ready
      rw [List.filter_eq_nil_iff]
      intro i hi
      have hi' : i < ops.size := by simpa using hi
      have h9 := hall i hi'
      have : listed.getD i true = true := by
        have hb : listed[i]? = some (listed[i]'(by omega)) := Array.getElem?_eq_getElem _
        rw [Array.getD_eq_getD_getElem?, hb, Option.getD_some] at h9 ⊢
        exact h9
      simp [this]
    · rw [hf.2, ← e2]
      exact h.congr fun t => (hf.1 t).trans (e1 t).symm
  | succ fuel ih =>
    intro listed M bm tk a w hl h hsz hcl hcnt
    refine ⟨fun hnil => ?_, fun i hi => ?_⟩
    · exfalso
      have hex : ∃ i, i < ops.size ∧ listed.getD i false = false := by
        apply Classical.byContradiction
        intro hno
        have hne : listed.toList.filter (! ·) = [] := by
          rw [List.filter_eq_nil_iff]
          intro b hb
          obtain ⟨i, hi, rfl⟩ := List.getElem_of_mem hb
          have hi' : i < listed.size := by simpa using hi
          have h9 : ¬ listed.getD i false = false := fun e => hno ⟨i, by omega, e⟩
          have hb : listed[i]? = some listed[i] := Array.getElem?_eq_getElem hi'
          rw [Array.getD_eq_getD_getElem?, hb, Option.getD_some] at h9
          simpa using h9
        rw [hne] at hcnt
        simp at hcnt
      have hmin : ∃ i, i < ops.size ∧ listed.getD i false = false ∧ ∀ j, j < i → listed.getD j false = true := by
        obtain ⟨i, h1, h2⟩ := hex
        induction i using Nat.strongRecOn with
        | _ i ihm =>
        by_cases hj : ∃ j, j < i ∧ listed.getD j false = false
        · obtain ⟨j, g1, g2⟩ := hj; exact ihm j g1 (by omega) g2
        · exact ⟨i, h1, h2, fun j hji => by
            cases hb : listed.getD j false with
            | true => rfl
            | false => exact absurd ⟨j, hji, hb⟩ hj⟩
      obtain ⟨i, h1, h2, h3⟩ := hmin
      have hio : i < ops.toList.length := by simpa using h1
      have : i ∈ Region.ready .any ops listed := by
        unfold Region.ready
        rw [List.mem_filter]
        refine ⟨by simp; omega, ?_⟩
        have ht : listed.getD i true = false := by
          have hb : listed[i]? = some (listed[i]'(by omega)) := Array.getElem?_eq_getElem _
          rw [Array.getD_eq_getD_getElem?, hb, Option.getD_some] at h2 ⊢
          exact h2
        have ho : ops[i]? = some (ops[i]'(by omega)) := Array.getElem?_eq_getElem _
        rw [ht, ho]
        simp only [Bool.not_false, Bool.true_and, Option.map_some, Option.getD_some]
        rw [← Array.all_toList, List.all_eq_true]
        intro e he
        cases hb : Region.binds .any e with
        | false => rfl
        | true =>
          have : e.on ∈ edgesOf (ops[i]'(by omega)) := by
            unfold edgesOf
            exact List.mem_map.2 ⟨e, List.mem_filter.2 ⟨he, hb⟩, rfl⟩
          simp [h3 e.on (hlt i _ (by rw [List.getElem?_eq_getElem hio]; simp) e.on this)]
      rw [hnil] at this
      cases this
    · unfold Region.ready at hi
      rw [List.mem_filter] at hi
      obtain ⟨hir, hic⟩ := hi
      have hi1 : i < ops.size := by simpa using hir
      have ho : ops[i]? = some ops[i] := Array.getElem?_eq_getElem hi1
      have hoL : ops.toList[i]? = some ops[i] := by rw [Array.getElem?_toList]; exact ho
      rw [ho] at hic
      simp only [Option.map_some, Option.getD_some, Bool.and_eq_true, Bool.not_eq_true'] at hic
      obtain ⟨hun, hed⟩ := hic
      have hun' : listed[i]? = some false := by
        have hb : listed[i]? = some (listed[i]'(by omega)) := Array.getElem?_eq_getElem _
        rw [Array.getD_eq_getD_getElem?, hb, Option.getD_some] at hun
        rw [hb, hun]
      have hunf : listed.getD i false = false := by rw [Array.getD_eq_getD_getElem?, hun']; rfl
      have hedge : ∀ j ∈ edgesOf ops[i], listed.getD j false = true := by
        intro j hj
        unfold edgesOf at hj
        obtain ⟨e, he, rfl⟩ := List.mem_map.1 hj
        rw [List.mem_filter] at he
        rw [← Array.all_toList, List.all_eq_true] at hed
        have := hed e he.1
        simpa [he.2] using this
      have hset : ∀ j, (listed.setIfInBounds i true).getD j false = (j == i || listed.getD j false) := fun j => by
        rw [Array.getD_eq_getD_getElem?, Array.getD_eq_getD_getElem?]
        by_cases e : j = i
        · subst e; rw [Array.getElem?_setIfInBounds_self_of_lt (by omega)]; simp
        · rw [Array.getElem?_setIfInBounds_ne (Ne.symm e)]; simp [e]
      have hnextcl : ∀ (q : Nat) (o : Oper), ops.toList[q]? = some o → (listed.setIfInBounds i true).getD q false = true → ∀ j ∈ edgesOf o, (listed.setIfInBounds i true).getD j false = true := by
        intro q o hqo hql j hj
        rw [hset] at hql ⊢
        simp only [Bool.or_eq_true, beq_iff_eq] at hql ⊢
        rcases hql with rfl | hql
        · rw [hoL] at hqo; cases hqo
          exact .inr (hedge j hj)
        · exact .inr (hcl q o hqo hql j hj)
      have hnextc : ((listed.setIfInBounds i true).toList.filter (! ·)).length = fuel := by
        have := set_count listed.toList i (by rw [Array.getElem?_toList]; exact hun')
        rw [Array.toList_setIfInBounds]
        omega
      obtain ⟨e1, e2⟩ := hext (fun j => (listed.setIfInBounds i true).getD j false) (fun j => j == i || listed.getD j false) (fun j _ => hset j)
      have hst := step (fun j => listed.getD j false) i ops[i] hoL hunf hcl hedge M bm tk a w hl h
      unfold wpOp
      rw [ho]
      simp only
      split at hst
      · rename_i hw
        rw [if_pos hw]
        refine .inl (Oper.wp_mono2 (fun a' w' hL => ?_) (fun e a' w' hL => ?_) hst)
        · obtain ⟨M', bm', tk', ρ', σ', ⟨k0, rfl⟩, k2, k3⟩ := hL
          refine ih _ M' bm' tk' a' w' (hl.trans k3 (fun _ h => h)) ?_ (by simp [hsz]) hnextcl hnextc
          rw [e2]
          exact k2.congr fun t => (e1 t).trans (k0 t).symm
        · obtain ⟨_, _, _, _, _, _, hf, _⟩ := hL
          exact hf.elim
      · rename_i hw
        rw [if_neg hw]
        refine ih _ M bm tk _ w hl ?_ (by simp [hsz]) hnextcl hnextc
        rw [e2]
        exact hst.congr e1
end
end Go.Proofs.Ytinenohgemndiaa
namespace Go.Proofs.Ytinenohgemndiaa
open Go.RowKit
def OP.slotsA : OP → List Nat
  | .ldo x => x.slots
  | .app _ _ _ t y => t :: y.slots
  | .stoo x t => x.slots ++ [t]
  | op => op.slots
def OP.special : OP → Bool
  | .ldo _ => true
  | .app _ _ _ _ _ => true
  | .stoo _ _ => true
  | _ => false
def O.looksA (o : O) : List Nat := o.op.slotsA ++ (match o.g with | some (t, _) => [t] | none => [])
def chain (L : O → Slots → V → Prop) : List O → Slots → (Slots → Prop) → Prop
  | [], ρ, K => K ρ
  | o :: r, ρ, K => ∃ x ρ2, (∀ t, get ρ2 t = get ρ t) ∧ L o ρ x ∧ chain L r (putd ρ2 o.dst x) K
theorem chain_ex {L : O → Slots → V → Prop} : ∀ {l : List O} {ρ : Slots} {k : Nat} {K : Slots → Prop}, chain L l ρ K →
    ∃ xs : List V, xs.length = l.length ∧ (∃ ρ', K ρ' ∧ ∀ t, get ρ' t = get (runsS (steps l xs k fun _ => true) ρ) t) ∧
      ∀ i (h : i < l.length) (h' : i < xs.length), ∃ ρi, L l[i] ρi xs[i] ∧ ∀ t, get ρi t = get (runsS (steps l xs k fun j => decide (j < k + i)) ρ) t
  | [], ρ, k, K, h => ⟨[], rfl, ⟨ρ, h, fun _ => rfl⟩, fun i h => by simp at h⟩
  | o :: r, ρ, k, K, h => by
    obtain ⟨x, ρ2, h2e, hx, hr⟩ := h
    obtain ⟨xs, h1, ⟨ρ', h2, h3⟩, h4⟩ := chain_ex (k := k + 1) hr
    have hput : ∀ t, get (putd ρ2 o.dst x) t = get (putd ρ o.dst x) t := fun t => by rw [get_putd, get_putd, h2e]
    refine ⟨x :: xs, by simp [h1], ⟨ρ', h2, fun t => ?_⟩, fun i hi hi' => ?_⟩
    · simp only [steps, runsS, if_true]; rw [h3 t]; exact get_runsS _ _ _ _ (hput t)
    · cases i with
      | zero =>
        refine ⟨ρ, hx, fun t => ?_⟩
        rw [runsS_none]
        intro p hp _
        obtain ⟨j, hj, rfl⟩ := List.getElem_of_mem hp
        have hl := steps_len (o :: r) (x :: xs) k (fun j => decide (j < k + 0)) (by simp [h1])
        rw [hl] at hj
        rw [steps_get _ _ _ _ _ (by rw [hl]; exact hj) hj (by simp [h1]; simpa using hj)]
        simp
      | succ i =>
        obtain ⟨ρi, g1, g2⟩ := h4 i (by simpa using hi) (by simpa using hi')
        refine ⟨ρi, g1, fun t => ?_⟩
        simp only [steps, runsS]
        rw [if_pos (by simp), g2 t, show k + 1 + i = k + (i + 1) by omega]
        exact get_runsS _ _ _ _ (hput t)
structure Cell where
  i : Nat
  off : Nat
  T : TypeId
  k : Nat
  rows : List (List D)
section
variable {C : Cx} {pr : Prot} {ρ : Slots} {n : Nat} {Q : AEx → Slots → List (List V) → Prop}
def LocA (C : Cx) (c : Cell) (rows2 : List (List D)) (σ σ2 : List (List V)) (o : O) (ρ : Slots) (x : V) : Prop :=
  match o.op with
  | .ldo y => o.g = none ∧ ev C ρ y = .ptr c.i c.off ∧ x = .d (.sl c.rows)
  | .app T' k' bytes _ y => o.g = none ∧ rowsV (ev C ρ y) = some rows2 ∧ (c.T = T' ∧ c.k = k' ∧ rows2.all (fun r => r.length == k') = true ∧ (c.rows.length + rows2.length) * bytes ≤ 140737488355328) ∧ x = .d (.sl (c.rows ++ rows2))
  | .stoo y _ => o.g = none ∧ ev C ρ y = .ptr c.i c.off
  | _ => Loc C o ρ σ x ∧ Loc C o ρ σ2 x
def calmO2 (C : Cx) (op : OP) (ρ : Slots) (σ σ2 : List (List V)) (k : V → Prop) : Prop := calmO C op ρ σ fun v => calmO C op ρ σ2 (fun u => u = v) ∧ k v
def awpA (C : Cx) (c : Cell) (σ σ2 : List (List V)) : List O → Slots → Option (List (List D)) → (Slots → List (List D) → Prop) → Prop
  | [], ρ, acc, K => match acc with | some rows2 => K ρ rows2 | none => False
  | o :: r, ρ, acc, K => match o.op with
    | .ldo y => o.g = none ∧ ev C ρ y = .ptr c.i c.off ∧ awpA C c σ σ2 r (putd ρ o.dst (.d (.sl c.rows))) acc K
    | .app T' k' bytes _ y => o.g = none ∧ match acc, rowsV (ev C ρ y) with
      | none, some rows2 => (c.T = T' ∧ c.k = k' ∧ rows2.all (fun r => r.length == k') = true ∧ (c.rows.length + rows2.length) * bytes ≤ 140737488355328) ∧ awpA C c σ σ2 r (putd ρ o.dst (.d (.sl (c.rows ++ rows2)))) (some rows2) K
      | _, _ => False
    | .stoo y _ => o.g = none ∧ o.dst = none ∧ ev C ρ y = .ptr c.i c.off ∧ awpA C c σ σ2 r ρ acc K
    | op => match o.g with
      | none => calmO2 C op ρ σ σ2 fun v => awpA C c σ σ2 r (putd ρ o.dst v) acc K
      | some (t, want) => match get ρ t with
        | .d (.lit (.bool b)) => (b = want → calmO2 C op (put ρ t (.d (.lit (.bool want)))) σ σ2 fun v => awpA C c σ σ2 r (putd (put ρ t (.d (.lit (.bool want)))) o.dst v) acc K) ∧ (b ≠ want → awpA C c σ σ2 r (putd (put ρ t (.d (.lit (.bool (!want))))) o.dst (.tup [])) acc K)
        | .tup [] => awpA C c σ σ2 r (putd ρ o.dst (.tup [])) acc K
        | _ => False
theorem calmO2_split {op : OP} {ρ : Slots} {σ σ2 : List (List V)} {k : V → Prop} (h : calmO2 C op ρ σ σ2 k) : ∃ v, calmO C op ρ σ (fun u => u = v) ∧ calmO C op ρ σ2 (fun u => u = v) ∧ k v := by
  obtain ⟨v, h1, h2, h3⟩ := calmO_split h
  exact ⟨v, h1, h2, h3⟩
theorem awpA_chain {c : Cell} {σ σ2 : List (List V)} : ∀ {l : List O} {ρ : Slots} {acc : Option (List (List D))} {K : Slots → List (List D) → Prop}, awpA C c σ σ2 l ρ acc K →
    ∃ rows2, (∀ r, acc = some r → r = rows2) ∧ chain (LocA C c rows2 σ σ2) l ρ fun ρ' => K ρ' rows2
  | [], ρ, acc, K, h => by
    cases acc with
    | none => exact h.elim
    | some r => exact ⟨r, fun r' e => by cases e; rfl, h⟩
  | o :: r, ρ, acc, K, h => by
    have know : ∀ {t : Nat} {b c : Bool}, get ρ t = .d (.lit (.bool b)) → b = c → ∀ s, get (put ρ t (.d (.lit (.bool c)))) s = get ρ s := fun hb hc s => by
      rw [get_put]
      split
      · rename_i e; subst e; subst hc; exact hb.symm
      · rfl
    have other : o.op.special = false → (match o.g with
      | none => calmO2 C o.op ρ σ σ2 fun v => awpA C c σ σ2 r (putd ρ o.dst v) acc K
      | some (t, want) => match get ρ t with
        | .d (.lit (.bool b)) => (b = want → calmO2 C o.op (put ρ t (.d (.lit (.bool want)))) σ σ2 fun v => awpA C c σ σ2 r (putd (put ρ t (.d (.lit (.bool want)))) o.dst v) acc K) ∧ (b ≠ want → awpA C c σ σ2 r (putd (put ρ t (.d (.lit (.bool (!want))))) o.dst (.tup [])) acc K)
        | .tup [] => awpA C c σ σ2 r (putd ρ o.dst (.tup [])) acc K
        | _ => False) → ∃ rows2, (∀ r, acc = some r → r = rows2) ∧ chain (LocA C c rows2 σ σ2) (o :: r) ρ fun ρ' => K ρ' rows2 := by
      intro hs h
      have fin : ∀ x ρ2, (∀ t, get ρ2 t = get ρ t) → Loc C o ρ σ x → Loc C o ρ σ2 x → awpA C c σ σ2 r (putd ρ2 o.dst x) acc K → ∃ rows2, (∀ r, acc = some r → r = rows2) ∧ chain (LocA C c rows2 σ σ2) (o :: r) ρ fun ρ' => K ρ' rows2 := by
        intro x ρ2 h1 h2 h3 h4
        obtain ⟨rows2, h5, h6⟩ := awpA_chain h4
        refine ⟨rows2, h5, x, ρ2, h1, ?_, h6⟩
        unfold LocA
        split <;> first | exact ⟨h2, h3⟩ | (rename_i e; rw [e] at hs; cases hs)
      split at h
      · rename_i hg
        obtain ⟨v, h1, h2, h3⟩ := calmO2_split h
        exact fin v ρ (fun _ => rfl) (by unfold Loc; rw [hg]; exact h1) (by unfold Loc; rw [hg]; exact h2) h3
      · rename_i t want hg
        split at h
        · rename_i b hb
          by_cases e : b = want
          · obtain ⟨v, h1, h2, h3⟩ := calmO2_split (h.1 e)
            exact fin v _ (know hb e) (by unfold Loc; rw [hg]; simp only; rw [hb]; exact ⟨fun _ => calmO_congr (fun s _ => know hb e s) h1, fun ne => absurd e ne⟩)
              (by unfold Loc; rw [hg]; simp only; rw [hb]; exact ⟨fun _ => calmO_congr (fun s _ => know hb e s) h2, fun ne => absurd e ne⟩) h3
          · exact fin (.tup []) _ (know hb (c := !want) (by cases b <;> cases want <;> simp_all)) (by unfold Loc; rw [hg]; simp only; rw [hb]; exact ⟨(fun ee => absurd ee e), (fun _ => by trivial)⟩)
              (by unfold Loc; rw [hg]; simp only; rw [hb]; exact ⟨(fun ee => absurd ee e), (fun _ => by trivial)⟩) (h.2 e)
        · rename_i hb
          exact fin (.tup []) ρ (fun _ => rfl) (by unfold Loc; rw [hg]; simp only; rw [hb]; trivial) (by unfold Loc; rw [hg]; simp only; rw [hb]; trivial) h
        · exact h.elim
    unfold awpA at h
    split at h
    · rename_i y ho
      obtain ⟨h1, h2, h3⟩ := h
      obtain ⟨rows2, h5, h6⟩ := awpA_chain h3
      exact ⟨rows2, h5, _, ρ, fun _ => rfl, by unfold LocA; rw [ho]; exact ⟨h1, h2, rfl⟩, h6⟩
    · rename_i T' k' bytes t y ho
      obtain ⟨h1, h2⟩ := h
      split at h2
      · rename_i rows2 he
        obtain ⟨h3, h4⟩ := h2
        obtain ⟨rows3, h5, h6⟩ := awpA_chain h4
        have := h5 _ rfl
        subst this
        exact ⟨rows2, (fun r e => by cases e), _, ρ, fun _ => rfl, by unfold LocA; rw [ho]; exact ⟨h1, he, h3, rfl⟩, h6⟩
      · exact h2.elim
    · rename_i y t ho
      obtain ⟨h1, h2, h3, h4⟩ := h
      obtain ⟨rows2, h5, h6⟩ := awpA_chain h4
      exact ⟨rows2, h5, .junk, ρ, fun _ => rfl, by unfold LocA; rw [ho]; exact ⟨h1, h3⟩, by rw [h2]; exact h6⟩
    · rename_i n1 n2 n3
      refine other ?_ h
      cases ho : o.op <;> first | rfl | exact absurd ho (n1 _) | exact absurd ho (n2 _ _ _ _ _) | exact absurd ho (n3 _ _)
structure Pos where
  iL : Nat
  iA : Nat
  iS : Nat
  tL : Nat
  tA : Nat
def idxOf (p : OP → Bool) : List O → Nat → Option Nat
  | [], _ => none
  | o :: r, i => if p o.op then some i else idxOf p r (i + 1)
def posOf (l : List O) : Option Pos :=
  match idxOf (fun op => match op with | .ldo _ => true | _ => false) l 0, idxOf (fun op => match op with | .app _ _ _ _ _ => true | _ => false) l 0, idxOf (fun op => match op with | .stoo _ _ => true | _ => false) l 0 with
  | some a, some b, some c => match (l[a]?).bind O.dst, (l[b]?).bind O.dst with
    | some t, some u => some ⟨a, b, c, t, u⟩
    | _, _ => none
  | _, _, _ => none
def isL (p : Pos) : O → Bool
  | ⟨some t, .ldo _, none⟩ => t == p.tL
  | _ => false
def isA (p : Pos) : O → Bool
  | ⟨some t, .app _ _ _ s y, none⟩ => t == p.tA && (s == p.tL && !y.slots.contains p.tL)
  | _ => false
def isS (p : Pos) : O → Bool
  | ⟨none, .stoo y s, none⟩ => s == p.tA && !y.slots.contains p.tA
  | _ => false
def checkA (p : Pos) (l : List O) (os : List Oper) : Bool :=
  let bf := beforeL os []
  ((List.range os.length).all fun i => match os[i]? with | some o => (edgesOf o).all fun j => decide (j < i) | none => true) &&
  (((List.range l.length).all fun i => match l[i]? with
    | some o => ((o.looksA ++ o.dst.toList).all fun t => (List.range l.length).all fun j => j == i || (match l[j]? with
        | some q => q.dst != some t || (if j < i then (bf.getD i []).contains j else (bf.getD j []).contains i)
        | none => true)) &&
      ((o.op.special == (i == p.iL || i == p.iA || i == p.iS)) && ((i == p.iA || !o.looksA.contains p.tL) && ((i == p.iL || o.dst != some p.tL) && ((i == p.iS || !o.looksA.contains p.tA) && ((i == p.iA || o.dst != some p.tA) && (i == p.iS || (bf.getD p.iS []).contains i))))))
    | none => true) &&
  (((l[p.iL]?).any (isL p) && ((l[p.iA]?).any (isA p) && (l[p.iS]?).any (isS p))) && ((bf.getD p.iA []).contains p.iL && p.tL != p.tA)))
def drawAOK (l : List O) (os : List Oper) : Bool := match posOf l with
  | some p => checkA p l os
  | none => false
structure OKA (p : Pos) (l : List O) (os : List Oper) : Prop where
  lt : ∀ (i : Nat) (o : Oper), os[i]? = some o → ∀ j ∈ edgesOf o, j < i
  cmp : ∀ (i : Nat) (o : O), l[i]? = some o → ∀ t ∈ o.looksA ++ o.dst.toList, ∀ (j : Nat) (q : O), l[j]? = some q → q.dst = some t → j ≠ i → (j < i ∧ j ∈ (beforeL os []).getD i []) ∨ (i < j ∧ i ∈ (beforeL os []).getD j [])
  spec : ∀ (i : Nat) (o : O), l[i]? = some o → (o.op.special = true ↔ i = p.iL ∨ i = p.iA ∨ i = p.iS)
  lookL : ∀ (i : Nat) (o : O), l[i]? = some o → i ≠ p.iA → p.tL ∉ o.looksA
  dstL : ∀ (i : Nat) (o : O), l[i]? = some o → i ≠ p.iL → o.dst ≠ some p.tL
  lookA : ∀ (i : Nat) (o : O), l[i]? = some o → i ≠ p.iS → p.tA ∉ o.looksA
  dstA : ∀ (i : Nat) (o : O), l[i]? = some o → i ≠ p.iA → o.dst ≠ some p.tA
  last : ∀ (i : Nat) (o : O), l[i]? = some o → i ≠ p.iS → i ∈ (beforeL os []).getD p.iS []
  opL : ∃ y, l[p.iL]? = some ⟨some p.tL, .ldo y, none⟩
  opA : ∃ T k b y, l[p.iA]? = some ⟨some p.tA, .app T k b p.tL y, none⟩ ∧ p.tL ∉ y.slots
  opS : ∃ y, l[p.iS]? = some ⟨none, .stoo y p.tA, none⟩ ∧ p.tA ∉ y.slots
  ab : p.iL ∈ (beforeL os []).getD p.iA []
  ne : p.tL ≠ p.tA
theorem checkA_ok {p : Pos} {l : List O} {os : List Oper} (hl : l.length = os.length) (h : checkA p l os = true) : OKA p l os := by
  unfold checkA at h
  simp only [Bool.and_eq_true] at h
  obtain ⟨h1, h2, ⟨h3, h4, h5⟩, h6, h7⟩ := h
  simp only [List.all_eq_true, List.mem_range] at h1 h2
  have one : ∀ (i : Nat) (o : O), l[i]? = some o → _ := fun i o ho => by
    have := h2 i (List.getElem?_eq_some_iff.1 ho).1
    rw [ho] at this
    simp only [Bool.and_eq_true] at this
    exact this
  refine ⟨fun i o ho j hj => ?_, fun i o ho t ht j q hp hd hne => ?_, fun i o ho => ?_, fun i o ho hne => ?_, fun i o ho hne => ?_, fun i o ho hne => ?_, fun i o ho hne => ?_, fun i o ho hne => ?_, ?_, ?_, ?_, by simpa using h6, by simpa using h7⟩
  · have := h1 i (List.getElem?_eq_some_iff.1 ho).1
    rw [ho] at this
    simpa using List.all_eq_true.1 this j hj
  · have h1 := (one i o ho).1
    simp only [List.all_eq_true, List.mem_range] at h1
    have h2 := h1 t ht j (List.getElem?_eq_some_iff.1 hp).1
    rw [hp] at h2
    simp only [hd, Bool.or_eq_true, beq_iff_eq, bne_self_eq_false, Bool.false_eq_true, false_or] at h2
    rcases h2 with h2 | h2
    · exact absurd h2 hne
    · split at h2
      · exact .inl ⟨by assumption, by simpa using h2⟩
      · exact .inr ⟨by omega, by simpa using h2⟩
  · have := (one i o ho).2.1
    rw [beq_iff_eq] at this
    rw [this]
    simp [or_assoc]
  · have := (one i o ho).2.2.1
    simpa [hne] using this
  · have := (one i o ho).2.2.2.1
    simpa [hne] using this
  · have := (one i o ho).2.2.2.2.1
    simpa [hne] using this
  · have := (one i o ho).2.2.2.2.2.1
    simpa [hne] using this
  · have := (one i o ho).2.2.2.2.2.2
    simpa [hne] using this
  · cases ho : l[p.iL]? with
    | none => rw [ho] at h3; cases h3
    | some o =>
    rw [ho] at h3
    have hp : isL p o = true := h3
    clear h3
    unfold isL at hp
    split at hp
    · rw [beq_iff_eq] at hp; subst hp; exact ⟨_, rfl⟩
    · cases hp
  · cases ho : l[p.iA]? with
    | none => rw [ho] at h4; cases h4
    | some o =>
    rw [ho] at h4
    have hp : isA p o = true := h4
    clear h4
    unfold isA at hp
    split at hp
    · simp only [Bool.and_eq_true, beq_iff_eq, Bool.not_eq_true'] at hp
      obtain ⟨rfl, rfl, hp⟩ := hp
      exact ⟨_, _, _, _, rfl, by simpa using hp⟩
    · cases hp
  · cases ho : l[p.iS]? with
    | none => rw [ho] at h5; cases h5
    | some o =>
    rw [ho] at h5
    have hp : isS p o = true := h5
    clear h5
    unfold isS at hp
    split at hp
    · simp only [Bool.and_eq_true, beq_iff_eq, Bool.not_eq_true'] at hp
      obtain ⟨rfl, hp⟩ := hp
      exact ⟨_, rfl, by simpa using hp⟩
    · cases hp
def overlay (p : Pos) (c : Cell) (rows2 : List (List D)) (S : Nat → Bool) (ρ : Slots) : Slots :=
  if S p.iS then ρ else if S p.iA then put ρ p.tA (.own c.T c.k (c.rows ++ rows2)) else if S p.iL then put ρ p.tL (.own c.T c.k c.rows) else ρ
theorem drawa_sound {M0 : Facts} {bm0 : List Nat} {w0 : World} (hG : C.glob M0 pr w0) {id : Nat} {ops : Array Oper} {l : List O} {M : Facts} {bm : List Nat} {tk : Toks} {σ : List (List V)} {a : Act} {w : World} (hok : okOs C.tab n ops l ops.toList = true) (hdr : drawAOK l ops.toList = true)
    (hl : Later M0 bm0 pr w0 M bm w) (h : SRel M bm tk pr ρ σ n a w) {c : Cell} {cs : List V} (hcs : σ[c.i]? = some cs) (hcell : cs[c.off]? = some (.own c.T c.k c.rows))
    (hq : awpA C c σ (σ.set c.i (cs.set c.off (.d (.sl c.rows)))) l ρ none fun ρ' rows2 => Q .normal ρ' ((σ.set c.i (cs.set c.off (.d (.sl c.rows)))).set c.i (over (cs.set c.off (.d (.sl c.rows))) c.off [.own c.T c.k (c.rows ++ rows2)]))) :
    (Code.region id ops true).wp C.P (LiftX M0 bm0 pr w0 n Q) a w := by
  obtain ⟨hlen, hget⟩ := okOs_get hok
  unfold drawAOK at hdr
  split at hdr
  case h_2 => cases hdr
  rename_i p _
  have D := checkA_ok hlen hdr
  obtain ⟨rows2, -, hch⟩ := awpA_chain hq
  obtain ⟨xs, hxl, ⟨ρf, hρf, hρe⟩, hloc⟩ := chain_ex (k := 0) hch
  generalize hσ2 : σ.set c.i (cs.set c.off (.d (.sl c.rows))) = σ2 at *
  generalize hσf : σ2.set c.i (over (cs.set c.off (.d (.sl c.rows))) c.off [.own c.T c.k (c.rows ++ rows2)]) = σf at *
  have hnl : l.length = ops.size := by rw [hlen]; simp
  have hsteps : ∀ S : Nat → Bool, (steps l xs 0 S).length = l.length := fun S => steps_len l xs 0 S hxl
  have hsg : ∀ (S : Nat → Bool) (i : Nat) (hi : i < (steps l xs 0 S).length) (h1 : i < l.length), (steps l xs 0 S)[i] = (l[i].dst, xs[i]'(by omega), S i) := fun S i hi h1 => by
    have := steps_get l xs 0 S i hi h1 (by omega)
    simpa using this
  obtain ⟨yL, hoL⟩ := D.opL
  obtain ⟨T', k', bb, yA, hoA, hnA⟩ := D.opA
  obtain ⟨yS, hoS, hnS⟩ := D.opS
  have iLl : p.iL < l.length := (List.getElem?_eq_some_iff.1 hoL).1
  have iAl : p.iA < l.length := (List.getElem?_eq_some_iff.1 hoA).1
  have iSl : p.iS < l.length := (List.getElem?_eq_some_iff.1 hoS).1
  have eL : l[p.iL] = ⟨some p.tL, .ldo yL, none⟩ := (List.getElem?_eq_some_iff.1 hoL).2
  have eA : l[p.iA] = ⟨some p.tA, .app T' k' bb p.tL yA, none⟩ := (List.getElem?_eq_some_iff.1 hoA).2
  have eS : l[p.iS] = ⟨none, .stoo yS p.tA, none⟩ := (List.getElem?_eq_some_iff.1 hoS).2
  obtain ⟨ρL, hLL, hρL⟩ := hloc p.iL iLl (by omega)
  obtain ⟨ρA, hLA, hρA⟩ := hloc p.iA iAl (by omega)
  obtain ⟨ρS, hLS, hρS⟩ := hloc p.iS iSl (by omega)
  have xL : xs[p.iL]'(by omega) = .d (.sl c.rows) := by
    unfold LocA at hLL; rw [eL] at hLL; exact hLL.2.2
  have xA : xs[p.iA]'(by omega) = .d (.sl (c.rows ++ rows2)) := by
    unfold LocA at hLA; rw [eA] at hLA; exact hLA.2.2.2
  -- the slots when some are done
  have base : ∀ S S', (∀ j, j < l.length → S j = S' j) → ∀ t, get (runsS (steps l xs 0 S) ρ) t = get (runsS (steps l xs 0 S') ρ) t := fun S S' hS t => by
    refine runsS_congr _ _ ρ t (by rw [hsteps, hsteps]) (fun i g1 g2 => ?_)
    rw [hsteps] at g1
    rw [hsg _ i (by rw [hsteps]; exact g1) g1, hsg _ i (by rw [hsteps]; exact g1) g1]
    exact ⟨rfl, rfl, fun _ => hS i g1⟩
  have baseL : ∀ S, S p.iL = true → get (runsS (steps l xs 0 S) ρ) p.tL = .d (.sl c.rows) := fun S hS => by
    have := runsS_last (steps l xs 0 S) ρ p.iL (by rw [hsteps]; exact iLl) p.tL (by rw [hsg _ _ _ iLl, eL]) (by rw [hsg _ _ _ iLl]; exact hS) (fun j hj hij hd => by
      rw [hsteps] at hj
      rw [hsg _ j _ hj] at hd
      exact absurd hd (D.dstL j _ (List.getElem?_eq_getElem hj) (by omega)))
    rw [this, hsg _ _ _ iLl]; exact xL
  have baseA : ∀ S, S p.iA = true → get (runsS (steps l xs 0 S) ρ) p.tA = .d (.sl (c.rows ++ rows2)) := fun S hS => by
    have := runsS_last (steps l xs 0 S) ρ p.iA (by rw [hsteps]; exact iAl) p.tA (by rw [hsg _ _ _ iAl, eA]) (by rw [hsg _ _ _ iAl]; exact hS) (fun j hj hij hd => by
      rw [hsteps] at hj
      rw [hsg _ j _ hj] at hd
      exact absurd hd (D.dstA j _ (List.getElem?_eq_getElem hj) (by omega)))
    rw [this, hsg _ _ _ iAl]; exact xA
  have over_get : ∀ S ρ' t, t ≠ p.tL → t ≠ p.tA → get (overlay p c rows2 S ρ') t = get ρ' t := fun S ρ' t h1 h2 => by
    unfold overlay
    split
    · rfl
    · split
      · rw [get_put, if_neg h2]
      · split
        · rw [get_put, if_neg h1]
        · rfl
  have over_congr : ∀ S ρ1 ρ2, (∀ t, get ρ1 t = get ρ2 t) → ∀ t, get (overlay p c rows2 S ρ1) t = get (overlay p c rows2 S ρ2) t := fun S ρ1 ρ2 hh t => by
    unfold overlay
    split
    · exact hh t
    · split
      · rw [get_put, get_put, hh]
      · split
        · rw [get_put, get_put, hh]
        · exact hh t
  refine draw_gen (M := M) (bm := bm) (tk := tk) (fun S => overlay p c rows2 S (runsS (steps l xs 0 S) ρ)) (fun S => if S p.iS then σf else if S p.iL then σ2 else σ) ρf σf D.lt (fun S S' hS => ?_) hl ?_ ⟨fun t => ?_, ?_⟩ hρf ?_
  · have e1 := hS p.iL (by omega)
    have e2 := hS p.iA (by omega)
    have e3 := hS p.iS (by omega)
    refine ⟨fun t => ?_, by rw [e1, e3]⟩
    rw [over_congr S _ _ (base S S' fun j hj => hS j (by omega)) t]
    unfold overlay
    rw [e1, e2, e3]
  · have : ∀ t, get (overlay p c rows2 (fun _ => false) (runsS (steps l xs 0 fun _ => false) ρ)) t = get ρ t := fun t => by
      unfold overlay
      simp only [Bool.false_eq_true, if_false]
      rw [runsS_none]
      intro q hq _
      obtain ⟨j, hj, rfl⟩ := List.getElem_of_mem hq
      rw [hsteps] at hj
      rw [hsg _ j (by rw [hsteps]; exact hj) hj]
    simp only [Bool.false_eq_true, if_false]
    exact h.congr this
  · rw [hρe t]; unfold overlay; simp only [if_true]
  · simp only [if_true]
  -- one step
  intro S i o' ho' hSi hclo hedge M bm tk a w hl h
  have hi1 : i < ops.toList.length := (List.getElem?_eq_some_iff.1 ho').1
  have hi2 : i < l.length := by omega
  have hlo : l[i]? = some l[i] := List.getElem?_eq_getElem hi2
  have hbef : ∀ j ∈ (beforeL ops.toList []).getD i [], S j = true := before_closed D.lt (S := fun j => S j = true) hclo i o' ho' hedge
  have hbefj : ∀ q, q < l.length → S q = true → ∀ j ∈ (beforeL ops.toList []).getD q [], S j = true := fun q hq hSq => by
    have hq2 : ops.toList[q]? = some ops.toList[q] := List.getElem?_eq_getElem (by omega)
    exact before_closed D.lt (S := fun j => S j = true) hclo q _ hq2 (hclo q _ hq2 hSq)
  have hsame : ∀ t ∈ l[i].looksA ++ l[i].dst.toList, ∀ j (hj : j < l.length), j ≠ i → l[j].dst = some t → (S j = decide (j < i)) := by
    intro t ht j hj hne hd
    rcases D.cmp i l[i] hlo t ht j l[j] (List.getElem?_eq_getElem hj) hd hne with ⟨g1, g2⟩ | ⟨g1, g2⟩
    · rw [hbef j g2]; simp [g1]
    · have : ¬ S j = true := fun hjl => by
        have := hbefj j hj hjl i g2
        rw [hSi] at this; cases this
      have e : S j = false := by simpa using this
      rw [e]; simp; omega
  obtain ⟨ρi, hL, hρi⟩ := hloc i hi2 (by omega)
  have hgetL : ∀ t ∈ l[i].looksA, get ρi t = get (runsS (steps l xs 0 S) ρ) t := by
    intro t ht
    rw [hρi t]
    refine runsS_congr _ _ ρ t (by rw [hsteps, hsteps]) (fun j g1 g2 => ?_)
    rw [hsteps] at g1
    rw [hsg _ j (by rw [hsteps]; exact g1) g1, hsg _ j (by rw [hsteps]; exact g1) g1]
    refine ⟨rfl, rfl, fun hd => ?_⟩
    simp only [Nat.zero_add]
    by_cases e : j = i
    · subst e; rw [hSi]; simp
    · exact (hsame t (by simp [ht]) j g1 e hd).symm
  have hnext : ∀ t, get (runsS (steps l xs 0 fun j => j == i || S j) ρ) t = get (Go.Proofs.Ytinenohgemndiaa.putd (runsS (steps l xs 0 S) ρ) l[i].dst (xs[i]'(by omega))) t := by
    intro t
    rw [get_putd]
    split
    · rename_i e
      have := runsS_last (steps l xs 0 fun j => j == i || S j) ρ i (by rw [hsteps]; exact hi2) t (by rw [hsg _ i _ hi2]; exact e) (by rw [hsg _ i _ hi2]; simp) (fun j hj hij hd => by
        rw [hsteps] at hj
        rw [hsg _ j _ hj] at hd ⊢
        simp only at hd ⊢
        rw [hsame t (by simp [e]) j hj (by omega) hd]
        simp; omega)
      rw [this, hsg _ i _ hi2]
    · rename_i e
      refine runsS_congr _ _ ρ t (by rw [hsteps, hsteps]) (fun j g1 g2 => ?_)
      rw [hsteps] at g1
      rw [hsg _ j (by rw [hsteps]; exact g1) g1, hsg _ j (by rw [hsteps]; exact g1) g1]
      refine ⟨rfl, rfl, fun hd => ?_⟩
      simp only at hd ⊢
      have hne : j ≠ i := fun ee => by subst ee; exact e hd
      simp [hne]
  have hoo := hget i l[i] o' hlo ho'
  have hdst : l[i].dst = o'.dst := by
    have := hoo
    unfold okO at this
    simp only [Bool.and_eq_true, beq_iff_eq] at this
    exact this.1.1.2
  have hdn : ∀ d, o'.dst = some d → d < n := by
    have := hoo
    unfold okO at this
    simp only [Bool.and_eq_true] at this
    intro d hd
    have := this.1.2
    rw [hd] at this
    simpa using this
  have hgd := hoo
  unfold okO at hgd
  simp only [Bool.and_eq_true] at hgd
  replace hgd := hgd.2
  have hwant : l[i].g = none → Region.wanted o' (yielded ops a.tmps) = true := fun hg => by
    rw [hg] at hgd
    split at hgd
    · rename_i hg2; simp [Region.wanted, hg2]
    · rename_i e _; cases e
    · cases hgd
  have neLA : p.iL ≠ p.iA := fun e => by rw [e] at hoL; rw [hoL] at hoA; have := congrArg (fun o => o.map fun o => match o.op with | .ldo _ => true | _ => false) hoA; simp at this
  have neLS : p.iL ≠ p.iS := fun e => by rw [e] at hoL; rw [hoL] at hoS; cases hoS
  have neAS : p.iA ≠ p.iS := fun e => by rw [e] at hoA; rw [hoA] at hoS; cases hoS
  have bLA : (p.iL == p.iA) = false := by simpa using neLA
  have bLS : (p.iL == p.iS) = false := by simpa using neLS
  have bAS : (p.iA == p.iS) = false := by simpa using neAS
  have bAL : (p.iA == p.iL) = false := by simpa using Ne.symm neLA
  have bSL : (p.iS == p.iL) = false := by simpa using Ne.symm neLS
  have bSA : (p.iS == p.iA) = false := by simpa using Ne.symm neAS
  have done : ∀ (K : Slots → List (List V) → Prop) (R : AEx → Slots → List (List V) → Prop), (∀ ρ' σ', K ρ' σ' → (∀ t, get ρ' t = get (overlay p c rows2 (fun j => j == i || S j) (runsS (steps l xs 0 fun j => j == i || S j) ρ)) t) ∧ σ' = if (p.iS == i || S p.iS) = true then σf else if (p.iL == i || S p.iL) = true then σ2 else σ) →
      o'.wp C.P a w (Lift M bm pr w n K) (LiftX M bm pr w n fun _ _ _ => False) → o'.wp C.P a w (Lift M bm pr w n fun ρ' σ' => (∀ t, get ρ' t = get (overlay p c rows2 (fun j => j == i || S j) (runsS (steps l xs 0 fun j => j == i || S j) ρ)) t) ∧ σ' = if (p.iS == i || S p.iS) = true then σf else if (p.iL == i || S p.iL) = true then σ2 else σ) (LiftX M bm pr w n fun _ _ _ => False) := fun K R hK hw =>
    Oper.wp_mono2 (fun a' w' ⟨M', bm', tk', ρ', σ', e1, k2, k3⟩ => ⟨M', bm', tk', ρ', σ', hK _ _ e1, k2, k3⟩) (fun e a' w' hh => hh) hw
  by_cases hS : i = p.iS
  · subst hS
    have hall : ∀ j, j < l.length → j ≠ p.iS → S j = true := fun j hj hne => hbef j (D.last j l[j] (List.getElem?_eq_getElem hj) hne)
    have hSL := hall p.iL iLl neLS
    have hSA := hall p.iA iAl neAS
    simp only [overlay, hSi, hSL, hSA, Bool.false_eq_true, if_false, if_true] at h
    unfold LocA at hL
    rw [eS] at hL hgetL hnext
    obtain ⟨-, hL⟩ := hL
    rw [if_pos (hwant (by rw [eS]))]
    refine done (fun ρ' σ' => ρ' = put (put (runsS (steps l xs 0 S) ρ) p.tA (.own c.T c.k (c.rows ++ rows2))) p.tA (.d (.sl (c.rows ++ rows2))) ∧ σ' = σf) (fun _ _ _ => False) (fun ρ' σ' ⟨e1, e2⟩ => ?_) (runO_sound (hG.mono hl) h hoo ?_)
    · subst e1; subst e2
      refine ⟨fun t => ?_, by simp⟩
      simp only [overlay, BEq.rfl, Bool.true_or, if_true]
      rw [hnext t]
      simp only [Go.Proofs.Ytinenohgemndiaa.putd, get_put]
      split
      · rename_i e; subst e; rw [baseA S hSA]
      · rfl
    · rw [eS]
      have hev : ev C (put (runsS (steps l xs 0 S) ρ) p.tA (.own c.T c.k (c.rows ++ rows2))) yS = .ptr c.i c.off := by
        rw [← hL]
        refine (ev_congr fun t ht => ?_).symm
        rw [get_put, if_neg (fun e => hnS (by subst e; exact ht))]
        exact hgetL t (by simp [O.looksA, OP.slotsA, ht])
      have hlt : c.i < σ.length := (List.getElem?_eq_some_iff.1 hcs).1
      have hlo2 : c.off < cs.length := (List.getElem?_eq_some_iff.1 hcell).1
      have hs2 : σ2[c.i]? = some (cs.set c.off (.d (.sl c.rows))) := by rw [← hσ2]; simp [hlt]
      simp only [runO, hev, get_put, if_true, hs2]
      exact ⟨⟨by simpa using hlo2, noMap_set _ hlo2⟩, trivial, hσf⟩
  have hSS : S p.iS = false := by
    have : ¬ S p.iS = true := fun hh => by
      have := hbefj p.iS iSl hh i (D.last i l[i] hlo hS)
      rw [hSi] at this; cases this
    simpa using this
  have hSi' : (p.iS == i) = false := by simpa using Ne.symm hS
  by_cases hA : i = p.iA
  · subst hA
    have hSL : S p.iL = true := hbef _ D.ab
    simp only [overlay, hSS, hSi, hSL, Bool.false_eq_true, if_false, if_true] at h
    unfold LocA at hL
    rw [eA] at hL hgetL hnext
    obtain ⟨-, hL1, hL2, -⟩ := hL
    rw [if_pos (hwant (by rw [eA]))]
    refine done (fun ρ' σ' => ρ' = Go.Proofs.Ytinenohgemndiaa.putd (put (put (runsS (steps l xs 0 S) ρ) p.tL (.own c.T c.k c.rows)) p.tL (.d (.sl c.rows))) (some p.tA) (.own c.T c.k (c.rows ++ rows2)) ∧ σ' = σ2) (fun _ _ _ => False) (fun ρ' σ' ⟨e1, e2⟩ => ?_) (runO_sound (hG.mono hl) h hoo ?_)
    · subst e1; subst e2
      refine ⟨fun t => ?_, by simp [hSS, hSL, bSA]⟩
      simp only [overlay, BEq.rfl, Bool.true_or, bSA, hSS, Bool.or_self, Bool.false_eq_true, if_false, if_true]
      simp only [Go.Proofs.Ytinenohgemndiaa.putd, get_put]
      split
      · rfl
      · rename_i hne
        rw [hnext t]
        simp only [Go.Proofs.Ytinenohgemndiaa.putd, get_put, hne, if_false]
        split
        · rename_i e; subst e; rw [baseL S hSL]
        · rfl
    · rw [eA]
      have hev : ev C (put (runsS (steps l xs 0 S) ρ) p.tL (.own c.T c.k c.rows)) yA = ev C ρi yA := by
        refine (ev_congr fun t ht => ?_).symm
        rw [get_put, if_neg (fun e => hnA (by subst e; exact ht))]
        exact hgetL t (by simp [O.looksA, OP.slotsA, ht])
      obtain ⟨q1, q2, q3, q4⟩ := hL2
      simp only [runO, get_put, if_true, hev, hL1]
      refine ⟨⟨q1, q2, q3, q4⟩, ?_, trivial⟩
      rw [q1, q2]
  have hSA' : (p.iA == i) = false := by simpa using Ne.symm hA
  by_cases hLd : i = p.iL
  · subst hLd
    have hSA : S p.iA = false := by
      have : ¬ S p.iA = true := fun hh => by
        have := hbefj p.iA iAl hh _ D.ab
        rw [hSi] at this; cases this
      simpa using this
    simp only [overlay, hSS, hSi, hSA, Bool.false_eq_true, if_false] at h
    unfold LocA at hL
    rw [eL] at hL hgetL hnext
    obtain ⟨-, hL1, -⟩ := hL
    rw [if_pos (hwant (by rw [eL]))]
    refine done (fun ρ' σ' => ρ' = Go.Proofs.Ytinenohgemndiaa.putd (runsS (steps l xs 0 S) ρ) (some p.tL) (.own c.T c.k c.rows) ∧ σ' = σ2) (fun _ _ _ => False) (fun ρ' σ' ⟨e1, e2⟩ => ?_) (runO_sound (hG.mono hl) h hoo ?_)
    · subst e1; subst e2
      refine ⟨fun t => ?_, by simp [hSS, bSL]⟩
      simp only [overlay, BEq.rfl, Bool.true_or, bSL, bAL, hSS, hSA, Bool.or_self, Bool.false_eq_true, if_false, if_true]
      simp only [Go.Proofs.Ytinenohgemndiaa.putd, get_put]
      split
      · rfl
      · rename_i hne
        rw [hnext t]
        simp only [Go.Proofs.Ytinenohgemndiaa.putd, get_put, hne, if_false]
    · rw [eL]
      have hev : ev C (runsS (steps l xs 0 S) ρ) yL = .ptr c.i c.off := by
        rw [← hL1]
        refine (ev_congr fun t ht => ?_).symm
        exact hgetL t (by simp [O.looksA, OP.slotsA, ht])
      simp only [runO, hev, hcs, hcell]
      exact ⟨trivial, hσ2⟩
  have hSL' : (p.iL == i) = false := by simpa using Ne.symm hLd
  -- a calm operation
  have hns : l[i].op.special = false := by
    have := D.spec i l[i] hlo
    cases hsp : l[i].op.special with
    | false => rfl
    | true => rcases this.1 hsp with e | e | e; exact absurd e hLd; exact absurd e hA; exact absurd e hS
  have hLL2 : Loc C l[i] ρi σ (xs[i]'(by omega)) ∧ Loc C l[i] ρi σ2 (xs[i]'(by omega)) := by
    unfold LocA at hL
    split at hL
    · rename_i e; rw [e] at hns; cases hns
    · rename_i e; rw [e] at hns; cases hns
    · rename_i e; rw [e] at hns; cases hns
    · exact hL
  have hlk : l[i].looks = l[i].looksA := by
    unfold O.looks O.looksA
    have : l[i].op.slots = l[i].op.slotsA := by
      cases ho : l[i].op <;> first | rfl | (rw [ho] at hns; cases hns)
    rw [this]
    all_goals rfl
  have hσS : Loc C l[i] ρi (if S p.iL = true then σ2 else σ) (xs[i]'(by omega)) := by split; exact hLL2.2; exact hLL2.1
  have hL2 : Loc C l[i] (overlay p c rows2 S (runsS (steps l xs 0 S) ρ)) (if S p.iL = true then σ2 else σ) (xs[i]'(by omega)) := hσS.congr fun t ht => by
    rw [hlk] at ht
    rw [hgetL t ht, over_get S _ t (fun e => D.lookL i _ hlo hA (by subst e; exact ht)) (fun e => D.lookA i _ hlo hS (by subst e; exact ht))]
  have hnextSt : ∀ t, get (overlay p c rows2 (fun j => j == i || S j) (runsS (steps l xs 0 fun j => j == i || S j) ρ)) t = get (Go.Proofs.Ytinenohgemndiaa.putd (overlay p c rows2 S (runsS (steps l xs 0 S) ρ)) l[i].dst (xs[i]'(by omega))) t := fun t => by
    rw [over_congr _ _ _ hnext t]
    have d1 := D.dstL i _ hlo hLd
    have d2 := D.dstA i _ hlo hA
    simp only [overlay, hSi', hSA', hSL', Bool.false_or]
    split
    · rfl
    · split
      · rw [get_putd, get_put, get_put, get_putd]
        by_cases e1 : t = p.tA
        · subst e1; simp [d2]
        · simp [e1]
      · split
        · rw [get_putd, get_put, get_put, get_putd]
          by_cases e1 : t = p.tL
          · subst e1; simp [d1]
          · simp [e1]
        · rfl
  simp only [hSS, hSi', hSL', Bool.false_or, Bool.false_eq_true, if_false] at h done ⊢
  have exec : calmO C l[i].op (overlay p c rows2 S (runsS (steps l xs 0 S) ρ)) (if S p.iL = true then σ2 else σ) (fun v => v = xs[i]'(by omega)) → o'.wp C.P a w (Lift M bm pr w n fun ρ' σ' => (∀ t, get ρ' t = get (overlay p c rows2 (fun j => j == i || S j) (runsS (steps l xs 0 fun j => j == i || S j) ρ)) t) ∧ σ' = if S p.iL = true then σ2 else σ) (LiftX M bm pr w n fun _ _ _ => False) := fun hc =>
    done _ (fun _ _ _ => False) (fun ρ' σ' ⟨e1, e2⟩ => ⟨fun t => by rw [e1]; exact (hnextSt t).symm, e2⟩) (runO_sound (hG.mono hl) h hoo (calm_run hc))
  unfold Loc at hL2
  split at hL2
  · rename_i hg
    rw [if_pos (hwant hg)]
    exact exec hL2
  · rename_i t want hg
    rw [hg] at hgd
    split at hgd
    · rename_i e _; cases e
    · rename_i t' b' j b'' e hg2
      cases e
      simp only [Bool.and_eq_true, beq_iff_eq] at hgd
      obtain ⟨rfl, hj⟩ := hgd
      split at hL2
      · rename_i b hb
        have hy := yield_sound h hb hj
        by_cases hbw : b = want
        · rw [if_pos (by simp [Region.wanted, hg2, hy, hbw])]
          exact exec (hL2.1 hbw)
        · rw [if_neg (by simp [Region.wanted, hg2, hy, hbw])]
          have hx := hL2.2 hbw
          refine (h.putd hdn rep_un (by simp)).congr fun t => ?_
          rw [hnextSt t, hx, hdst]
      · rename_i hb
        have hy := yield_un h hb hj
        rw [if_neg (by simp [Region.wanted, hg2, hy])]
        refine (h.putd hdn rep_un (by simp)).congr fun t => ?_
        rw [hnextSt t, hL2, hdst]
      · exact hL2.elim
    · cases hgd
end
end Go.Proofs.Ytinenohgemndiaa
namespace Go.Proofs.Ytinenohgemndiaa
open Go.RowKit
def OP.slotsN : OP → List Nat
  | .sto _ x y => x.slots ++ y.slots
  | op => op.slots
def OP.specialN : OP → Bool
  | .new _ _ => true
  | .sto _ _ _ => true
  | _ => false
def O.looksN (o : O) : List Nat := o.op.slotsN ++ (match o.g with | some (t, _) => [t] | none => [])
section
variable {C : Cx} {pr : Prot} {ρ : Slots} {n : Nat} {Q : AEx → Slots → List (List V) → Prop}
def LocN (C : Cx) (cs fin : List V) (σ : List (List V)) (o : O) (ρ : Slots) (x : V) : Prop :=
  match o.op with
  | .new _ cs' => o.g = none ∧ cs' = cs ∧ x = .ptr σ.length 0
  | .sto kk y z => o.g = none ∧ ∃ off, ev C ρ y = .ptr σ.length off ∧ ((ev C ρ z).boxable = true ∧ (ev C ρ z).cells.length = kk ∧ off + kk ≤ cs.length ∧ noMap cs = true) ∧ fin = over cs off (ev C ρ z).cells
  | _ => Loc C o ρ σ x ∧ Loc C o ρ (σ ++ [cs]) x
def awpN (C : Cx) (cs : List V) (σ σ2 : List (List V)) : List O → Slots → Option (List V) → (Slots → List V → Prop) → Prop
  | [], ρ, acc, K => match acc with | some fin => K ρ fin | none => False
  | o :: r, ρ, acc, K => match o.op with
    | .new _ cs' => o.g = none ∧ cs' = cs ∧ awpN C cs σ σ2 r (putd ρ o.dst (.ptr σ.length 0)) acc K
    | .sto kk y z => o.g = none ∧ o.dst = none ∧ match acc, ev C ρ y with
      | none, .ptr i off => i = σ.length ∧ ((ev C ρ z).boxable = true ∧ (ev C ρ z).cells.length = kk ∧ off + kk ≤ cs.length ∧ noMap cs = true) ∧ awpN C cs σ σ2 r ρ (some (over cs off (ev C ρ z).cells)) K
      | _, _ => False
    | op => match o.g with
      | none => calmO2 C op ρ σ σ2 fun v => awpN C cs σ σ2 r (putd ρ o.dst v) acc K
      | some (t, want) => match get ρ t with
        | .d (.lit (.bool b)) => (b = want → calmO2 C op (put ρ t (.d (.lit (.bool want)))) σ σ2 fun v => awpN C cs σ σ2 r (putd (put ρ t (.d (.lit (.bool want)))) o.dst v) acc K) ∧ (b ≠ want → awpN C cs σ σ2 r (putd (put ρ t (.d (.lit (.bool (!want))))) o.dst (.tup [])) acc K)
        | .tup [] => awpN C cs σ σ2 r (putd ρ o.dst (.tup [])) acc K
        | _ => False
theorem awpN_chain {cs : List V} {σ : List (List V)} : ∀ {l : List O} {ρ : Slots} {acc : Option (List V)} {K : Slots → List V → Prop}, awpN C cs σ (σ ++ [cs]) l ρ acc K →
    ∃ fin, (∀ r, acc = some r → r = fin) ∧ chain (LocN C cs fin σ) l ρ fun ρ' => K ρ' fin
  | [], ρ, acc, K, h => by
    cases acc with
    | none => exact h.elim
    | some r => exact ⟨r, fun r' e => by cases e; rfl, h⟩
  | o :: r, ρ, acc, K, h => by
    have know : ∀ {t : Nat} {b c : Bool}, get ρ t = .d (.lit (.bool b)) → b = c → ∀ s, get (put ρ t (.d (.lit (.bool c)))) s = get ρ s := fun hb hc s => by
      rw [get_put]
      split
      · rename_i e; subst e; subst hc; exact hb.symm
      · rfl
    have other : o.op.specialN = false → (match o.g with
      | none => calmO2 C o.op ρ σ (σ ++ [cs]) fun v => awpN C cs σ (σ ++ [cs]) r (putd ρ o.dst v) acc K
      | some (t, want) => match get ρ t with
        | .d (.lit (.bool b)) => (b = want → calmO2 C o.op (put ρ t (.d (.lit (.bool want)))) σ (σ ++ [cs]) fun v => awpN C cs σ (σ ++ [cs]) r (putd (put ρ t (.d (.lit (.bool want)))) o.dst v) acc K) ∧ (b ≠ want → awpN C cs σ (σ ++ [cs]) r (putd (put ρ t (.d (.lit (.bool (!want))))) o.dst (.tup [])) acc K)
        | .tup [] => awpN C cs σ (σ ++ [cs]) r (putd ρ o.dst (.tup [])) acc K
        | _ => False) → ∃ fin, (∀ r, acc = some r → r = fin) ∧ chain (LocN C cs fin σ) (o :: r) ρ fun ρ' => K ρ' fin := by
      intro hs h
      have fin : ∀ x ρ2, (∀ t, get ρ2 t = get ρ t) → Loc C o ρ σ x → Loc C o ρ (σ ++ [cs]) x → awpN C cs σ (σ ++ [cs]) r (putd ρ2 o.dst x) acc K → ∃ fin, (∀ r, acc = some r → r = fin) ∧ chain (LocN C cs fin σ) (o :: r) ρ fun ρ' => K ρ' fin := by
        intro x ρ2 h1 h2 h3 h4
        obtain ⟨rows2, h5, h6⟩ := awpN_chain h4
        refine ⟨rows2, h5, x, ρ2, h1, ?_, h6⟩
        unfold LocN
        split <;> first | exact ⟨h2, h3⟩ | (rename_i e; rw [e] at hs; cases hs)
      split at h
      · rename_i hg
        obtain ⟨v, h1, h2, h3⟩ := calmO2_split h
        exact fin v ρ (fun _ => rfl) (by unfold Loc; rw [hg]; exact h1) (by unfold Loc; rw [hg]; exact h2) h3
      · rename_i t want hg
        split at h
        · rename_i b hb
          by_cases e : b = want
          · obtain ⟨v, h1, h2, h3⟩ := calmO2_split (h.1 e)
            exact fin v _ (know hb e) (by unfold Loc; rw [hg]; simp only; rw [hb]; exact ⟨fun _ => calmO_congr (fun s _ => know hb e s) h1, fun ne => absurd e ne⟩)
              (by unfold Loc; rw [hg]; simp only; rw [hb]; exact ⟨fun _ => calmO_congr (fun s _ => know hb e s) h2, fun ne => absurd e ne⟩) h3
          · exact fin (.tup []) _ (know hb (c := !want) (by cases b <;> cases want <;> simp_all)) (by unfold Loc; rw [hg]; simp only; rw [hb]; exact ⟨(fun ee => absurd ee e), (fun _ => by trivial)⟩)
              (by unfold Loc; rw [hg]; simp only; rw [hb]; exact ⟨(fun ee => absurd ee e), (fun _ => by trivial)⟩) (h.2 e)
        · rename_i hb
          exact fin (.tup []) ρ (fun _ => rfl) (by unfold Loc; rw [hg]; simp only; rw [hb]; trivial) (by unfold Loc; rw [hg]; simp only; rw [hb]; trivial) h
        · exact h.elim
    unfold awpN at h
    split at h
    · rename_i T' cs' ho
      obtain ⟨h1, h2, h3⟩ := h
      obtain ⟨fin, h5, h6⟩ := awpN_chain h3
      exact ⟨fin, h5, _, ρ, fun _ => rfl, by unfold LocN; rw [ho]; exact ⟨h1, h2, rfl⟩, h6⟩
    · rename_i kk y z ho
      obtain ⟨h1, h2, h3⟩ := h
      split at h3
      · rename_i i off he
        obtain ⟨h4, h5, h6⟩ := h3
        subst h4
        obtain ⟨fin, h7, h8⟩ := awpN_chain h6
        have := h7 _ rfl
        subst this
        exact ⟨_, (fun r e => by cases e), .junk, ρ, fun _ => rfl, by unfold LocN; rw [ho]; exact ⟨h1, off, he, h5, rfl⟩, by rw [h2]; exact h8⟩
      · exact h3.elim
    · rename_i n1 n2
      refine other ?_ h
      cases ho : o.op <;> first | rfl | exact absurd ho (n1 _ _) | exact absurd ho (n2 _ _ _)
structure PosN where
  iN : Nat
  iS : Nat
  tN : Nat
def posN (l : List O) : Option PosN :=
  match idxOf (fun op => match op with | .new _ _ => true | _ => false) l 0, idxOf (fun op => match op with | .sto _ _ _ => true | _ => false) l 0 with
  | some a, some c => match (l[a]?).bind O.dst with
    | some t => some ⟨a, c, t⟩
    | _ => none
  | _, _ => none
def isN (p : PosN) : O → Bool
  | ⟨some t, .new _ _, none⟩ => t == p.tN
  | _ => false
def isSN : O → Bool
  | ⟨none, .sto _ _ _, none⟩ => true
  | _ => false
def checkN (p : PosN) (l : List O) (os : List Oper) : Bool :=
  let bf := beforeL os []
  ((List.range os.length).all fun i => match os[i]? with | some o => (edgesOf o).all fun j => decide (j < i) | none => true) &&
  (((List.range l.length).all fun i => match l[i]? with
    | some o => ((o.looksN ++ o.dst.toList).all fun t => (List.range l.length).all fun j => j == i || (match l[j]? with
        | some q => q.dst != some t || (if j < i then (bf.getD i []).contains j else (bf.getD j []).contains i)
        | none => true)) &&
      ((o.op.specialN == (i == p.iN || i == p.iS)) && ((i == p.iN || o.dst != some p.tN) && (i == p.iS || (bf.getD p.iS []).contains i)))
    | none => true) &&
  ((l[p.iN]?).any (isN p) && (l[p.iS]?).any isSN))
def drawNOK (l : List O) (os : List Oper) : Bool := match posN l with
  | some p => checkN p l os
  | none => false
structure OKN (p : PosN) (l : List O) (os : List Oper) : Prop where
  lt : ∀ (i : Nat) (o : Oper), os[i]? = some o → ∀ j ∈ edgesOf o, j < i
  cmp : ∀ (i : Nat) (o : O), l[i]? = some o → ∀ t ∈ o.looksN ++ o.dst.toList, ∀ (j : Nat) (q : O), l[j]? = some q → q.dst = some t → j ≠ i → (j < i ∧ j ∈ (beforeL os []).getD i []) ∨ (i < j ∧ i ∈ (beforeL os []).getD j [])
  spec : ∀ (i : Nat) (o : O), l[i]? = some o → (o.op.specialN = true ↔ i = p.iN ∨ i = p.iS)
  dstN : ∀ (i : Nat) (o : O), l[i]? = some o → i ≠ p.iN → o.dst ≠ some p.tN
  last : ∀ (i : Nat) (o : O), l[i]? = some o → i ≠ p.iS → i ∈ (beforeL os []).getD p.iS []
  opN : ∃ T cs, l[p.iN]? = some ⟨some p.tN, .new T cs, none⟩
  opS : ∃ kk y z, l[p.iS]? = some ⟨none, .sto kk y z, none⟩
theorem checkN_ok {p : PosN} {l : List O} {os : List Oper} (hl : l.length = os.length) (h : checkN p l os = true) : OKN p l os := by
  unfold checkN at h
  simp only [Bool.and_eq_true] at h
  obtain ⟨h1, h2, h3, h5⟩ := h
  simp only [List.all_eq_true, List.mem_range] at h1 h2
  have one : ∀ (i : Nat) (o : O), l[i]? = some o → _ := fun i o ho => by
    have := h2 i (List.getElem?_eq_some_iff.1 ho).1
    rw [ho] at this
    simp only [Bool.and_eq_true] at this
    exact this
  refine ⟨fun i o ho j hj => ?_, fun i o ho t ht j q hp hd hne => ?_, fun i o ho => ?_, fun i o ho hne => ?_, fun i o ho hne => ?_, ?_, ?_⟩
  · have := h1 i (List.getElem?_eq_some_iff.1 ho).1
    rw [ho] at this
    simpa using List.all_eq_true.1 this j hj
  · have h1 := (one i o ho).1
    simp only [List.all_eq_true, List.mem_range] at h1
    have h2 := h1 t ht j (List.getElem?_eq_some_iff.1 hp).1
    rw [hp] at h2
    simp only [hd, Bool.or_eq_true, beq_iff_eq, bne_self_eq_false, Bool.false_eq_true, false_or] at h2
    rcases h2 with h2 | h2
    · exact absurd h2 hne
    · split at h2
      · exact .inl ⟨by assumption, by simpa using h2⟩
      · exact .inr ⟨by omega, by simpa using h2⟩
  · have := (one i o ho).2.1
    rw [beq_iff_eq] at this
    rw [this]
    simp
  · have := (one i o ho).2.2.1
    simpa [hne] using this
  · have := (one i o ho).2.2.2
    simpa [hne] using this
  · cases ho : l[p.iN]? with
    | none => rw [ho] at h3; cases h3
    | some o =>
    rw [ho] at h3
    have hp : isN p o = true := h3
    clear h3
    unfold isN at hp
    split at hp
    · rw [beq_iff_eq] at hp; subst hp; exact ⟨_, _, rfl⟩
    · cases hp
  · cases ho : l[p.iS]? with
    | none => rw [ho] at h5; cases h5
    | some o =>
    rw [ho] at h5
    have hp : isSN o = true := h5
    clear h5
    unfold isSN at hp
    split at hp
    · exact ⟨_, _, _, rfl⟩
    · cases hp
theorem drawn_sound {M0 : Facts} {bm0 : List Nat} {w0 : World} (hG : C.glob M0 pr w0) {id : Nat} {ops : Array Oper} {l : List O} {M : Facts} {bm : List Nat} {tk : Toks} {σ : List (List V)} {a : Act} {w : World} (hok : okOs C.tab n ops l ops.toList = true) (hdr : drawNOK l ops.toList = true)
    (hl : Later M0 bm0 pr w0 M bm w) (h : SRel M bm tk pr ρ σ n a w) {cs : List V}
    (hq : awpN C cs σ (σ ++ [cs]) l ρ none fun ρ' fin => Q .normal ρ' (σ ++ [fin])) :
    (Code.region id ops true).wp C.P (LiftX M0 bm0 pr w0 n Q) a w := by
  obtain ⟨hlen, hget⟩ := okOs_get hok
  unfold drawNOK at hdr
  split at hdr
  case h_2 => cases hdr
  rename_i p _
  have D := checkN_ok hlen hdr
  obtain ⟨fin, -, hch⟩ := awpN_chain hq
  obtain ⟨xs, hxl, ⟨ρf, hρf, hρe⟩, hloc⟩ := chain_ex (k := 0) hch
  generalize hσ2 : σ ++ [cs] = σ2 at *
  generalize hσf : σ ++ [fin] = σf at *
  have hnl : l.length = ops.size := by rw [hlen]; simp
  have hsteps : ∀ S : Nat → Bool, (steps l xs 0 S).length = l.length := fun S => steps_len l xs 0 S hxl
  have hsg : ∀ (S : Nat → Bool) (i : Nat) (hi : i < (steps l xs 0 S).length) (h1 : i < l.length), (steps l xs 0 S)[i] = (l[i].dst, xs[i]'(by omega), S i) := fun S i hi h1 => by
    have := steps_get l xs 0 S i hi h1 (by omega)
    simpa using this
  obtain ⟨TN, csN, hoN⟩ := D.opN
  obtain ⟨kS, yS, zS, hoS⟩ := D.opS
  have iNl : p.iN < l.length := (List.getElem?_eq_some_iff.1 hoN).1
  have iSl : p.iS < l.length := (List.getElem?_eq_some_iff.1 hoS).1
  have eN : l[p.iN] = ⟨some p.tN, .new TN csN, none⟩ := (List.getElem?_eq_some_iff.1 hoN).2
  have eS : l[p.iS] = ⟨none, .sto kS yS zS, none⟩ := (List.getElem?_eq_some_iff.1 hoS).2
  -- the slots when some are done
  have base : ∀ S S', (∀ j, j < l.length → S j = S' j) → ∀ t, get (runsS (steps l xs 0 S) ρ) t = get (runsS (steps l xs 0 S') ρ) t := fun S S' hS t => by
    refine runsS_congr _ _ ρ t (by rw [hsteps, hsteps]) (fun i g1 g2 => ?_)
    rw [hsteps] at g1
    rw [hsg _ i (by rw [hsteps]; exact g1) g1, hsg _ i (by rw [hsteps]; exact g1) g1]
    exact ⟨rfl, rfl, fun _ => hS i g1⟩
  refine draw_gen (M := M) (bm := bm) (tk := tk) (fun S => runsS (steps l xs 0 S) ρ) (fun S => if S p.iS then σf else if S p.iN then σ2 else σ) ρf σf D.lt (fun S S' hS => ?_) hl ?_ ⟨fun t => ?_, ?_⟩ hρf ?_
  · have e1 := hS p.iN (by omega)
    have e3 := hS p.iS (by omega)
    exact ⟨base S S' fun j hj => hS j (by omega), by rw [e1, e3]⟩
  · have : ∀ t, get (runsS (steps l xs 0 fun _ => false) ρ) t = get ρ t := fun t => by
      rw [runsS_none]
      intro q hq _
      obtain ⟨j, hj, rfl⟩ := List.getElem_of_mem hq
      rw [hsteps] at hj
      rw [hsg _ j (by rw [hsteps]; exact hj) hj]
    simp only [Bool.false_eq_true, if_false]
    exact h.congr this
  · rw [hρe t]
  · simp only [if_true]
  -- one step
  intro S i o' ho' hSi hclo hedge M bm tk a w hl h
  have hi1 : i < ops.toList.length := (List.getElem?_eq_some_iff.1 ho').1
  have hi2 : i < l.length := by omega
  have hlo : l[i]? = some l[i] := List.getElem?_eq_getElem hi2
  have hbef : ∀ j ∈ (beforeL ops.toList []).getD i [], S j = true := before_closed D.lt (S := fun j => S j = true) hclo i o' ho' hedge
  have hbefj : ∀ q, q < l.length → S q = true → ∀ j ∈ (beforeL ops.toList []).getD q [], S j = true := fun q hq hSq => by
    have hq2 : ops.toList[q]? = some ops.toList[q] := List.getElem?_eq_getElem (by omega)
    exact before_closed D.lt (S := fun j => S j = true) hclo q _ hq2 (hclo q _ hq2 hSq)
  have hsame : ∀ t ∈ l[i].looksN ++ l[i].dst.toList, ∀ j (hj : j < l.length), j ≠ i → l[j].dst = some t → (S j = decide (j < i)) := by
    intro t ht j hj hne hd
    rcases D.cmp i l[i] hlo t ht j l[j] (List.getElem?_eq_getElem hj) hd hne with ⟨g1, g2⟩ | ⟨g1, g2⟩
    · rw [hbef j g2]; simp [g1]
    · have : ¬ S j = true := fun hjl => by
        have := hbefj j hj hjl i g2
        rw [hSi] at this; cases this
      have e : S j = false := by simpa using this
      rw [e]; simp; omega
  obtain ⟨ρi, hL, hρi⟩ := hloc i hi2 (by omega)
  have hgetL : ∀ t ∈ l[i].looksN, get ρi t = get (runsS (steps l xs 0 S) ρ) t := by
    intro t ht
    rw [hρi t]
    refine runsS_congr _ _ ρ t (by rw [hsteps, hsteps]) (fun j g1 g2 => ?_)
    rw [hsteps] at g1
    rw [hsg _ j (by rw [hsteps]; exact g1) g1, hsg _ j (by rw [hsteps]; exact g1) g1]
    refine ⟨rfl, rfl, fun hd => ?_⟩
    simp only [Nat.zero_add]
    by_cases e : j = i
    · subst e; rw [hSi]; simp
    · exact (hsame t (by simp [ht]) j g1 e hd).symm
  have hnext : ∀ t, get (runsS (steps l xs 0 fun j => j == i || S j) ρ) t = get (Go.Proofs.Ytinenohgemndiaa.putd (runsS (steps l xs 0 S) ρ) l[i].dst (xs[i]'(by omega))) t := by
    intro t
    rw [get_putd]
    split
    · rename_i e
      have := runsS_last (steps l xs 0 fun j => j == i || S j) ρ i (by rw [hsteps]; exact hi2) t (by rw [hsg _ i _ hi2]; exact e) (by rw [hsg _ i _ hi2]; simp) (fun j hj hij hd => by
        rw [hsteps] at hj
        rw [hsg _ j _ hj] at hd ⊢
        simp only at hd ⊢
        rw [hsame t (by simp [e]) j hj (by omega) hd]
        simp; omega)
      rw [this, hsg _ i _ hi2]
    · rename_i e
      refine runsS_congr _ _ ρ t (by rw [hsteps, hsteps]) (fun j g1 g2 => ?_)
      rw [hsteps] at g1
      rw [hsg _ j (by rw [hsteps]; exact g1) g1, hsg _ j (by rw [hsteps]; exact g1) g1]
      refine ⟨rfl, rfl, fun hd => ?_⟩
      simp only at hd ⊢
      have hne : j ≠ i := fun ee => by subst ee; exact e hd
      simp [hne]
  have hoo := hget i l[i] o' hlo ho'
  have hdst : l[i].dst = o'.dst := by
    have := hoo
    unfold okO at this
    simp only [Bool.and_eq_true, beq_iff_eq] at this
    exact this.1.1.2
  have hdn : ∀ d, o'.dst = some d → d < n := by
    have := hoo
    unfold okO at this
    simp only [Bool.and_eq_true] at this
    intro d hd
    have := this.1.2
    rw [hd] at this
    simpa using this
  have hgd := hoo
  unfold okO at hgd
  simp only [Bool.and_eq_true] at hgd
  replace hgd := hgd.2
  have hwant : l[i].g = none → Region.wanted o' (yielded ops a.tmps) = true := fun hg => by
    rw [hg] at hgd
    split at hgd
    · rename_i hg2; simp [Region.wanted, hg2]
    · rename_i e _; cases e
    · cases hgd
  have neNS : p.iN ≠ p.iS := fun e => by rw [e] at hoN; rw [hoN] at hoS; cases hoS
  have bNS : (p.iN == p.iS) = false := by simpa using neNS
  have bSN : (p.iS == p.iN) = false := by simpa using Ne.symm neNS
  have done : ∀ (K : Slots → List (List V) → Prop) (R : AEx → Slots → List (List V) → Prop), (∀ ρ' σ', K ρ' σ' → (∀ t, get ρ' t = get (runsS (steps l xs 0 fun j => j == i || S j) ρ) t) ∧ σ' = if (p.iS == i || S p.iS) = true then σf else if (p.iN == i || S p.iN) = true then σ2 else σ) →
      o'.wp C.P a w (Lift M bm pr w n K) (LiftX M bm pr w n fun _ _ _ => False) → o'.wp C.P a w (Lift M bm pr w n fun ρ' σ' => (∀ t, get ρ' t = get (runsS (steps l xs 0 fun j => j == i || S j) ρ) t) ∧ σ' = if (p.iS == i || S p.iS) = true then σf else if (p.iN == i || S p.iN) = true then σ2 else σ) (LiftX M bm pr w n fun _ _ _ => False) := fun K R hK hw =>
    Oper.wp_mono2 (fun a' w' ⟨M', bm', tk', ρ', σ', e1, k2, k3⟩ => ⟨M', bm', tk', ρ', σ', hK _ _ e1, k2, k3⟩) (fun e a' w' hh => hh) hw
  by_cases hS : i = p.iS
  · subst hS
    have hall : ∀ j, j < l.length → j ≠ p.iS → S j = true := fun j hj hne => hbef j (D.last j l[j] (List.getElem?_eq_getElem hj) hne)
    have hSN := hall p.iN iNl neNS
    simp only [hSi, hSN, Bool.false_eq_true, if_false, if_true] at h
    unfold LocN at hL
    rw [eS] at hL hgetL hnext
    obtain ⟨-, off, hL1, hL2, hL3⟩ := hL
    have evy : ev C (runsS (steps l xs 0 S) ρ) yS = .ptr σ.length off := by
      rw [← hL1]; exact (ev_congr fun t ht => hgetL t (by simp [O.looksN, OP.slotsN, ht])).symm
    have evz : ev C (runsS (steps l xs 0 S) ρ) zS = ev C ρi zS := (ev_congr fun t ht => hgetL t (by simp [O.looksN, OP.slotsN, ht])).symm
    rw [if_pos (hwant (by rw [eS]))]
    refine done (fun ρ' σ' => ρ' = runsS (steps l xs 0 S) ρ ∧ σ' = σf) (fun _ _ _ => False) (fun ρ' σ' ⟨e1, e2⟩ => ?_) (runO_sound (hG.mono hl) h hoo ?_)
    · subst e1; subst e2
      refine ⟨fun t => ?_, by simp⟩
      rw [hnext t]; rfl
    · rw [eS]
      have hs2 : σ2[σ.length]? = some cs := by rw [← hσ2]; simp
      simp only [runO, evy, evz, hs2]
      refine ⟨hL2, trivial, ?_⟩
      rw [← hL3, ← hσ2, ← hσf]
      simp
  have hSS : S p.iS = false := by
    have : ¬ S p.iS = true := fun hh => by
      have := hbefj p.iS iSl hh i (D.last i l[i] hlo hS)
      rw [hSi] at this; cases this
    simpa using this
  have hSi' : (p.iS == i) = false := by simpa using Ne.symm hS
  by_cases hN : i = p.iN
  · subst hN
    simp only [hSS, hSi, Bool.false_eq_true, if_false] at h
    unfold LocN at hL
    rw [eN] at hL hgetL hnext
    obtain ⟨-, hL1, hL2⟩ := hL
    rw [if_pos (hwant (by rw [eN]))]
    refine done (fun ρ' σ' => ρ' = Go.Proofs.Ytinenohgemndiaa.putd (runsS (steps l xs 0 S) ρ) (some p.tN) (.ptr σ.length 0) ∧ σ' = σ2) (fun _ _ _ => False) (fun ρ' σ' ⟨e1, e2⟩ => ?_) (runO_sound (hG.mono hl) h hoo ?_)
    · subst e1; subst e2
      refine ⟨fun t => ?_, by simp [hSS, bSN]⟩
      rw [hnext t, hL2]
    · rw [eN]
      simp only [runO, hL1]
      exact ⟨trivial, hσ2⟩
  have hSN' : (p.iN == i) = false := by simpa using Ne.symm hN
  -- a calm operation
  have hns : l[i].op.specialN = false := by
    have := D.spec i l[i] hlo
    cases hsp : l[i].op.specialN with
    | false => rfl
    | true => rcases this.1 hsp with e | e; exact absurd e hN; exact absurd e hS
  have hLL2 : Loc C l[i] ρi σ (xs[i]'(by omega)) ∧ Loc C l[i] ρi σ2 (xs[i]'(by omega)) := by
    unfold LocN at hL
    split at hL
    · rename_i e; rw [e] at hns; cases hns
    · rename_i e; rw [e] at hns; cases hns
    · rw [hσ2] at hL; exact hL
  have hlk : l[i].looks = l[i].looksN := by
    unfold O.looks O.looksN
    have : l[i].op.slots = l[i].op.slotsN := by
      cases ho : l[i].op <;> first | rfl | (rw [ho] at hns; cases hns)
    rw [this]
    all_goals rfl
  have hσS : Loc C l[i] ρi (if S p.iN = true then σ2 else σ) (xs[i]'(by omega)) := by split; exact hLL2.2; exact hLL2.1
  have hL2 : Loc C l[i] (runsS (steps l xs 0 S) ρ) (if S p.iN = true then σ2 else σ) (xs[i]'(by omega)) := hσS.congr fun t ht => by
    rw [hlk] at ht
    exact hgetL t ht
  simp only [hSS, hSi', hSN', Bool.false_or, Bool.false_eq_true, if_false] at h done ⊢
  have exec : calmO C l[i].op (runsS (steps l xs 0 S) ρ) (if S p.iN = true then σ2 else σ) (fun v => v = xs[i]'(by omega)) → o'.wp C.P a w (Lift M bm pr w n fun ρ' σ' => (∀ t, get ρ' t = get (runsS (steps l xs 0 fun j => j == i || S j) ρ) t) ∧ σ' = if S p.iN = true then σ2 else σ) (LiftX M bm pr w n fun _ _ _ => False) := fun hc =>
    done _ (fun _ _ _ => False) (fun ρ' σ' ⟨e1, e2⟩ => ⟨fun t => by rw [e1]; exact (hnext t).symm, e2⟩) (runO_sound (hG.mono hl) h hoo (calm_run hc))
  unfold Loc at hL2
  split at hL2
  · rename_i hg
    rw [if_pos (hwant hg)]
    exact exec hL2
  · rename_i t want hg
    rw [hg] at hgd
    split at hgd
    · rename_i e _; cases e
    · rename_i t' b' j b'' e hg2
      cases e
      simp only [Bool.and_eq_true, beq_iff_eq] at hgd
      obtain ⟨rfl, hj⟩ := hgd
      split at hL2
      · rename_i b hb
        have hy := yield_sound h hb hj
        by_cases hbw : b = want
        · rw [if_pos (by simp [Region.wanted, hg2, hy, hbw])]
          exact exec (hL2.1 hbw)
        · rw [if_neg (by simp [Region.wanted, hg2, hy, hbw])]
          have hx := hL2.2 hbw
          refine (h.putd hdn rep_un (by simp)).congr fun t => ?_
          rw [hnext t, hx, hdst]
      · rename_i hb
        have hy := yield_un h hb hj
        rw [if_neg (by simp [Region.wanted, hg2, hy])]
        refine (h.putd hdn rep_un (by simp)).congr fun t => ?_
        rw [hnext t, hL2, hdst]
      · exact hL2.elim
    · cases hgd
end
end Go.Proofs.Ytinenohgemndiaa
namespace Go.Proofs.Ytinenohgemndiaa
open Go.RowKit
def OP.specialS : OP → Bool
  | .sto _ _ _ => true
  | _ => false
section
variable {C : Cx} {pr : Prot} {ρ : Slots} {n : Nat} {Q : AEx → Slots → List (List V) → Prop}
def LocS (C : Cx) (σf : List (List V)) (σ : List (List V)) (o : O) (ρ : Slots) (x : V) : Prop :=
  match o.op with
  | .sto kk y z => o.g = none ∧ ∃ i off cs, ev C ρ y = .ptr i off ∧ σ[i]? = some cs ∧ ((ev C ρ z).boxable = true ∧ (ev C ρ z).cells.length = kk ∧ off + kk ≤ cs.length ∧ noMap cs = true) ∧ σf = σ.set i (over cs off (ev C ρ z).cells)
  | _ => Loc C o ρ σ x
def awpS (C : Cx) (σ : List (List V)) : List O → Slots → Option (List (List V)) → (Slots → List (List V) → Prop) → Prop
  | [], ρ, acc, K => match acc with | some σf => K ρ σf | none => False
  | o :: r, ρ, acc, K => match o.op with
    | .sto kk y z => o.g = none ∧ o.dst = none ∧ match acc, ev C ρ y with
      | none, .ptr i off => match σ[i]? with
        | some cs => ((ev C ρ z).boxable = true ∧ (ev C ρ z).cells.length = kk ∧ off + kk ≤ cs.length ∧ noMap cs = true) ∧ awpS C σ r ρ (some (σ.set i (over cs off (ev C ρ z).cells))) K
        | none => False
      | _, _ => False
    | op => match o.g with
      | none => calmO C op ρ σ fun v => awpS C σ r (putd ρ o.dst v) acc K
      | some (t, want) => match get ρ t with
        | .d (.lit (.bool b)) => (b = want → calmO C op (put ρ t (.d (.lit (.bool want)))) σ fun v => awpS C σ r (putd (put ρ t (.d (.lit (.bool want)))) o.dst v) acc K) ∧ (b ≠ want → awpS C σ r (putd (put ρ t (.d (.lit (.bool (!want))))) o.dst (.tup [])) acc K)
        | .tup [] => awpS C σ r (putd ρ o.dst (.tup [])) acc K
        | _ => False
theorem awpS_chain {σ : List (List V)} : ∀ {l : List O} {ρ : Slots} {acc : Option (List (List V))} {K : Slots → List (List V) → Prop}, awpS C σ l ρ acc K →
    ∃ σf, (∀ r, acc = some r → r = σf) ∧ chain (LocS C σf σ) l ρ fun ρ' => K ρ' σf
  | [], ρ, acc, K, h => by
    cases acc with
    | none => exact h.elim
    | some r => exact ⟨r, fun r' e => by cases e; rfl, h⟩
  | o :: r, ρ, acc, K, h => by
    have know : ∀ {t : Nat} {b c : Bool}, get ρ t = .d (.lit (.bool b)) → b = c → ∀ s, get (put ρ t (.d (.lit (.bool c)))) s = get ρ s := fun hb hc s => by
      rw [get_put]
      split
      · rename_i e; subst e; subst hc; exact hb.symm
      · rfl
    have other : o.op.specialS = false → (match o.g with
      | none => calmO C o.op ρ σ fun v => awpS C σ r (putd ρ o.dst v) acc K
      | some (t, want) => match get ρ t with
        | .d (.lit (.bool b)) => (b = want → calmO C o.op (put ρ t (.d (.lit (.bool want)))) σ fun v => awpS C σ r (putd (put ρ t (.d (.lit (.bool want)))) o.dst v) acc K) ∧ (b ≠ want → awpS C σ r (putd (put ρ t (.d (.lit (.bool (!want))))) o.dst (.tup [])) acc K)
        | .tup [] => awpS C σ r (putd ρ o.dst (.tup [])) acc K
        | _ => False) → ∃ σf, (∀ r, acc = some r → r = σf) ∧ chain (LocS C σf σ) (o :: r) ρ fun ρ' => K ρ' σf := by
      intro hs h
      have fin : ∀ x ρ2, (∀ t, get ρ2 t = get ρ t) → Loc C o ρ σ x → awpS C σ r (putd ρ2 o.dst x) acc K → ∃ σf, (∀ r, acc = some r → r = σf) ∧ chain (LocS C σf σ) (o :: r) ρ fun ρ' => K ρ' σf := by
        intro x ρ2 h1 h2 h4
        obtain ⟨rows2, h5, h6⟩ := awpS_chain h4
        refine ⟨rows2, h5, x, ρ2, h1, ?_, h6⟩
        unfold LocS
        split <;> first | exact h2 | (rename_i e; rw [e] at hs; cases hs)
      split at h
      · rename_i hg
        obtain ⟨v, h1, h2⟩ := calmO_split h
        exact fin v ρ (fun _ => rfl) (by unfold Loc; rw [hg]; exact h1) h2
      · rename_i t want hg
        split at h
        · rename_i b hb
          by_cases e : b = want
          · obtain ⟨v, h1, h2⟩ := calmO_split (h.1 e)
            exact fin v _ (know hb e) (by unfold Loc; rw [hg]; simp only; rw [hb]; exact ⟨fun _ => calmO_congr (fun s _ => know hb e s) h1, fun ne => absurd e ne⟩) h2
          · exact fin (.tup []) _ (know hb (c := !want) (by cases b <;> cases want <;> simp_all)) (by unfold Loc; rw [hg]; simp only; rw [hb]; exact ⟨(fun ee => absurd ee e), (fun _ => by trivial)⟩) (h.2 e)
        · rename_i hb
          exact fin (.tup []) ρ (fun _ => rfl) (by unfold Loc; rw [hg]; simp only; rw [hb]; trivial) h
        · exact h.elim
    unfold awpS at h
    split at h
    · rename_i kk y z ho
      obtain ⟨h1, h2, h3⟩ := h
      split at h3
      · rename_i i off he
        split at h3
        · rename_i cs hcs
          obtain ⟨h5, h6⟩ := h3
          obtain ⟨σf, h7, h8⟩ := awpS_chain h6
          have := h7 _ rfl
          subst this
          exact ⟨_, (fun r e => by cases e), .junk, ρ, fun _ => rfl, by unfold LocS; rw [ho]; exact ⟨h1, i, off, cs, he, hcs, h5, rfl⟩, by rw [h2]; exact h8⟩
        · exact h3.elim
      · exact h3.elim
    · rename_i n2
      refine other ?_ h
      cases ho : o.op <;> first | rfl | exact absurd ho (n2 _ _ _)
def O.free (o : O) : Bool := match o.op, o.g with
  | .mv (.k _), none => true
  | _, _ => false
def checkS (iS : Nat) (l : List O) (os : List Oper) : Bool :=
  let bf := beforeL os []
  ((List.range os.length).all fun i => match os[i]? with | some o => (edgesOf o).all fun j => decide (j < i) | none => true) &&
  (((List.range l.length).all fun i => match l[i]? with
    | some o => ((o.looksN ++ o.dst.toList).all fun t => (List.range l.length).all fun j => j == i || (match l[j]? with
        | some q => q.dst != some t || (if j < i then (bf.getD i []).contains j else (bf.getD j []).contains i)
        | none => true)) &&
      ((o.op.specialS == (i == iS)) && (i == iS || (o.free || (bf.getD iS []).contains i)))
    | none => true) &&
  ((l[iS]?).any isSN))
def drawSOK (l : List O) (os : List Oper) : Bool := match idxOf (fun op => match op with | .sto _ _ _ => true | _ => false) l 0 with
  | some p => checkS p l os
  | none => false
structure OKS (iS : Nat) (l : List O) (os : List Oper) : Prop where
  lt : ∀ (i : Nat) (o : Oper), os[i]? = some o → ∀ j ∈ edgesOf o, j < i
  cmp : ∀ (i : Nat) (o : O), l[i]? = some o → ∀ t ∈ o.looksN ++ o.dst.toList, ∀ (j : Nat) (q : O), l[j]? = some q → q.dst = some t → j ≠ i → (j < i ∧ j ∈ (beforeL os []).getD i []) ∨ (i < j ∧ i ∈ (beforeL os []).getD j [])
  spec : ∀ (i : Nat) (o : O), l[i]? = some o → (o.op.specialS = true ↔ i = iS)
  last : ∀ (i : Nat) (o : O), l[i]? = some o → i ≠ iS → o.free = true ∨ i ∈ (beforeL os []).getD iS []
  opS : ∃ kk y z, l[iS]? = some ⟨none, .sto kk y z, none⟩
theorem checkS_ok {iS : Nat} {l : List O} {os : List Oper} (hl : l.length = os.length) (h : checkS iS l os = true) : OKS iS l os := by
  unfold checkS at h
  simp only [Bool.and_eq_true] at h
  obtain ⟨h1, h2, h5⟩ := h
  simp only [List.all_eq_true, List.mem_range] at h1 h2
  have one : ∀ (i : Nat) (o : O), l[i]? = some o → _ := fun i o ho => by
    have := h2 i (List.getElem?_eq_some_iff.1 ho).1
    rw [ho] at this
    simp only [Bool.and_eq_true] at this
    exact this
  refine ⟨fun i o ho j hj => ?_, fun i o ho t ht j q hp hd hne => ?_, fun i o ho => ?_, fun i o ho hne => ?_, ?_⟩
  · have := h1 i (List.getElem?_eq_some_iff.1 ho).1
    rw [ho] at this
    simpa using List.all_eq_true.1 this j hj
  · have h1 := (one i o ho).1
    simp only [List.all_eq_true, List.mem_range] at h1
    have h2 := h1 t ht j (List.getElem?_eq_some_iff.1 hp).1
    rw [hp] at h2
    simp only [hd, Bool.or_eq_true, beq_iff_eq, bne_self_eq_false, Bool.false_eq_true, false_or] at h2
    rcases h2 with h2 | h2
    · exact absurd h2 hne
    · split at h2
      · exact .inl ⟨by assumption, by simpa using h2⟩
      · exact .inr ⟨by omega, by simpa using h2⟩
  · have := (one i o ho).2.1
    rw [beq_iff_eq] at this
    rw [this]
    simp
  · have := (one i o ho).2.2
    simpa [hne] using this
  · cases ho : l[iS]? with
    | none => rw [ho] at h5; cases h5
    | some o =>
    rw [ho] at h5
    have hp : isSN o = true := h5
    clear h5
    unfold isSN at hp
    split at hp
    · exact ⟨_, _, _, rfl⟩
    · cases hp
theorem draws_sound {M0 : Facts} {bm0 : List Nat} {w0 : World} (hG : C.glob M0 pr w0) {id : Nat} {ops : Array Oper} {l : List O} {M : Facts} {bm : List Nat} {tk : Toks} {σ : List (List V)} {a : Act} {w : World} (hok : okOs C.tab n ops l ops.toList = true) (hdr : drawSOK l ops.toList = true)
    (hl : Later M0 bm0 pr w0 M bm w) (h : SRel M bm tk pr ρ σ n a w)
    (hq : awpS C σ l ρ none fun ρ' σf => Q .normal ρ' σf) :
    (Code.region id ops true).wp C.P (LiftX M0 bm0 pr w0 n Q) a w := by
  obtain ⟨hlen, hget⟩ := okOs_get hok
  unfold drawSOK at hdr
  split at hdr
  case h_2 => cases hdr
  rename_i p _
  have D := checkS_ok hlen hdr
  obtain ⟨σf, -, hch⟩ := awpS_chain hq
  obtain ⟨xs, hxl, ⟨ρf, hρf, hρe⟩, hloc⟩ := chain_ex (k := 0) hch
  have hnl : l.length = ops.size := by rw [hlen]; simp
  have hsteps : ∀ S : Nat → Bool, (steps l xs 0 S).length = l.length := fun S => steps_len l xs 0 S hxl
  have hsg : ∀ (S : Nat → Bool) (i : Nat) (hi : i < (steps l xs 0 S).length) (h1 : i < l.length), (steps l xs 0 S)[i] = (l[i].dst, xs[i]'(by omega), S i) := fun S i hi h1 => by
    have := steps_get l xs 0 S i hi h1 (by omega)
    simpa using this
  obtain ⟨kS, yS, zS, hoS⟩ := D.opS
  have iSl : p < l.length := (List.getElem?_eq_some_iff.1 hoS).1
  have eS : l[p] = ⟨none, .sto kS yS zS, none⟩ := (List.getElem?_eq_some_iff.1 hoS).2
  -- the slots when some are done
  have base : ∀ S S', (∀ j, j < l.length → S j = S' j) → ∀ t, get (runsS (steps l xs 0 S) ρ) t = get (runsS (steps l xs 0 S') ρ) t := fun S S' hS t => by
    refine runsS_congr _ _ ρ t (by rw [hsteps, hsteps]) (fun i g1 g2 => ?_)
    rw [hsteps] at g1
    rw [hsg _ i (by rw [hsteps]; exact g1) g1, hsg _ i (by rw [hsteps]; exact g1) g1]
    exact ⟨rfl, rfl, fun _ => hS i g1⟩
  refine draw_gen (M := M) (bm := bm) (tk := tk) (fun S => runsS (steps l xs 0 S) ρ) (fun S => if S p then σf else σ) ρf σf D.lt (fun S S' hS => ?_) hl ?_ ⟨fun t => ?_, ?_⟩ hρf ?_
  · have e3 := hS p (by omega)
    exact ⟨base S S' fun j hj => hS j (by omega), by rw [e3]⟩
  · have : ∀ t, get (runsS (steps l xs 0 fun _ => false) ρ) t = get ρ t := fun t => by
      rw [runsS_none]
      intro q hq _
      obtain ⟨j, hj, rfl⟩ := List.getElem_of_mem hq
      rw [hsteps] at hj
      rw [hsg _ j (by rw [hsteps]; exact hj) hj]
    simp only [Bool.false_eq_true, if_false]
    exact h.congr this
  · rw [hρe t]
  · simp only [if_true]
  -- one step
  intro S i o' ho' hSi hclo hedge M bm tk a w hl h
  have hi1 : i < ops.toList.length := (List.getElem?_eq_some_iff.1 ho').1
  have hi2 : i < l.length := by omega
  have hlo : l[i]? = some l[i] := List.getElem?_eq_getElem hi2
  have hbef : ∀ j ∈ (beforeL ops.toList []).getD i [], S j = true := before_closed D.lt (S := fun j => S j = true) hclo i o' ho' hedge
  have hbefj : ∀ q, q < l.length → S q = true → ∀ j ∈ (beforeL ops.toList []).getD q [], S j = true := fun q hq hSq => by
    have hq2 : ops.toList[q]? = some ops.toList[q] := List.getElem?_eq_getElem (by omega)
    exact before_closed D.lt (S := fun j => S j = true) hclo q _ hq2 (hclo q _ hq2 hSq)
  have hsame : ∀ t ∈ l[i].looksN ++ l[i].dst.toList, ∀ j (hj : j < l.length), j ≠ i → l[j].dst = some t → (S j = decide (j < i)) := by
    intro t ht j hj hne hd
    rcases D.cmp i l[i] hlo t ht j l[j] (List.getElem?_eq_getElem hj) hd hne with ⟨g1, g2⟩ | ⟨g1, g2⟩
    · rw [hbef j g2]; simp [g1]
    · have : ¬ S j = true := fun hjl => by
        have := hbefj j hj hjl i g2
        rw [hSi] at this; cases this
      have e : S j = false := by simpa using this
      rw [e]; simp; omega
  obtain ⟨ρi, hL, hρi⟩ := hloc i hi2 (by omega)
  have hgetL : ∀ t ∈ l[i].looksN, get ρi t = get (runsS (steps l xs 0 S) ρ) t := by
    intro t ht
    rw [hρi t]
    refine runsS_congr _ _ ρ t (by rw [hsteps, hsteps]) (fun j g1 g2 => ?_)
    rw [hsteps] at g1
    rw [hsg _ j (by rw [hsteps]; exact g1) g1, hsg _ j (by rw [hsteps]; exact g1) g1]
    refine ⟨rfl, rfl, fun hd => ?_⟩
    simp only [Nat.zero_add]
    by_cases e : j = i
    · subst e; rw [hSi]; simp
    · exact (hsame t (by simp [ht]) j g1 e hd).symm
  have hnext : ∀ t, get (runsS (steps l xs 0 fun j => j == i || S j) ρ) t = get (Go.Proofs.Ytinenohgemndiaa.putd (runsS (steps l xs 0 S) ρ) l[i].dst (xs[i]'(by omega))) t := by
    intro t
    rw [get_putd]
    split
    · rename_i e
      have := runsS_last (steps l xs 0 fun j => j == i || S j) ρ i (by rw [hsteps]; exact hi2) t (by rw [hsg _ i _ hi2]; exact e) (by rw [hsg _ i _ hi2]; simp) (fun j hj hij hd => by
        rw [hsteps] at hj
        rw [hsg _ j _ hj] at hd ⊢
        simp only at hd ⊢
        rw [hsame t (by simp [e]) j hj (by omega) hd]
        simp; omega)
      rw [this, hsg _ i _ hi2]
    · rename_i e
      refine runsS_congr _ _ ρ t (by rw [hsteps, hsteps]) (fun j g1 g2 => ?_)
      rw [hsteps] at g1
      rw [hsg _ j (by rw [hsteps]; exact g1) g1, hsg _ j (by rw [hsteps]; exact g1) g1]
      refine ⟨rfl, rfl, fun hd => ?_⟩
      simp only at hd ⊢
      have hne : j ≠ i := fun ee => by subst ee; exact e hd
      simp [hne]
  have hoo := hget i l[i] o' hlo ho'
  have hdst : l[i].dst = o'.dst := by
    have := hoo
    unfold okO at this
    simp only [Bool.and_eq_true, beq_iff_eq] at this
    exact this.1.1.2
  have hdn : ∀ d, o'.dst = some d → d < n := by
    have := hoo
    unfold okO at this
    simp only [Bool.and_eq_true] at this
    intro d hd
    have := this.1.2
    rw [hd] at this
    simpa using this
  have hgd := hoo
  unfold okO at hgd
  simp only [Bool.and_eq_true] at hgd
  replace hgd := hgd.2
  have hwant : l[i].g = none → Region.wanted o' (yielded ops a.tmps) = true := fun hg => by
    rw [hg] at hgd
    split at hgd
    · rename_i hg2; simp [Region.wanted, hg2]
    · rename_i e _; cases e
    · cases hgd
  have done : ∀ (K : Slots → List (List V) → Prop) (R : AEx → Slots → List (List V) → Prop), (∀ ρ' σ', K ρ' σ' → (∀ t, get ρ' t = get (runsS (steps l xs 0 fun j => j == i || S j) ρ) t) ∧ σ' = if (p == i || S p) = true then σf else σ) →
      o'.wp C.P a w (Lift M bm pr w n K) (LiftX M bm pr w n fun _ _ _ => False) → o'.wp C.P a w (Lift M bm pr w n fun ρ' σ' => (∀ t, get ρ' t = get (runsS (steps l xs 0 fun j => j == i || S j) ρ) t) ∧ σ' = if (p == i || S p) = true then σf else σ) (LiftX M bm pr w n fun _ _ _ => False) := fun K R hK hw =>
    Oper.wp_mono2 (fun a' w' ⟨M', bm', tk', ρ', σ', e1, k2, k3⟩ => ⟨M', bm', tk', ρ', σ', hK _ _ e1, k2, k3⟩) (fun e a' w' hh => hh) hw
  by_cases hS : i = p
  · subst hS
    simp only [hSi, Bool.false_eq_true, if_false] at h
    unfold LocS at hL
    rw [eS] at hL hgetL hnext
    obtain ⟨-, i0, off, cs, hL1, hcs, hL2, hL3⟩ := hL
    have evy : ev C (runsS (steps l xs 0 S) ρ) yS = .ptr i0 off := by
      rw [← hL1]; exact (ev_congr fun t ht => hgetL t (by simp [O.looksN, OP.slotsN, ht])).symm
    have evz : ev C (runsS (steps l xs 0 S) ρ) zS = ev C ρi zS := (ev_congr fun t ht => hgetL t (by simp [O.looksN, OP.slotsN, ht])).symm
    rw [if_pos (hwant (by rw [eS]))]
    refine done (fun ρ' σ' => ρ' = runsS (steps l xs 0 S) ρ ∧ σ' = σf) (fun _ _ _ => False) (fun ρ' σ' ⟨e1, e2⟩ => ?_) (runO_sound (hG.mono hl) h hoo ?_)
    · subst e1; subst e2
      refine ⟨fun t => ?_, by simp⟩
      rw [hnext t]; rfl
    · rw [eS]
      simp only [runO, evy, evz, hcs]
      exact ⟨hL2, trivial, hL3.symm⟩
  have hSS : l[i].free = true ∨ S p = false := by
    rcases D.last i l[i] hlo hS with g | g
    · exact .inl g
    · refine .inr ?_
      have : ¬ S p = true := fun hh => by
        have := hbefj p iSl hh i g
        rw [hSi] at this; cases this
      simpa using this
  have hSi' : (p == i) = false := by simpa using Ne.symm hS
  -- a calm operation
  have hns : l[i].op.specialS = false := by
    have := D.spec i l[i] hlo
    cases hsp : l[i].op.specialS with
    | false => rfl
    | true => exact absurd (this.1 hsp) hS
  have hLL2 : Loc C l[i] ρi σ (xs[i]'(by omega)) := by
    unfold LocS at hL
    split at hL
    · rename_i e; rw [e] at hns; cases hns
    · exact hL
  have hlk : l[i].looks = l[i].looksN := by
    unfold O.looks O.looksN
    have : l[i].op.slots = l[i].op.slotsN := by
      cases ho : l[i].op <;> first | rfl | (rw [ho] at hns; cases hns)
    rw [this]
    all_goals rfl
  have hL0 : Loc C l[i] (runsS (steps l xs 0 S) ρ) σ (xs[i]'(by omega)) := hLL2.congr fun t ht => by
    rw [hlk] at ht
    exact hgetL t ht
  obtain ⟨σ2, hσ2⟩ : ∃ σ2, σ2 = if S p = true then σf else σ := ⟨_, rfl⟩
  have hL2 : Loc C l[i] (runsS (steps l xs 0 S) ρ) σ2 (xs[i]'(by omega)) := by
    rcases hSS with hf | hs
    · unfold O.free at hf
      split at hf
      · rename_i v ho hg
        unfold Loc at hL0 ⊢
        rw [hg] at hL0 ⊢
        rw [ho] at hL0 ⊢
        exact hL0
      · cases hf
    · rw [hσ2, hs]; exact hL0
  simp only [hSi', Bool.false_or] at h done ⊢
  rw [← hσ2] at h done ⊢
  have exec : calmO C l[i].op (runsS (steps l xs 0 S) ρ) σ2 (fun v => v = xs[i]'(by omega)) → o'.wp C.P a w (Lift M bm pr w n fun ρ' σ' => (∀ t, get ρ' t = get (runsS (steps l xs 0 fun j => j == i || S j) ρ) t) ∧ σ' = σ2) (LiftX M bm pr w n fun _ _ _ => False) := fun hc =>
    done _ (fun _ _ _ => False) (fun ρ' σ' ⟨e1, e2⟩ => ⟨fun t => by rw [e1]; exact (hnext t).symm, e2⟩) (runO_sound (hG.mono hl) h hoo (calm_run hc))
  unfold Loc at hL2
  split at hL2
  · rename_i hg
    rw [if_pos (hwant hg)]
    exact exec hL2
  · rename_i t want hg
    rw [hg] at hgd
    split at hgd
    · rename_i e _; cases e
    · rename_i t' b' j b'' e hg2
      cases e
      simp only [Bool.and_eq_true, beq_iff_eq] at hgd
      obtain ⟨rfl, hj⟩ := hgd
      split at hL2
      · rename_i b hb
        have hy := yield_sound h hb hj
        by_cases hbw : b = want
        · rw [if_pos (by simp [Region.wanted, hg2, hy, hbw])]
          exact exec (hL2.1 hbw)
        · rw [if_neg (by simp [Region.wanted, hg2, hy, hbw])]
          have hx := hL2.2 hbw
          refine (h.putd hdn rep_un (by simp)).congr fun t => ?_
          rw [hnext t, hx, hdst]
      · rename_i hb
        have hy := yield_un h hb hj
        rw [if_neg (by simp [Region.wanted, hg2, hy])]
        refine (h.putd hdn rep_un (by simp)).congr fun t => ?_
        rw [hnext t, hL2, hdst]
      · exact hL2.elim
    · cases hgd
end
end Go.Proofs.Ytinenohgemndiaa
namespace Go.Proofs.Ytinenohgemndiaa
open Go.RowKit
def bL (s d0 d1 T k bytes : Nat) (y : X) (mid : List O) : List O := ⟨some d0, .mvo s, none⟩ :: (mid ++ [⟨some d1, .app T k bytes d0 y, none⟩, ⟨some s, .mvo d1, none⟩])
theorem bL_len (s d0 d1 T k bytes : Nat) (y : X) (mid : List O) : (bL s d0 d1 T k bytes y mid).length = mid.length + 3 := by simp [bL]
theorem bL_mid {s d0 d1 T k bytes : Nat} {y : X} {mid : List O} {i : Nat} (h : i < mid.length) : (bL s d0 d1 T k bytes y mid)[i + 1]? = some mid[i] := by
  unfold bL
  rw [List.getElem?_cons_succ, List.getElem?_append_left h, List.getElem?_eq_getElem h]
theorem bL_app {s d0 d1 T k bytes : Nat} {y : X} {mid : List O} : (bL s d0 d1 T k bytes y mid)[mid.length + 1]? = some ⟨some d1, .app T k bytes d0 y, none⟩ := by
  unfold bL
  rw [List.getElem?_cons_succ, List.getElem?_append_right (Nat.le_refl _)]
  simp
theorem bL_last {s d0 d1 T k bytes : Nat} {y : X} {mid : List O} : (bL s d0 d1 T k bytes y mid)[mid.length + 2]? = some ⟨some s, .mvo d1, none⟩ := by
  unfold bL
  rw [List.getElem?_cons_succ, List.getElem?_append_right (by omega)]
  simp
def drawBOK (s d0 d1 : Nat) (y : X) (mid : List O) (os : List Oper) : Bool :=
  let bf := beforeL os []
  let free := fun t => t != s && t != d0 && t != d1
  ((List.range os.length).all fun i => match os[i]? with | some o => (edgesOf o).all fun j => decide (j < i) | none => true) &&
  (((List.range mid.length).all fun i => match mid[i]? with
    | some o => ((o.looks ++ o.dst.toList).all fun t => free t && (List.range mid.length).all fun j => j == i || (match mid[j]? with
        | some q => q.dst != some t || (if j < i then (bf.getD (i + 1) []).contains (j + 1) else (bf.getD (j + 1) []).contains (i + 1))
        | none => true)) && (bf.getD (mid.length + 1) []).contains (i + 1)
    | none => true) &&
  (y.slots.all free && ((bf.getD (mid.length + 1) []).contains 0 && ((bf.getD (mid.length + 2) []).contains (mid.length + 1) && (s != d0 && (s != d1 && d0 != d1))))))
structure OKB (s d0 d1 : Nat) (y : X) (mid : List O) (os : List Oper) : Prop where
  lt : ∀ (i : Nat) (o : Oper), os[i]? = some o → ∀ j ∈ edgesOf o, j < i
  free : ∀ (i : Nat) (h : i < mid.length), ∀ t ∈ mid[i].looks ++ mid[i].dst.toList, t ≠ s ∧ t ≠ d0 ∧ t ≠ d1
  cmp : ∀ (i : Nat) (h : i < mid.length), ∀ t ∈ mid[i].looks ++ mid[i].dst.toList, ∀ (j : Nat) (hj : j < mid.length), mid[j].dst = some t → j ≠ i → (j < i ∧ j + 1 ∈ (beforeL os []).getD (i + 1) []) ∨ (i < j ∧ i + 1 ∈ (beforeL os []).getD (j + 1) [])
  all : ∀ (i : Nat), i < mid.length → i + 1 ∈ (beforeL os []).getD (mid.length + 1) []
  yfree : ∀ t ∈ y.slots, t ≠ s ∧ t ≠ d0 ∧ t ≠ d1
  first : 0 ∈ (beforeL os []).getD (mid.length + 1) []
  last : mid.length + 1 ∈ (beforeL os []).getD (mid.length + 2) []
  ne : s ≠ d0 ∧ s ≠ d1 ∧ d0 ≠ d1
theorem drawBOK_ok {s d0 d1 : Nat} {y : X} {mid : List O} {os : List Oper} (h : drawBOK s d0 d1 y mid os = true) : OKB s d0 d1 y mid os := by
  unfold drawBOK at h
  simp only [Bool.and_eq_true, bne_iff_ne, ne_eq, List.contains_iff_mem] at h
  obtain ⟨h1, h2, h3, h4, h5, h6⟩ := h
  simp only [List.all_eq_true, List.mem_range, Bool.and_eq_true, bne_iff_ne, ne_eq] at h1 h2 h3
  have one : ∀ (i : Nat) (h : i < mid.length), _ := fun i hi => by
    have := h2 i hi
    rw [List.getElem?_eq_getElem hi] at this
    simp only [Bool.and_eq_true, List.all_eq_true, List.mem_range, bne_iff_ne, ne_eq, List.contains_iff_mem] at this
    exact this
  refine ⟨fun i o ho j hj => ?_, fun i hi t ht => ?_, fun i hi t ht j hj hd hne => ?_, fun i hi => (one i hi).2, fun t ht => ?_, h4, h5, h6⟩
  · have := h1 i (List.getElem?_eq_some_iff.1 ho).1
    rw [ho] at this
    simpa using List.all_eq_true.1 this j hj
  · obtain ⟨⟨a, b⟩, c⟩ := ((one i hi).1 t ht).1
    exact ⟨a, b, c⟩
  · have h2 := ((one i hi).1 t ht).2 j hj
    rw [List.getElem?_eq_getElem hj] at h2
    simp only [hd, Bool.or_eq_true, beq_iff_eq, bne_self_eq_false, Bool.false_eq_true, false_or] at h2
    rcases h2 with h2 | h2
    · exact absurd h2 hne
    · split at h2
      · exact .inl ⟨by assumption, by simpa using h2⟩
      · exact .inr ⟨by omega, by simpa using h2⟩
  · obtain ⟨⟨a, b⟩, c⟩ := h3 t ht
    exact ⟨a, b, c⟩
section
variable {C : Cx} {pr : Prot} {ρ : Slots} {σ : List (List V)} {n : Nat} {Q : AEx → Slots → List (List V) → Prop}
def endB (s d0 d1 T k : Nat) (rows r2 : List (List D)) (ρ : Slots) : Slots := put (put (put ρ s (.own T k (rows ++ r2))) d0 (.d (.sl rows))) d1 (.d (.sl (rows ++ r2)))
def stB (s d0 d1 T k : Nat) (rows r2 : List (List D)) : Bool → Bool → Bool → Slots → Slots
  | true, _, _, ρ => endB s d0 d1 T k rows r2 ρ
  | false, true, _, ρ => put (put (put ρ s (.d (.sl rows))) d0 (.d (.sl rows))) d1 (.own T k (rows ++ r2))
  | false, false, true, ρ => put (put ρ s (.d (.sl rows))) d0 (.own T k rows)
  | false, false, false, ρ => ρ
theorem stB_congr {s d0 d1 T k : Nat} {rows r2 : List (List D)} {a b c : Bool} {ρ ρ' : Slots} (h : ∀ t, get ρ t = get ρ' t) (t : Nat) : get (stB s d0 d1 T k rows r2 a b c ρ) t = get (stB s d0 d1 T k rows r2 a b c ρ') t := by
  cases a <;> cases b <;> cases c <;> simp only [stB, endB, get_put, h]
theorem stB_free {s d0 d1 T k : Nat} {rows r2 : List (List D)} {a b c : Bool} {ρ : Slots} {t : Nat} (h : t ≠ s ∧ t ≠ d0 ∧ t ≠ d1) : get (stB s d0 d1 T k rows r2 a b c ρ) t = get ρ t := by
  obtain ⟨h1, h2, h3⟩ := h
  cases a <;> cases b <;> cases c <;> simp [stB, endB, get_put, h1, h2, h3]
theorem stB_put {s d0 d1 T k : Nat} {rows r2 : List (List D)} {a b c : Bool} {ρ : Slots} {d : Option Nat} {x : V} (h : ∀ t, d = some t → t ≠ s ∧ t ≠ d0 ∧ t ≠ d1) (t : Nat) : get (putd (stB s d0 d1 T k rows r2 a b c ρ) d x) t = get (stB s d0 d1 T k rows r2 a b c (putd ρ d x)) t := by
  rw [get_putd]
  split
  · rename_i e
    rw [stB_free (h t e), get_putd, if_pos e]
  · rename_i e
    cases a <;> cases b <;> cases c <;> simp only [stB, endB, get_put, get_putd, if_neg e]
def awpB (C : Cx) (s d0 d1 T k bytes : Nat) (y : X) (mid : List O) (ρ : Slots) (σ : List (List V)) (K : Slots → Prop) : Prop := match get ρ s with
  | .own T' k' rows => T' = T ∧ k' = k ∧ awpCalm C mid ρ σ fun ρ' => match rowsV (ev C ρ' y) with
    | some r2 => (r2.all (fun r => r.length == k) = true ∧ (rows.length + r2.length) * bytes ≤ 140737488355328) ∧ K (endB s d0 d1 T k rows r2 ρ')
    | none => False
  | _ => False
theorem drawb_sound {M0 : Facts} {bm0 : List Nat} {w0 : World} (hG : C.glob M0 pr w0) {id : Nat} {ops : Array Oper} {s d0 d1 T k bytes : Nat} {y : X} {mid : List O} {M : Facts} {bm : List Nat} {tk : Toks} {a : Act} {w : World} (hok : okOs C.tab n ops (bL s d0 d1 T k bytes y mid) ops.toList = true) (hdr : drawBOK s d0 d1 y mid ops.toList = true)
    (hl : Later M0 bm0 pr w0 M bm w) (h : SRel M bm tk pr ρ σ n a w)
    (hq : awpB C s d0 d1 T k bytes y mid ρ σ fun ρ' => Q .normal ρ' σ) :
    (Code.region id ops true).wp C.P (LiftX M0 bm0 pr w0 n Q) a w := by
  obtain ⟨hlen, hget⟩ := okOs_get hok
  rw [bL_len] at hlen
  have D := drawBOK_ok hdr
  obtain ⟨ne1, ne2, ne3⟩ := D.ne
  unfold awpB at hq
  split at hq
  case h_2 => exact hq.elim
  rename_i T' k' rows hrow
  obtain ⟨rfl, rfl, hq⟩ := hq
  obtain ⟨xs, hxl, ⟨ρf, hρf, hρe⟩, hloc⟩ := calm_ex (k := 1) hq
  split at hρf
  case h_2 => exact hρf.elim
  rename_i r2 hr2
  obtain ⟨⟨hk, hby⟩, hQ⟩ := hρf
  have hnl : mid.length + 3 = ops.size := by rw [hlen]; simp
  have hsteps : ∀ S : Nat → Bool, (steps mid xs 1 S).length = mid.length := fun S => steps_len mid xs 1 S hxl
  have hsg : ∀ (S : Nat → Bool) (i : Nat) (hi : i < (steps mid xs 1 S).length) (h1 : i < mid.length), (steps mid xs 1 S)[i] = (mid[i].dst, xs[i]'(by omega), S (i + 1)) := fun S i hi h1 => by
    have := steps_get mid xs 1 S i hi h1 (by omega)
    rw [this, Nat.add_comm 1 i]
  have base : ∀ S S', (∀ j, j < mid.length → S (j + 1) = S' (j + 1)) → ∀ t, get (runsS (steps mid xs 1 S) ρ) t = get (runsS (steps mid xs 1 S') ρ) t := fun S S' hS t => by
    refine runsS_congr _ _ ρ t (by rw [hsteps, hsteps]) (fun i g1 g2 => ?_)
    rw [hsteps] at g1
    rw [hsg _ i (by rw [hsteps]; exact g1) g1, hsg _ i (by rw [hsteps]; exact g1) g1]
    exact ⟨rfl, rfl, fun _ => hS i g1⟩
  have own : ∀ S t, t = s ∨ t = d0 ∨ t = d1 → get (runsS (steps mid xs 1 S) ρ) t = get ρ t := fun S t ht => by
    rw [runsS_none]
    intro q hq hd
    obtain ⟨j, hj, rfl⟩ := List.getElem_of_mem hq
    rw [hsteps] at hj
    rw [hsg _ j (by rw [hsteps]; exact hj) hj] at hd
    obtain ⟨g1, g2, g3⟩ := D.free j hj t (by simp only at hd; simp [hd])
    rcases ht with e | e | e
    · exact absurd e g1
    · exact absurd e g2
    · exact absurd e g3
  have hst0 : ∀ S, (∀ j, S j = false) → ∀ t, get (runsS (steps mid xs 1 S) ρ) t = get ρ t := fun S hS t => by
    rw [runsS_none]
    intro q hq _
    obtain ⟨j, hj, rfl⟩ := List.getElem_of_mem hq
    rw [hsteps] at hj
    rw [hsg _ j (by rw [hsteps]; exact hj) hj]
    exact hS _
  obtain ⟨St, hSt⟩ : ∃ St : (Nat → Bool) → Slots, ∀ S, St S = stB s d0 d1 T' k' rows r2 (S (mid.length + 2)) (S (mid.length + 1)) (S 0) (runsS (steps mid xs 1 S) ρ) := ⟨fun S => stB s d0 d1 T' k' rows r2 (S (mid.length + 2)) (S (mid.length + 1)) (S 0) (runsS (steps mid xs 1 S) ρ), fun _ => rfl⟩
  refine draw_gen (M := M) (bm := bm) (tk := tk) St (fun _ => σ) (endB s d0 d1 T' k' rows r2 ρf) σ D.lt (fun S S' hS => ⟨fun t => ?_, rfl⟩) hl ?_ ⟨fun t => ?_, rfl⟩ hQ ?_
  · have e := base S S' fun j hj => hS (j + 1) (by omega)
    rw [hSt, hSt, hS (mid.length + 2) (by omega), hS (mid.length + 1) (by omega), hS 0 (by omega)]
    exact stB_congr e t
  · simp only [hSt]
    exact h.congr (hst0 _ fun _ => rfl)
  · rw [hSt]
    exact stB_congr (a := true) (b := true) (c := true) hρe t
  -- one step
  intro S i o' ho' hSi hclo hedge M bm tk a w hl h
  have hi1 : i < ops.toList.length := (List.getElem?_eq_some_iff.1 ho').1
  have hbef : ∀ j ∈ (beforeL ops.toList []).getD i [], S j = true := before_closed D.lt (S := fun j => S j = true) hclo i o' ho' hedge
  have hbefj : ∀ q, q < mid.length + 3 → S q = true → ∀ j ∈ (beforeL ops.toList []).getD q [], S j = true := fun q hq hSq => by
    have hq2 : ops.toList[q]? = some ops.toList[q] := List.getElem?_eq_getElem (by omega)
    exact before_closed D.lt (S := fun j => S j = true) hclo q _ hq2 (hclo q _ hq2 hSq)
  have gt : ∀ o, (bL s d0 d1 T' k' bytes y mid)[i]? = some o → o.g = none → Region.wanted o' (yielded ops a.tmps) = true := fun o ho hg => by
    have hgd := hget i o o' ho ho'
    unfold okO at hgd
    simp only [Bool.and_eq_true] at hgd
    replace hgd := hgd.2
    rw [hg] at hgd
    split at hgd
    · rename_i hg2; simp [Region.wanted, hg2]
    · rename_i e _; cases e
    · cases hgd
  have done : ∀ (K : Slots → List (List V) → Prop), (∀ ρ' σ', K ρ' σ' → (∀ t, get ρ' t = get (St fun j => j == i || S j) t) ∧ σ' = σ) →
      o'.wp C.P a w (Lift M bm pr w n K) (LiftX M bm pr w n fun _ _ _ => False) → o'.wp C.P a w (Lift M bm pr w n fun ρ' σ' => (∀ t, get ρ' t = get (St fun j => j == i || S j) t) ∧ σ' = σ) (LiftX M bm pr w n fun _ _ _ => False) := fun K hK hw =>
    Oper.wp_mono2 (fun a' w' ⟨M', bm', tk', ρ', σ', e1, k2, k3⟩ => ⟨M', bm', tk', ρ', σ', hK _ _ e1, k2, k3⟩) (fun e a' w' hh => hh) hw
  have no2 : S (mid.length + 1) = false → S (mid.length + 2) = false := fun hA => by
    cases hB : S (mid.length + 2) with
    | false => rfl
    | true => have := hbefj _ (by omega) hB _ D.last; rw [hA] at this; cases this
  by_cases i0 : i = 0
  · subst i0
    have hA : S (mid.length + 1) = false := by
      cases hA : S (mid.length + 1) with
      | false => rfl
      | true => have := hbefj _ (by omega) hA _ D.first; rw [hSi] at this; cases this
    have hB := no2 hA
    have ho : (bL s d0 d1 T' k' bytes y mid)[0]? = some ⟨some d0, .mvo s, none⟩ := rfl
    rw [if_pos (gt _ ho rfl)]
    have hbs := base S (fun j => j == 0 || S j) fun j hj => by simp
    have eS' : St (fun j => j == 0 || S j) = put (put (runsS (steps mid xs 1 fun j => j == 0 || S j) ρ) s (.d (.sl rows))) d0 (.own T' k' rows) := by
      rw [hSt]; simp [hA, hB, stB]
    rw [hSt, hA, hB, hSi] at h
    refine done (fun ρ' σ' => ρ' = putd (put (runsS (steps mid xs 1 S) ρ) s (.d (.sl rows))) (some d0) (.own T' k' rows) ∧ σ' = σ) (fun ρ' σ' ⟨e1, e2⟩ => ?_) (runO_sound (Q := fun _ _ _ => False) (hG.mono hl) h (hget 0 _ o' ho ho') ?_)
    · subst e1
      refine ⟨fun t => ?_, e2⟩
      rw [eS']
      simp only [putd, get_put, hbs]
    · simp only [runO, stB, own S s (.inl rfl), hrow]
      exact ⟨trivial, trivial⟩
  by_cases iA : i = mid.length + 1
  · subst iA
    have hB := no2 hSi
    have h0 := hbef _ D.first
    have ho := bL_app (s := s) (d0 := d0) (d1 := d1) (T := T') (k := k') (bytes := bytes) (y := y) (mid := mid)
    rw [if_pos (gt _ ho rfl)]
    have hbs := base S (fun j => j == mid.length + 1 || S j) fun j hj => by
      have : (j + 1 == mid.length + 1) = false := by simp; omega
      simp [this]
    have eS' : St (fun j => j == mid.length + 1 || S j) = put (put (put (runsS (steps mid xs 1 fun j => j == mid.length + 1 || S j) ρ) s (.d (.sl rows))) d0 (.d (.sl rows))) d1 (.own T' k' (rows ++ r2)) := by
      have : (mid.length + 2 == mid.length + 1) = false := by simp
      rw [hSt]; simp only [this, hB, Bool.false_or, beq_self_eq_true, Bool.true_or]; rfl
    rw [hSt, hSi, hB, h0] at h
    have hall : ∀ t, get ρf t = get (runsS (steps mid xs 1 S) ρ) t := fun t => by
      rw [hρe t]
      exact base _ _ (fun j hj => (hbef _ (D.all j hj)).symm) t
    have hev : ev C (stB s d0 d1 T' k' rows r2 false false true (runsS (steps mid xs 1 S) ρ)) y = ev C ρf y := ev_congr fun t ht => by
      rw [stB_free (D.yfree t ht), hall]
    refine done (fun ρ' σ' => ρ' = putd (put (stB s d0 d1 T' k' rows r2 false false true (runsS (steps mid xs 1 S) ρ)) d0 (.d (.sl rows))) (some d1) (.own T' k' (rows ++ r2)) ∧ σ' = σ) (fun ρ' σ' ⟨e1, e2⟩ => ?_) (runO_sound (Q := fun _ _ _ => False) (hG.mono hl) h (hget _ _ o' ho ho') ?_)
    · subst e1
      refine ⟨fun t => ?_, e2⟩
      rw [eS']
      simp only [putd, stB, get_put, hbs]
      repeat' split
      all_goals first | rfl | (exfalso; omega)
    · have hg0 : get (stB s d0 d1 T' k' rows r2 false false true (runsS (steps mid xs 1 S) ρ)) d0 = .own T' k' rows := by simp [stB, get_put]
      simp only [runO, hg0, hev, hr2]
      exact ⟨⟨trivial, trivial, hk, hby⟩, trivial, trivial⟩
  by_cases iB : i = mid.length + 2
  · subst iB
    have hA := hbef _ D.last
    have ho := bL_last (s := s) (d0 := d0) (d1 := d1) (T := T') (k := k') (bytes := bytes) (y := y) (mid := mid)
    rw [if_pos (gt _ ho rfl)]
    have hbs := base S (fun j => j == mid.length + 2 || S j) fun j hj => by
      have : (j + 1 == mid.length + 2) = false := by simp; omega
      simp [this]
    have eS' : St (fun j => j == mid.length + 2 || S j) = endB s d0 d1 T' k' rows r2 (runsS (steps mid xs 1 fun j => j == mid.length + 2 || S j) ρ) := by
      rw [hSt]; simp [stB]
    rw [hSt, hSi, hA] at h
    refine done (fun ρ' σ' => ρ' = putd (put (stB s d0 d1 T' k' rows r2 false true (S 0) (runsS (steps mid xs 1 S) ρ)) d1 (.d (.sl (rows ++ r2)))) (some s) (.own T' k' (rows ++ r2)) ∧ σ' = σ) (fun ρ' σ' ⟨e1, e2⟩ => ?_) (runO_sound (Q := fun _ _ _ => False) (hG.mono hl) h (hget _ _ o' ho ho') ?_)
    · subst e1
      refine ⟨fun t => ?_, e2⟩
      rw [eS']
      simp only [putd, stB, endB, get_put, hbs]
      repeat' split
      all_goals first | rfl | (exfalso; omega)
    · have hg0 : get (stB s d0 d1 T' k' rows r2 false true (S 0) (runsS (steps mid xs 1 S) ρ)) d1 = .own T' k' (rows ++ r2) := by simp [stB, get_put]
      simp only [runO, hg0]
      exact ⟨trivial, trivial⟩
  -- a calm operation
  obtain ⟨m, rfl⟩ : ∃ m, i = m + 1 := ⟨i - 1, by omega⟩
  have hm : m < mid.length := by omega
  have hlo := bL_mid (s := s) (d0 := d0) (d1 := d1) (T := T') (k := k') (bytes := bytes) (y := y) hm
  have hoo := hget (m + 1) _ o' hlo ho'
  have hA : S (mid.length + 1) = false := by
    cases hA : S (mid.length + 1) with
    | false => rfl
    | true => have := hbefj _ (by omega) hA _ (D.all m hm); rw [hSi] at this; cases this
  have hB := no2 hA
  have hsame : ∀ t ∈ mid[m].looks ++ mid[m].dst.toList, ∀ j (hj : j < mid.length), j ≠ m → mid[j].dst = some t → (S (j + 1) = decide (j < m)) := by
    intro t ht j hj hne hd
    rcases D.cmp m hm t ht j hj hd hne with ⟨g1, g2⟩ | ⟨g1, g2⟩
    · rw [hbef _ g2]; simp [g1]
    · have : ¬ S (j + 1) = true := fun hjl => by
        have := hbefj (j + 1) (by omega) hjl _ g2
        rw [hSi] at this; cases this
      have e : S (j + 1) = false := by simpa using this
      rw [e]; simp; omega
  obtain ⟨ρi, hL, hρi⟩ := hloc m hm (by omega)
  have hgetL : ∀ t ∈ mid[m].looks, get ρi t = get (runsS (steps mid xs 1 S) ρ) t := by
    intro t ht
    rw [hρi t]
    refine runsS_congr _ _ ρ t (by rw [hsteps, hsteps]) (fun j g1 g2 => ?_)
    rw [hsteps] at g1
    rw [hsg _ j (by rw [hsteps]; exact g1) g1, hsg _ j (by rw [hsteps]; exact g1) g1]
    refine ⟨rfl, rfl, fun hd => ?_⟩
    by_cases e : j = m
    · subst e; rw [hSi]; simp; omega
    · rw [hsame t (by simp [ht]) j g1 e hd, decide_eq_decide]; omega
  have hnext : ∀ t, get (runsS (steps mid xs 1 fun j => j == m + 1 || S j) ρ) t = get (Go.Proofs.Ytinenohgemndiaa.putd (runsS (steps mid xs 1 S) ρ) mid[m].dst (xs[m]'(by omega))) t := by
    intro t
    rw [get_putd]
    split
    · rename_i e
      have := runsS_last (steps mid xs 1 fun j => j == m + 1 || S j) ρ m (by rw [hsteps]; exact hm) t (by rw [hsg _ m _ hm]; exact e) (by rw [hsg _ m _ hm]; simp) (fun j hj hij hd => by
        rw [hsteps] at hj
        rw [hsg _ j _ hj] at hd ⊢
        simp only at hd ⊢
        rw [hsame t (by simp [e]) j hj (by omega) hd]
        simp; omega)
      rw [this, hsg _ m _ hm]
    · rename_i e
      refine runsS_congr _ _ ρ t (by rw [hsteps, hsteps]) (fun j g1 g2 => ?_)
      rw [hsteps] at g1
      rw [hsg _ j (by rw [hsteps]; exact g1) g1, hsg _ j (by rw [hsteps]; exact g1) g1]
      refine ⟨rfl, rfl, fun hd => ?_⟩
      simp only at hd ⊢
      have hne : j ≠ m := fun ee => by subst ee; exact e hd
      simp [hne]
  have hdst : mid[m].dst = o'.dst := by
    have := hoo
    unfold okO at this
    simp only [Bool.and_eq_true, beq_iff_eq] at this
    exact this.1.1.2
  have hdn : ∀ d, o'.dst = some d → d < n := by
    have := hoo
    unfold okO at this
    simp only [Bool.and_eq_true] at this
    intro d hd
    have := this.1.2
    rw [hd] at this
    simpa using this
  have hgd := hoo
  unfold okO at hgd
  simp only [Bool.and_eq_true] at hgd
  replace hgd := hgd.2
  have hdf : ∀ t, mid[m].dst = some t → t ≠ s ∧ t ≠ d0 ∧ t ≠ d1 := fun t ht => D.free m hm t (by simp [ht])
  rw [hSt, hA, hB] at h
  have eS' : ∀ t, get (putd (stB s d0 d1 T' k' rows r2 false false (S 0) (runsS (steps mid xs 1 S) ρ)) mid[m].dst (xs[m]'(by omega))) t = get (St fun j => j == m + 1 || S j) t := fun t => by
    have e1 : (mid.length + 2 == m + 1) = false := by simp; omega
    have e2 : (mid.length + 1 == m + 1) = false := by simp; omega
    have e3 : (0 == m + 1) = false := by simp
    rw [stB_put hdf, hSt]
    simp only [e1, e2, e3, hA, hB, Bool.false_or]
    exact (stB_congr hnext t).symm
  have hL2 : Loc C mid[m] (stB s d0 d1 T' k' rows r2 false false (S 0) (runsS (steps mid xs 1 S) ρ)) σ (xs[m]'(by omega)) := hL.congr fun t ht => by
    rw [hgetL t ht, stB_free (D.free m hm t (by simp [ht]))]
  have exec : calmO C mid[m].op (stB s d0 d1 T' k' rows r2 false false (S 0) (runsS (steps mid xs 1 S) ρ)) σ (fun v => v = xs[m]'(by omega)) → o'.wp C.P a w (Lift M bm pr w n fun ρ' σ' => (∀ t, get ρ' t = get (St fun j => j == m + 1 || S j) t) ∧ σ' = σ) (LiftX M bm pr w n fun _ _ _ => False) := fun hc =>
    done _ (fun ρ' σ' ⟨e1, e2⟩ => ⟨fun t => by rw [e1]; exact eS' t, e2⟩) (runO_sound (Q := fun _ _ _ => False) (hG.mono hl) h hoo (calm_run hc))
  unfold Loc at hL2
  split at hL2
  · rename_i hg
    rw [if_pos (gt _ hlo hg)]
    exact exec hL2
  · rename_i t want hg
    rw [hg] at hgd
    split at hgd
    · rename_i e _; cases e
    · rename_i t' b' j b'' e hg2
      cases e
      simp only [Bool.and_eq_true, beq_iff_eq] at hgd
      obtain ⟨rfl, hj⟩ := hgd
      split at hL2
      · rename_i b hb
        have hy := yield_sound h hb hj
        by_cases hbw : b = want
        · rw [if_pos (by simp [Region.wanted, hg2, hy, hbw])]
          exact exec (hL2.1 hbw)
        · rw [if_neg (by simp [Region.wanted, hg2, hy, hbw])]
          have hx := hL2.2 hbw
          refine (h.putd hdn rep_un (by simp)).congr fun t => ?_
          rw [← eS' t, hx, hdst]
      · rename_i hb
        have hy := yield_un h hb hj
        rw [if_neg (by simp [Region.wanted, hg2, hy])]
        refine (h.putd hdn rep_un (by simp)).congr fun t => ?_
        rw [← eS' t, hL2, hdst]
      · exact hL2.elim
    · cases hgd
end
end Go.Proofs.Ytinenohgemndiaa
namespace Go.Proofs.Ytinenohgemndiaa
open Go.RowKit
section
variable {C : Cx} {pr : Prot} {n : Nat} {Q : AEx → Slots → List (List V) → Prop}
theorem draw_genX {M0 : Facts} {bm0 : List Nat} {w0 : World} {id : Nat} {ops : Array Oper} {M : Facts} {bm : List Nat} {tk : Toks} {a : Act} {w : World} (St : (Nat → Bool) → Slots) (Sg : (Nat → Bool) → List (List V)) (ρf : Slots) (σf : List (List V)) (I : (Nat → Bool) → Prop) (hI0 : I fun _ => false) (hIext : ∀ S S', (∀ j, j < ops.size → S j = S' j) → I S → I S')
    (hlt : ∀ (i : Nat) (o : Oper), ops.toList[i]? = some o → ∀ j ∈ edgesOf o, j < i)
    (hext : ∀ S S', (∀ j, j < ops.size → S j = S' j) → (∀ t, get (St S) t = get (St S') t) ∧ Sg S = Sg S')
    (hl : Later M0 bm0 pr w0 M bm w) (h : SRel M bm tk pr (St fun _ => false) (Sg fun _ => false) n a w)
    (hf : I (fun _ => true) → ((∀ t, get ρf t = get (St fun _ => true) t) ∧ σf = Sg fun _ => true) ∧ Q .normal ρf σf)
    (step : ∀ (S : Nat → Bool) (i : Nat) (o : Oper), ops.toList[i]? = some o → S i = false → (∀ (j : Nat) (p : Oper), ops.toList[j]? = some p → S j = true → ∀ e ∈ edgesOf p, S e = true) → (∀ e ∈ edgesOf o, S e = true) →
      I S → ∀ (M : Facts) (bm : List Nat) (tk : Toks) (a : Act) (w : World), Later M0 bm0 pr w0 M bm w → SRel M bm tk pr (St S) (Sg S) n a w →
        if Region.wanted o (yielded ops a.tmps) then o.wp C.P a w (Lift M bm pr w n fun ρ' σ' => (∀ t, get ρ' t = get (St fun j => j == i || S j) t) ∧ σ' = (Sg fun j => j == i || S j) ∧ I fun j => j == i || S j) (LiftX M bm pr w n Q)
        else SRel M bm tk pr (St fun j => j == i || S j) (Sg fun j => j == i || S j) n (a.put o.dst undef) w ∧ I fun j => j == i || S j) :
    (Code.region id ops true).wp C.P (LiftX M0 bm0 pr w0 n Q) a w := by
  refine wp_region_any C.mixed ?_
  suffices H : ∀ (fuel : Nat) (listed : Array Bool) (M : Facts) (bm : List Nat) (tk : Toks) (a : Act) (w : World), Later M0 bm0 pr w0 M bm w → SRel M bm tk pr (St fun i => listed.getD i false) (Sg fun i => listed.getD i false) n a w → I (fun i => listed.getD i false) → listed.size = ops.size →
      (∀ (i : Nat) (o : Oper), ops.toList[i]? = some o → listed.getD i false = true → ∀ j ∈ edgesOf o, listed.getD j false = true) → (listed.toList.filter (! ·)).length = fuel → wpAny C.P .any ops (LiftX M0 bm0 pr w0 n Q) fuel listed a w by
    obtain ⟨h1, h2⟩ := h.ext (Grows.drew w)
    have hrep : ∀ j, (Array.replicate ops.size false).getD j false = false := fun j => by
      simp only [Array.getD_eq_getD_getElem?, Array.getElem?_replicate]
      split <;> rfl
    obtain ⟨e1, e2⟩ := hext (fun i => (Array.replicate ops.size false).getD i false) (fun _ => false) (fun j _ => hrep j)
    refine H ops.size (Array.replicate ops.size false) M bm tk a w.drew (hl.trans h2 (fun _ h => h)) ?_ (hIext _ _ (fun j _ => (hrep j).symm) hI0) (by simp) (fun i o ho hi => ?_) (by simp)
    · rw [e2]; exact h1.congr e1
    · rw [hrep] at hi; cases hi
  intro fuel
  induction fuel with
  | zero =>
    intro listed M bm tk a w hl h hI hsz hcl hcnt
    have hall : ∀ i, i < ops.size → listed.getD i false = true := fun i hi => by
      have hb : listed[i]? = some (listed[i]'(by omega)) := Array.getElem?_eq_getElem _
      rw [Array.getD_eq_getD_getElem?, hb, Option.getD_some]
      have hne : listed.toList.filter (! ·) = [] := List.eq_nil_of_length_eq_zero hcnt
      have := List.filter_eq_nil_iff.1 hne (listed[i]'(by omega)) (by simp)
      simpa using this
    obtain ⟨e1, e2⟩ := hext (fun i => listed.getD i false) (fun _ => true) hall
    obtain ⟨hf, hq⟩ := hf (hIext _ _ hall hI)
    refine ⟨?_, M, bm, tk, ρf, σf, .normal, hq, .normal, ?_, hl⟩
    · unfold Region.ready
      rw [List.filter_eq_nil_iff]
      intro i hi
      have hi' : i < ops.size := by simpa using hi
      have h9 := hall i hi'
      have : listed.getD i true = true := by
        have hb : listed[i]? = some (listed[i]'(by omega)) := Array.getElem?_eq_getElem _
        rw [Array.getD_eq_getD_getElem?, hb, Option.getD_some] at h9 ⊢
        exact h9
      simp [this]
    · rw [hf.2, ← e2]
      exact h.congr fun t => (hf.1 t).trans (e1 t).symm
  | succ fuel ih =>
    intro listed M bm tk a w hl h hI hsz hcl hcnt
    refine ⟨fun hnil => ?_, fun i hi => ?_⟩
    · exfalso
      have hex : ∃ i, i < ops.size ∧ listed.getD i false = false := by
        apply Classical.byContradiction
        intro hno
        have hne : listed.toList.filter (! ·) = [] := by
          rw [List.filter_eq_nil_iff]
          intro b hb
          obtain ⟨i, hi, rfl⟩ := List.getElem_of_mem hb
          have hi' : i < listed.size := by simpa using hi
          have h9 : ¬ listed.getD i false = false := fun e => hno ⟨i, by omega, e⟩
          have hb : listed[i]? = some listed[i] := Array.getElem?_eq_getElem hi'
          rw [Array.getD_eq_getD_getElem?, hb, Option.getD_some] at h9
          simpa using h9
        rw [hne] at hcnt
        simp at hcnt
      have hmin : ∃ i, i < ops.size ∧ listed.getD i false = false ∧ ∀ j, j < i → listed.getD j false = true := by
        obtain ⟨i, h1, h2⟩ := hex
        induction i using Nat.strongRecOn with
        | _ i ihm =>
        by_cases hj : ∃ j, j < i ∧ listed.getD j false = false
        · obtain ⟨j, g1, g2⟩ := hj; exact ihm j g1 (by omega) g2
        · exact ⟨i, h1, h2, fun j hji => by
            cases hb : listed.getD j false with
            | true => rfl
            | false => exact absurd ⟨j, hji, hb⟩ hj⟩
      obtain ⟨i, h1, h2, h3⟩ := hmin
      have hio : i < ops.toList.length := by simpa using h1
      have : i ∈ Region.ready .any ops listed := by
        unfold Region.ready
        rw [List.mem_filter]
        refine ⟨by simp; omega, ?_⟩
        have ht : listed.getD i true = false := by
          have hb : listed[i]? = some (listed[i]'(by omega)) := Array.getElem?_eq_getElem _
          rw [Array.getD_eq_getD_getElem?, hb, Option.getD_some] at h2 ⊢
          exact h2
        have ho : ops[i]? = some (ops[i]'(by omega)) := Array.getElem?_eq_getElem _
        rw [ht, ho]
        simp only [Bool.not_false, Bool.true_and, Option.map_some, Option.getD_some]
        rw [← Array.all_toList, List.all_eq_true]
        intro e he
        cases hb : Region.binds .any e with
        | false => rfl
        | true =>
          have : e.on ∈ edgesOf (ops[i]'(by omega)) := by
            unfold edgesOf
            exact List.mem_map.2 ⟨e, List.mem_filter.2 ⟨he, hb⟩, rfl⟩
          simp [h3 e.on (hlt i _ (by rw [List.getElem?_eq_getElem hio]; simp) e.on this)]
      rw [hnil] at this
      cases this
    · unfold Region.ready at hi
      rw [List.mem_filter] at hi
      obtain ⟨hir, hic⟩ := hi
      have hi1 : i < ops.size := by simpa using hir
      have ho : ops[i]? = some ops[i] := Array.getElem?_eq_getElem hi1
      have hoL : ops.toList[i]? = some ops[i] := by rw [Array.getElem?_toList]; exact ho
      rw [ho] at hic
      simp only [Option.map_some, Option.getD_some, Bool.and_eq_true, Bool.not_eq_true'] at hic
      obtain ⟨hun, hed⟩ := hic
      have hun' : listed[i]? = some false := by
        have hb : listed[i]? = some (listed[i]'(by omega)) := Array.getElem?_eq_getElem _
        rw [Array.getD_eq_getD_getElem?, hb, Option.getD_some] at hun
        rw [hb, hun]
      have hunf : listed.getD i false = false := by rw [Array.getD_eq_getD_getElem?, hun']; rfl
      have hedge : ∀ j ∈ edgesOf ops[i], listed.getD j false = true := by
        intro j hj
        unfold edgesOf at hj
        obtain ⟨e, he, rfl⟩ := List.mem_map.1 hj
        rw [List.mem_filter] at he
        rw [← Array.all_toList, List.all_eq_true] at hed
        have := hed e he.1
        simpa [he.2] using this
      have hset : ∀ j, (listed.setIfInBounds i true).getD j false = (j == i || listed.getD j false) := fun j => by
        rw [Array.getD_eq_getD_getElem?, Array.getD_eq_getD_getElem?]
        by_cases e : j = i
        · subst e; rw [Array.getElem?_setIfInBounds_self_of_lt (by omega)]; simp
        · rw [Array.getElem?_setIfInBounds_ne (Ne.symm e)]; simp [e]
      have hnextcl : ∀ (q : Nat) (o : Oper), ops.toList[q]? = some o → (listed.setIfInBounds i true).getD q false = true → ∀ j ∈ edgesOf o, (listed.setIfInBounds i true).getD j false = true := by
        intro q o hqo hql j hj
        rw [hset] at hql ⊢
        simp only [Bool.or_eq_true, beq_iff_eq] at hql ⊢
        rcases hql with rfl | hql
        · rw [hoL] at hqo; cases hqo
          exact .inr (hedge j hj)
        · exact .inr (hcl q o hqo hql j hj)
      have hnextc : ((listed.setIfInBounds i true).toList.filter (! ·)).length = fuel := by
        have := set_count listed.toList i (by rw [Array.getElem?_toList]; exact hun')
        rw [Array.toList_setIfInBounds]
        omega
      obtain ⟨e1, e2⟩ := hext (fun j => (listed.setIfInBounds i true).getD j false) (fun j => j == i || listed.getD j false) (fun j _ => hset j)
      have hst := step (fun j => listed.getD j false) i ops[i] hoL hunf hcl hedge hI M bm tk a w hl h
      unfold wpOp
      rw [ho]
      simp only
      split at hst
      · rename_i hw
        rw [if_pos hw]
        refine .inl (Oper.wp_mono2 (fun a' w' hL => ?_) (fun e a' w' hL => ?_) hst)
        · obtain ⟨M', bm', tk', ρ', σ', ⟨k0, rfl, kI⟩, k2, k3⟩ := hL
          refine ih _ M' bm' tk' a' w' (hl.trans k3 (fun _ h => h)) ?_ (hIext _ _ (fun j _ => (hset j).symm) kI) (by simp [hsz]) hnextcl hnextc
          rw [e2]
          exact k2.congr fun t => (e1 t).trans (k0 t).symm
        · exact LiftX.trans hl hL
      · rename_i hw
        rw [if_neg hw]
        refine ih _ M bm tk _ w hl ?_ (hIext _ _ (fun j _ => (hset j).symm) hst.2) (by simp [hsz]) hnextcl hnextc
        rw [e2]
        exact hst.1.congr e1
end
def xL (pre : List O) (d : Option Nat) (f : FuncId) (args : List X) (post : List O) (kk : Nat) (y z : X) : List O := pre ++ ⟨d, .call f args, none⟩ :: (post ++ [⟨none, .sto kk y z, none⟩])
section
variable {pre post : List O} {d : Option Nat} {f : FuncId} {args : List X} {kk : Nat} {y z : X}
theorem xL_len : (xL pre d f args post kk y z).length = pre.length + post.length + 2 := by simp [xL]; omega
theorem xL_pre {i : Nat} (h : i < pre.length) : (xL pre d f args post kk y z)[i]? = some pre[i] := by
  unfold xL; rw [List.getElem?_append_left h, List.getElem?_eq_getElem h]
theorem xL_call : (xL pre d f args post kk y z)[pre.length]? = some ⟨d, .call f args, none⟩ := by
  unfold xL; rw [List.getElem?_append_right (Nat.le_refl _)]; simp
theorem xL_post {m : Nat} (h : m < post.length) : (xL pre d f args post kk y z)[pre.length + 1 + m]? = some post[m] := by
  unfold xL
  rw [List.getElem?_append_right (by omega), show pre.length + 1 + m - pre.length = m + 1 by omega, List.getElem?_cons_succ, List.getElem?_append_left h, List.getElem?_eq_getElem h]
theorem xL_sto : (xL pre d f args post kk y z)[pre.length + 1 + post.length]? = some ⟨none, .sto kk y z, none⟩ := by
  unfold xL
  rw [List.getElem?_append_right (by omega), show pre.length + 1 + post.length - pre.length = post.length + 1 by omega, List.getElem?_cons_succ, List.getElem?_append_right (Nat.le_refl _)]; simp
end
def drawXOK (np nq : Nat) (l : List O) (os : List Oper) : Bool :=
  let bf := beforeL os []
  ((List.range os.length).all fun i => match os[i]? with | some o => (edgesOf o).all fun j => decide (j < i) | none => true) &&
  (((List.range l.length).all fun i => match l[i]? with
    | some o => (o.looksN ++ o.dst.toList).all fun t => (List.range l.length).all fun j => j == i || (match l[j]? with
        | some q => q.dst != some t || (if j < i then (bf.getD i []).contains j else (bf.getD j []).contains i)
        | none => true)
    | none => true) &&
  (((List.range nq).all fun m => (bf.getD (np + 1 + m) []).contains np) &&
  (((List.range (np + 1 + nq)).all fun i => (bf.getD (np + 1 + nq) []).contains i) &&
  ((List.range np).all fun i => match l[i]? with
    | some o => o.dst.isSome && (List.range np).all fun j => j == i || (match l[j]? with | some q => q.dst != o.dst | none => true)
    | none => true))))
structure OKX (np nq : Nat) (l : List O) (os : List Oper) : Prop where
  lt : ∀ (i : Nat) (o : Oper), os[i]? = some o → ∀ j ∈ edgesOf o, j < i
  cmp : ∀ (i : Nat) (o : O), l[i]? = some o → ∀ t ∈ o.looksN ++ o.dst.toList, ∀ (j : Nat) (q : O), l[j]? = some q → q.dst = some t → j ≠ i → (j < i ∧ j ∈ (beforeL os []).getD i []) ∨ (i < j ∧ i ∈ (beforeL os []).getD j [])
  after : ∀ m, m < nq → np ∈ (beforeL os []).getD (np + 1 + m) []
  last : ∀ i, i < np + 1 + nq → i ∈ (beforeL os []).getD (np + 1 + nq) []
  pdst : ∀ (i : Nat) (o : O), i < np → l[i]? = some o → ∃ t, o.dst = some t ∧ ∀ (j : Nat) (q : O), j < np → l[j]? = some q → j ≠ i → q.dst ≠ some t
theorem drawXOK_ok {np nq : Nat} {l : List O} {os : List Oper} (h : drawXOK np nq l os = true) : OKX np nq l os := by
  unfold drawXOK at h
  simp only [Bool.and_eq_true] at h
  obtain ⟨h1, h2, h3, h4, h5⟩ := h
  simp only [List.all_eq_true, List.mem_range] at h1 h2 h3 h4 h5
  refine ⟨fun i o ho j hj => ?_, fun i o ho t ht j q hp hd hne => ?_, fun m hm => by simpa using h3 m hm, fun i hi => by simpa using h4 i hi, fun i o hi ho => ?_⟩
  · have := h1 i (List.getElem?_eq_some_iff.1 ho).1
    rw [ho] at this
    simpa using List.all_eq_true.1 this j hj
  · have h1 := h2 i (List.getElem?_eq_some_iff.1 ho).1
    rw [ho] at h1
    simp only [List.all_eq_true, List.mem_range] at h1
    have h2 := h1 t ht j (List.getElem?_eq_some_iff.1 hp).1
    rw [hp] at h2
    simp only [hd, Bool.or_eq_true, beq_iff_eq, bne_self_eq_false, Bool.false_eq_true, false_or] at h2
    rcases h2 with h2 | h2
    · exact absurd h2 hne
    · split at h2
      · exact .inl ⟨by assumption, by simpa using h2⟩
      · exact .inr ⟨by omega, by simpa using h2⟩
  · have := h5 i hi
    rw [ho] at this
    simp only [Bool.and_eq_true, List.all_eq_true, List.mem_range] at this
    obtain ⟨g1, g2⟩ := this
    obtain ⟨t, ht⟩ := Option.isSome_iff_exists.1 g1
    refine ⟨t, ht, fun j q hj hq hne hd => ?_⟩
    have := g2 j hj
    rw [hq] at this
    simp only [hd, ht, Bool.or_eq_true, beq_iff_eq, bne_self_eq_false, Bool.false_eq_true, or_false] at this
    exact hne this
theorem steps_off : ∀ {l : List O} {xs : List V} {k : Nat} {S : Nat → Bool}, (∀ j, k ≤ j → S j = false) → ∀ p ∈ steps l xs k S, p.2.2 = false
  | [], _, _, _, _, p, hp => by simp [steps] at hp
  | _ :: _, [], _, _, _, p, hp => by simp [steps] at hp
  | o :: l, x :: xs, k, S, h, p, hp => by
    simp only [steps, List.mem_cons] at hp
    rcases hp with rfl | hp
    · exact h k (Nat.le_refl _)
    · exact steps_off (fun j hj => h j (by omega)) p hp
theorem steps_same : ∀ {l : List O} {xs : List V} {k : Nat} {S S' : Nat → Bool}, (∀ j, k ≤ j → j < k + l.length → S j = S' j) → steps l xs k S = steps l xs k S'
  | [], _, _, _, _, _ => by simp [steps]
  | _ :: _, [], _, _, _, _ => by simp [steps]
  | o :: l, x :: xs, k, S, S', h => by
    simp only [steps]
    rw [h k (Nat.le_refl _) (by simp), steps_same (l := l) (xs := xs) (k := k + 1) fun j h1 h2 => h j (by omega) (by simp only [List.length_cons]; omega)]
theorem steps_app : ∀ {a b : List O} {xs ys : List V} {k : Nat} {S : Nat → Bool}, xs.length = a.length → steps (a ++ b) (xs ++ ys) k S = steps a xs k S ++ steps b ys (k + a.length) S
  | [], _, [], _, _, _, _ => rfl
  | o :: a, b, x :: xs, ys, k, S, h => by
    simp only [List.cons_append, steps, List.length_cons]
    rw [steps_app (by simpa using h), show k + 1 + a.length = k + (a.length + 1) by omega]
  | [], _, _ :: _, _, _, _, h => by simp at h
  | _ :: _, _, [], _, _, _, h => by simp at h
theorem runsS_off {l : List (Option Nat × V × Bool)} (h : ∀ p ∈ l, p.2.2 = false) (ρ : Slots) (t : Nat) : get (runsS l ρ) t = get ρ t := runsS_none l ρ t fun p hp _ => h p hp
section
variable {C : Cx} {pr : Prot} {ρ : Slots} {σ : List (List V)} {n : Nat} {Q : AEx → Slots → List (List V) → Prop}
def awpX (C : Cx) (pre : List O) (d : Option Nat) (f : FuncId) (args : List X) (post : List O) (kk : Nat) (y z : X) (ρ : Slots) (σ : List (List V)) (K : Slots → List (List V) → Prop) (P : V → List (List V) → Prop) : Prop :=
  awpCalm C pre ρ σ fun ρ1 =>
    (∃ v σ1, Fun C f (args.map fun x => (ev C ρ1 x).lend) σ (fun o σ' => o = .ret v ∧ σ' = σ1) ∧ awpCalm C pre ρ σ1 (fun ρ' => ρ' = ρ1) ∧ awpCalm C post (putd ρ1 d v) σ1 fun ρ2 =>
      ∃ i off cs, ev C ρ2 y = .ptr i off ∧ σ1[i]? = some cs ∧ ((ev C ρ2 z).boxable = true ∧ (ev C ρ2 z).cells.length = kk ∧ off + kk ≤ cs.length ∧ noMap cs = true) ∧ K ρ2 (σ1.set i (over cs off (ev C ρ2 z).cells))) ∨
    Fun C f (args.map fun x => (ev C ρ1 x).lend) σ (fun o σ' => ∃ u, o = .panic u ∧ P u σ')
theorem one_calm {M : Facts} {bm : List Nat} {tk : Toks} {a : Act} {w : World} {ops : Array Oper} {o : O} {o' : Oper} {x : V} (hG : C.glob M pr w) (h : SRel M bm tk pr ρ σ n a w) (hoo : okO C.tab n ops o o' = true) (hL : Loc C o ρ σ x) :
    if Region.wanted o' (yielded ops a.tmps) then o'.wp C.P a w (Lift M bm pr w n fun ρ' σ' => ρ' = putd ρ o.dst x ∧ σ' = σ) (LiftX M bm pr w n Q) else SRel M bm tk pr (putd ρ o.dst x) σ n (a.put o'.dst undef) w := by
  have hdst : o.dst = o'.dst := by
    have := hoo
    unfold okO at this
    simp only [Bool.and_eq_true, beq_iff_eq] at this
    exact this.1.1.2
  have hdn : ∀ d, o'.dst = some d → d < n := by
    have := hoo
    unfold okO at this
    simp only [Bool.and_eq_true] at this
    intro d hd
    have := this.1.2
    rw [hd] at this
    simpa using this
  have hgd := hoo
  unfold okO at hgd
  simp only [Bool.and_eq_true] at hgd
  replace hgd := hgd.2
  have exec : calmO C o.op ρ σ (fun v => v = x) → o'.wp C.P a w (Lift M bm pr w n fun ρ' σ' => ρ' = putd ρ o.dst x ∧ σ' = σ) (LiftX M bm pr w n Q) := fun hc =>
    Oper.wp_mono2 (fun _ _ hh => hh) (fun e a' w' ⟨_, _, _, _, _, _, hf, _⟩ => hf.elim) (runO_sound (Q := fun _ _ _ => False) hG h hoo (calm_run hc))
  unfold Loc at hL
  split at hL
  · rename_i hg
    rw [hg] at hgd
    split at hgd
    · rename_i hg2
      rw [if_pos (by simp [Region.wanted, hg2])]
      exact exec hL
    · rename_i e _; cases e
    · cases hgd
  · rename_i t want hg
    rw [hg] at hgd
    split at hgd
    · rename_i e _; cases e
    · rename_i t' b' j b'' e hg2
      cases e
      simp only [Bool.and_eq_true, beq_iff_eq] at hgd
      obtain ⟨rfl, hj⟩ := hgd
      split at hL
      · rename_i b hb
        have hy := yield_sound h hb hj
        by_cases hbw : b = want
        · rw [if_pos (by simp [Region.wanted, hg2, hy, hbw])]
          exact exec (hL.1 hbw)
        · rw [if_neg (by simp [Region.wanted, hg2, hy, hbw])]
          rw [hL.2 hbw, hdst]
          exact h.putd hdn rep_un (by simp)
      · rename_i hb
        have hy := yield_un h hb hj
        rw [if_neg (by simp [Region.wanted, hg2, hy])]
        rw [hL, hdst]
        exact h.putd hdn rep_un (by simp)
      · exact hL.elim
    · cases hgd
theorem looks_sub (o : O) : ∀ t ∈ o.looks, t ∈ o.looksN := by
  intro t ht
  unfold O.looks at ht
  unfold O.looksN
  rw [List.mem_append] at ht ⊢
  refine ht.imp (fun h => ?_) id
  cases ho : o.op <;> rw [ho] at h <;> first | exact h | (simp [OP.slots] at h)
theorem nextR {L : List O} {X : List V} (hX : X.length = L.length) (ρ : Slots) {S : Nat → Bool} {i : Nat} {o : O} {x : V} (ho : L[i]? = some o) (hx : X[i]? = some x) (hSi : S i = false)
    (hsame : ∀ t ∈ o.looksN ++ o.dst.toList, ∀ (j : Nat) (q : O), L[j]? = some q → j ≠ i → q.dst = some t → S j = decide (j < i)) :
    (∀ t ∈ o.looksN, get (runsS (steps L X 0 fun j => decide (j < i)) ρ) t = get (runsS (steps L X 0 S) ρ) t) ∧
    ∀ t, get (runsS (steps L X 0 fun j => j == i || S j) ρ) t = get (putd (runsS (steps L X 0 S) ρ) o.dst x) t := by
  have hi := (List.getElem?_eq_some_iff.1 ho).1
  have hoi : L[i] = o := (List.getElem?_eq_some_iff.1 ho).2
  have hxi : X[i]'(by omega) = x := by rw [List.getElem?_eq_getElem (by omega)] at hx; exact Option.some.inj hx
  have hsteps : ∀ S : Nat → Bool, (steps L X 0 S).length = L.length := fun S => steps_len L X 0 S hX
  have hsg : ∀ (S : Nat → Bool) (i : Nat) (hi : i < (steps L X 0 S).length) (h1 : i < L.length), (steps L X 0 S)[i] = (L[i].dst, X[i]'(by omega), S i) := fun S i hi h1 => by
    have := steps_get L X 0 S i hi h1 (by omega)
    simpa using this
  refine ⟨fun t ht => ?_, fun t => ?_⟩
  · refine runsS_congr _ _ ρ t (by rw [hsteps, hsteps]) (fun j g1 g2 => ?_)
    rw [hsteps] at g1
    rw [hsg _ j (by rw [hsteps]; exact g1) g1, hsg _ j (by rw [hsteps]; exact g1) g1]
    refine ⟨rfl, rfl, fun hd => ?_⟩
    by_cases e : j = i
    · subst e; rw [hSi]; simp
    · exact (hsame t (by simp [ht]) j _ (List.getElem?_eq_getElem g1) e hd).symm
  · rw [get_putd]
    split
    · rename_i e
      have := runsS_last (steps L X 0 fun j => j == i || S j) ρ i (by rw [hsteps]; exact hi) t (by rw [hsg _ i _ hi, hoi]; exact e) (by rw [hsg _ i _ hi]; simp) (fun j hj hij hd => by
        rw [hsteps] at hj
        rw [hsg _ j _ hj] at hd ⊢
        simp only at hd ⊢
        rw [hsame t (by simp [e]) j _ (List.getElem?_eq_getElem hj) (by omega) hd]
        simp; omega)
      rw [this, hsg _ i _ hi, hxi]
    · rename_i e
      refine runsS_congr _ _ ρ t (by rw [hsteps, hsteps]) (fun j g1 g2 => ?_)
      rw [hsteps] at g1
      rw [hsg _ j (by rw [hsteps]; exact g1) g1, hsg _ j (by rw [hsteps]; exact g1) g1]
      refine ⟨rfl, rfl, fun hd => ?_⟩
      simp only at hd ⊢
      have hne : j ≠ i := fun ee => by subst ee; rw [hoi] at hd; exact e hd
      simp [hne]
theorem stepsX {pre post : List O} {d : Option Nat} {f : FuncId} {args : List X} {kk : Nat} {y z : X} {xs ys : List V} {v : V} (hxl : xs.length = pre.length) (hyl : ys.length = post.length) (S : Nat → Bool) (ρ : Slots) :
    runsS (steps (xL pre d f args post kk y z) (xs ++ v :: (ys ++ [.junk])) 0 S) ρ = runsS (steps post ys (pre.length + 1) S) (if S pre.length then putd (runsS (steps pre xs 0 S) ρ) d v else runsS (steps pre xs 0 S) ρ) := by
  unfold xL
  rw [steps_app hxl, runsS_append]
  simp only [steps, Nat.zero_add, runsS]
  rw [steps_app hyl, runsS_append]
  simp only [steps, runsS, putd]
  split <;> rfl
theorem drawx_ret {M0 : Facts} {bm0 : List Nat} {w0 : World} (hG : C.glob M0 pr w0) {id : Nat} {ops : Array Oper} {pre post : List O} {d : Option Nat} {f : FuncId} {args : List X} {kk : Nat} {y z : X} {M : Facts} {bm : List Nat} {tk : Toks} {a : Act} {w : World} (hok : okOs C.tab n ops (xL pre d f args post kk y z) ops.toList = true) (hdr : drawXOK pre.length post.length (xL pre d f args post kk y z) ops.toList = true)
    (hl : Later M0 bm0 pr w0 M bm w) (h : SRel M bm tk pr ρ σ n a w) {v : V} {σ1 σf : List (List V)} {xs ys : List V} (hxl : xs.length = pre.length) (hyl : ys.length = post.length) {ρf : Slots}
    (hpre : ∀ i (hi : i < pre.length) (h' : i < xs.length), ∃ ρi, (∀ t, get ρi t = get (runsS (steps (xL pre d f args post kk y z) (xs ++ v :: (ys ++ [.junk])) 0 fun j => decide (j < i)) ρ) t) ∧ Loc C pre[i] ρi σ xs[i] ∧ Loc C pre[i] ρi σ1 xs[i])
    (hcall : ∃ ρi, (∀ t, get ρi t = get (runsS (steps (xL pre d f args post kk y z) (xs ++ v :: (ys ++ [.junk])) 0 fun j => decide (j < pre.length)) ρ) t) ∧ Fun C f (args.map fun x => (ev C ρi x).lend) σ (fun o σ' => o = .ret v ∧ σ' = σ1))
    (hpost : ∀ m (hm : m < post.length) (h' : m < ys.length), ∃ ρi, (∀ t, get ρi t = get (runsS (steps (xL pre d f args post kk y z) (xs ++ v :: (ys ++ [.junk])) 0 fun j => decide (j < pre.length + 1 + m)) ρ) t) ∧ Loc C post[m] ρi σ1 ys[m])
    (hsto : ∃ ρi, (∀ t, get ρi t = get (runsS (steps (xL pre d f args post kk y z) (xs ++ v :: (ys ++ [.junk])) 0 fun j => decide (j < pre.length + 1 + post.length)) ρ) t) ∧ ∃ i off cs, ev C ρi y = .ptr i off ∧ σ1[i]? = some cs ∧ ((ev C ρi z).boxable = true ∧ (ev C ρi z).cells.length = kk ∧ off + kk ≤ cs.length ∧ noMap cs = true) ∧ σf = σ1.set i (over cs off (ev C ρi z).cells))
    (hend : ∀ t, get ρf t = get (runsS (steps (xL pre d f args post kk y z) (xs ++ v :: (ys ++ [.junk])) 0 fun _ => true) ρ) t) (hQ : Q .normal ρf σf) :
    (Code.region id ops true).wp C.P (LiftX M0 bm0 pr w0 n Q) a w := by
  obtain ⟨hlen, hget⟩ := okOs_get hok
  have D := drawXOK_ok hdr
  have hLl := xL_len (pre := pre) (d := d) (f := f) (args := args) (post := post) (kk := kk) (y := y) (z := z)
  have gpre := fun i (hi : i < pre.length) => xL_pre (d := d) (f := f) (args := args) (post := post) (kk := kk) (y := y) (z := z) hi
  have gcall := xL_call (pre := pre) (d := d) (f := f) (args := args) (post := post) (kk := kk) (y := y) (z := z)
  have gpost := fun m (hm : m < post.length) => xL_post (pre := pre) (d := d) (f := f) (args := args) (kk := kk) (y := y) (z := z) hm
  have gsto := xL_sto (pre := pre) (d := d) (f := f) (args := args) (post := post) (kk := kk) (y := y) (z := z)
  generalize hL : xL pre d f args post kk y z = L at *
  obtain ⟨X, hX⟩ : ∃ X, X = xs ++ v :: (ys ++ [V.junk]) := ⟨_, rfl⟩
  rw [← hX] at hpre hcall hpost hsto hend
  have hXl : X.length = L.length := by rw [hLl, hX]; simp [hxl, hyl]; omega
  have xpre : ∀ i (hi : i < xs.length), X[i]? = some xs[i] := fun i hi => by rw [hX, List.getElem?_append_left hi, List.getElem?_eq_getElem hi]
  have xcall : X[pre.length]? = some v := by rw [hX, List.getElem?_append_right (by omega), hxl]; simp
  have xpost : ∀ m (hm : m < ys.length), X[pre.length + 1 + m]? = some ys[m] := fun m hm => by
    rw [hX, List.getElem?_append_right (by omega), hxl, show pre.length + 1 + m - pre.length = m + 1 by omega, List.getElem?_cons_succ, List.getElem?_append_left hm, List.getElem?_eq_getElem hm]
  have xsto : X[pre.length + 1 + post.length]? = some .junk := by
    rw [hX, List.getElem?_append_right (by omega), hxl, show pre.length + 1 + post.length - pre.length = post.length + 1 by omega, List.getElem?_cons_succ, List.getElem?_append_right (by omega), hyl]; simp
  have hnl : L.length = ops.size := by rw [hlen]; simp
  obtain ⟨St, hSt⟩ : ∃ St : (Nat → Bool) → Slots, ∀ S, St S = runsS (steps L X 0 S) ρ := ⟨fun S => runsS (steps L X 0 S) ρ, fun _ => rfl⟩
  obtain ⟨Sg, hSg⟩ : ∃ Sg : (Nat → Bool) → List (List V), ∀ S, Sg S = if S (pre.length + 1 + post.length) = true then σf else if S pre.length = true then σ1 else σ := ⟨fun S => if S (pre.length + 1 + post.length) = true then σf else if S pre.length = true then σ1 else σ, fun _ => rfl⟩
  refine draw_genX (M := M) (bm := bm) (tk := tk) St Sg ρf σf (fun _ => True) trivial (fun _ _ _ _ => trivial) D.lt (fun S S' hS => ⟨fun t => ?_, ?_⟩) hl ?_ (fun _ => ⟨⟨fun t => ?_, ?_⟩, hQ⟩) ?_
  · rw [hSt, hSt, steps_same (l := L) (xs := X) (k := 0) (S := S) (S' := S') fun j _ hj => hS j (by omega)]
  · rw [hSg, hSg, hS _ (by omega), hS _ (by omega)]
  · have h0 : Sg (fun _ => false) = σ := by rw [hSg]; simp
    rw [h0]
    exact h.congr fun t => by rw [hSt]; exact runsS_off (steps_off fun _ _ => rfl) ρ t
  · rw [hSt]; exact hend t
  · rw [hSg]; simp
  intro S i o' ho' hSi hclo hedge _ M bm tk a w hl h
  have hi1 : i < ops.toList.length := (List.getElem?_eq_some_iff.1 ho').1
  have hi2 : i < L.length := by omega
  have hbef : ∀ j ∈ (beforeL ops.toList []).getD i [], S j = true := before_closed D.lt (S := fun j => S j = true) hclo i o' ho' hedge
  have hbefj : ∀ q, q < L.length → S q = true → ∀ j ∈ (beforeL ops.toList []).getD q [], S j = true := fun q hq hSq => by
    have hq2 : ops.toList[q]? = some ops.toList[q] := List.getElem?_eq_getElem (by omega)
    exact before_closed D.lt (S := fun j => S j = true) hclo q _ hq2 (hclo q _ hq2 hSq)
  have hsame : ∀ o, L[i]? = some o → ∀ t ∈ o.looksN ++ o.dst.toList, ∀ (j : Nat) (q : O), L[j]? = some q → j ≠ i → q.dst = some t → S j = decide (j < i) := by
    intro o hlo t ht j q hj hne hd
    rcases D.cmp i o hlo t ht j q hj hd hne with ⟨g1, g2⟩ | ⟨g1, g2⟩
    · rw [hbef j g2]; simp [g1]
    · have : ¬ S j = true := fun hjl => by
        have := hbefj j (List.getElem?_eq_some_iff.1 hj).1 hjl i g2
        rw [hSi] at this; cases this
      have e : S j = false := by simpa using this
      rw [e]; simp; omega
  have noP : i ≠ pre.length + 1 + post.length → S (pre.length + 1 + post.length) = false := fun hne => by
    have : ¬ S (pre.length + 1 + post.length) = true := fun hh => by
      have := hbefj _ (by omega) hh i (D.last i (by omega))
      rw [hSi] at this; cases this
    simpa using this
  have wrapC : ∀ (o : O) (x : V) (σ2 : List (List V)), L[i]? = some o → X[i]? = some x → Sg S = σ2 → (Sg fun j => j == i || S j) = σ2 → Loc C o (runsS (steps L X 0 S) ρ) σ2 x → 
      if Region.wanted o' (yielded ops a.tmps) then o'.wp C.P a w (Lift M bm pr w n fun ρ' σ' => (∀ t, get ρ' t = get (St fun j => j == i || S j) t) ∧ σ' = (Sg fun j => j == i || S j) ∧ True) (LiftX M bm pr w n Q)
      else SRel M bm tk pr (St fun j => j == i || S j) (Sg fun j => j == i || S j) n (a.put o'.dst undef) w ∧ True := by
    intro o x σ2 hlo hx e1 e2 hLoc
    obtain ⟨-, hn⟩ := nextR hXl ρ hlo hx hSi (hsame o hlo)
    rw [hSt, e1] at h
    have := one_calm (Q := Q) (hG.mono hl) h (hget i o o' hlo ho') hLoc
    rw [e2]
    split at this
    · rename_i hw
      rw [if_pos hw]
      exact Oper.wp_mono2 (fun a' w' ⟨M', bm', tk', ρ', σ', ⟨k1, k2⟩, k3, k4⟩ => ⟨M', bm', tk', ρ', σ', ⟨fun t => by rw [k1, hSt]; exact (hn t).symm, k2, trivial⟩, k3, k4⟩) (fun e a' w' hh => hh) this
    · rename_i hw
      rw [if_neg hw]
      exact ⟨this.congr fun t => by rw [hSt]; exact hn t, trivial⟩
  by_cases c1 : i < pre.length
  · obtain ⟨ρi, g1, g2, g3⟩ := hpre i c1 (by omega)
    obtain ⟨hgl, -⟩ := nextR hXl ρ (gpre i c1) (xpre i (by omega)) hSi (hsame _ (gpre i c1))
    have hP := noP (by omega)
    have ne1 : (pre.length + 1 + post.length == i) = false := by simp; omega
    have ne2 : (pre.length == i) = false := by simp; omega
    have cg : ∀ t ∈ pre[i].looks, get ρi t = get (runsS (steps L X 0 S) ρ) t := fun t ht => by rw [g1 t]; exact hgl t (looks_sub _ t ht)
    cases hn : S pre.length with
    | true => exact wrapC _ _ σ1 (gpre i c1) (xpre i (by omega)) (by rw [hSg, hP, hn]; simp) (by rw [hSg]; simp [ne1, ne2, hP, hn]) (g3.congr cg)
    | false => exact wrapC _ _ σ (gpre i c1) (xpre i (by omega)) (by rw [hSg, hP, hn]; simp) (by rw [hSg]; simp [ne1, ne2, hP, hn]) (g2.congr cg)
  by_cases c2 : i = pre.length
  · subst c2
    obtain ⟨ρi, g1, g2⟩ := hcall
    obtain ⟨hgl, hn⟩ := nextR hXl ρ gcall xcall hSi (hsame _ gcall)
    have hP := noP (by omega)
    have e1 : Sg S = σ := by rw [hSg, hP, hSi]; simp
    have e2 : (Sg fun j => j == pre.length || S j) = σ1 := by
      have ne1 : (pre.length + 1 + post.length == pre.length) = false := by simp; omega
      rw [hSg]; simp only [ne1, hP, Bool.false_or, beq_self_eq_true, Bool.true_or]; simp
    have ea : (args.map fun x => (ev C ρi x).lend) = args.map fun x => (ev C (runsS (steps L X 0 S) ρ) x).lend := List.map_congr_left fun x hx => by
      rw [ev_congr (ρ := ρi) (ρ' := runsS (steps L X 0 S) ρ) fun t ht => by rw [g1 t]; exact hgl t (by simp only [O.looksN, OP.slotsN, OP.slots, List.append_nil]; exact List.mem_flatMap.2 ⟨x, hx, ht⟩)]
    rw [ea] at g2
    rw [hSt, e1] at h
    have hoo := hget pre.length _ o' gcall ho'
    have hwant : Region.wanted o' (yielded ops a.tmps) = true := by
      have hgd := hoo
      unfold okO at hgd
      simp only [Bool.and_eq_true] at hgd
      replace hgd := hgd.2
      split at hgd
      · rename_i hg2; simp [Region.wanted, hg2]
      · rename_i e _; cases e
      · cases hgd
    rw [if_pos hwant, e2]
    refine Oper.wp_mono2 (fun a' w' ⟨M', bm', tk', ρ', σ', ⟨k1, k2⟩, k3, k4⟩ => ⟨M', bm', tk', ρ', σ', ⟨fun t => by rw [k1, hSt]; exact (hn t).symm, k2, trivial⟩, k3, k4⟩) (fun e a' w' ⟨_, _, _, _, _, _, hf, _⟩ => hf.elim) (runO_sound (K := fun ρ' σ' => ρ' = putd (runsS (steps L X 0 S) ρ) d v ∧ σ' = σ1) (Q := fun _ _ _ => False) (hG.mono hl) h hoo ?_)
    exact g2.mono fun o σ' ⟨e1, e2⟩ => by subst e1; exact ⟨rfl, e2⟩
  by_cases c3 : i < pre.length + 1 + post.length
  · obtain ⟨m, rfl⟩ : ∃ m, i = pre.length + 1 + m := ⟨i - (pre.length + 1), by omega⟩
    have hm : m < post.length := by omega
    obtain ⟨ρi, g1, g2⟩ := hpost m hm (by omega)
    obtain ⟨hgl, -⟩ := nextR hXl ρ (gpost m hm) (xpost m (by omega)) hSi (hsame _ (gpost m hm))
    have hP := noP (by omega)
    have hN := hbef _ (D.after m hm)
    have ne1 : (pre.length + 1 + post.length == pre.length + 1 + m) = false := by simp; omega
    have ne2 : (pre.length == pre.length + 1 + m) = false := by simp; omega
    exact wrapC _ _ σ1 (gpost m hm) (xpost m (by omega)) (by rw [hSg, hP, hN]; simp) (by rw [hSg]; simp only [ne1, ne2, hP, hN, Bool.false_or]; simp) (g2.congr fun t ht => by rw [g1 t]; exact hgl t (looks_sub _ t ht))
  · have c4 : i = pre.length + 1 + post.length := by omega
    subst c4
    obtain ⟨ρi, g1, i0, off, cs, k1, k2, k3, k4⟩ := hsto
    obtain ⟨hgl, hn⟩ := nextR hXl ρ gsto xsto hSi (hsame _ gsto)
    have hN := hbef _ (D.last pre.length (by omega))
    have e1 : Sg S = σ1 := by rw [hSg, hSi, hN]; simp
    have e2 : (Sg fun j => j == pre.length + 1 + post.length || S j) = σf := by rw [hSg]; simp
    have evy : ev C (runsS (steps L X 0 S) ρ) y = .ptr i0 off := by
      rw [← k1]; exact (ev_congr fun t ht => by rw [g1 t]; exact hgl t (by simp [O.looksN, OP.slotsN, ht])).symm
    have evz : ev C (runsS (steps L X 0 S) ρ) z = ev C ρi z := (ev_congr fun t ht => by rw [g1 t]; exact hgl t (by simp [O.looksN, OP.slotsN, ht])).symm
    rw [hSt, e1] at h
    have hoo := hget _ _ o' gsto ho'
    have hwant : Region.wanted o' (yielded ops a.tmps) = true := by
      have hgd := hoo
      unfold okO at hgd
      simp only [Bool.and_eq_true] at hgd
      replace hgd := hgd.2
      split at hgd
      · rename_i hg2; simp [Region.wanted, hg2]
      · rename_i e _; cases e
      · cases hgd
    rw [if_pos hwant, e2]
    refine Oper.wp_mono2 (fun a' w' ⟨M', bm', tk', ρ', σ', ⟨k1, k2⟩, k3, k4⟩ => ⟨M', bm', tk', ρ', σ', ⟨fun t => by rw [k1, hSt]; exact (hn t).symm, k2, trivial⟩, k3, k4⟩) (fun e a' w' ⟨_, _, _, _, _, _, hf, _⟩ => hf.elim) (runO_sound (K := fun ρ' σ' => ρ' = runsS (steps L X 0 S) ρ ∧ σ' = σf) (Q := fun _ _ _ => False) (hG.mono hl) h hoo ?_)
    simp only [runO, evy, evz, k2]
    exact ⟨k3, trivial, k4.symm⟩
theorem drawx_pan {M0 : Facts} {bm0 : List Nat} {w0 : World} (hG : C.glob M0 pr w0) {id : Nat} {ops : Array Oper} {pre post : List O} {d : Option Nat} {f : FuncId} {args : List X} {kk : Nat} {y z : X} {M : Facts} {bm : List Nat} {tk : Toks} {a : Act} {w : World} (hok : okOs C.tab n ops (xL pre d f args post kk y z) ops.toList = true) (hdr : drawXOK pre.length post.length (xL pre d f args post kk y z) ops.toList = true)
    (hl : Later M0 bm0 pr w0 M bm w) (h : SRel M bm tk pr ρ σ n a w) {v : V} {xs ys : List V} (hxl : xs.length = pre.length) (hyl : ys.length = post.length)
    (hpre : ∀ i (hi : i < pre.length) (h' : i < xs.length), ∃ ρi, (∀ t, get ρi t = get (runsS (steps (xL pre d f args post kk y z) (xs ++ v :: (ys ++ [.junk])) 0 fun j => decide (j < i)) ρ) t) ∧ Loc C pre[i] ρi σ xs[i])
    (hcall : ∃ ρi, (∀ t, get ρi t = get (runsS (steps (xL pre d f args post kk y z) (xs ++ v :: (ys ++ [.junk])) 0 fun j => decide (j < pre.length)) ρ) t) ∧ Fun C f (args.map fun x => (ev C ρi x).lend) σ (fun o σ' => ∃ u, o = .panic u ∧ ∀ ρ', Q (.panic u) ρ' σ')) :
    (Code.region id ops true).wp C.P (LiftX M0 bm0 pr w0 n Q) a w := by
  obtain ⟨hlen, hget⟩ := okOs_get hok
  have D := drawXOK_ok hdr
  have hLl := xL_len (pre := pre) (d := d) (f := f) (args := args) (post := post) (kk := kk) (y := y) (z := z)
  have gpre := fun i (hi : i < pre.length) => xL_pre (d := d) (f := f) (args := args) (post := post) (kk := kk) (y := y) (z := z) hi
  have gcall := xL_call (pre := pre) (d := d) (f := f) (args := args) (post := post) (kk := kk) (y := y) (z := z)
  generalize hL : xL pre d f args post kk y z = L at *
  obtain ⟨X, hX⟩ : ∃ X, X = xs ++ v :: (ys ++ [V.junk]) := ⟨_, rfl⟩
  rw [← hX] at hpre hcall
  have hXl : X.length = L.length := by rw [hLl, hX]; simp [hxl, hyl]; omega
  have xpre : ∀ i (hi : i < xs.length), X[i]? = some xs[i] := fun i hi => by rw [hX, List.getElem?_append_left hi, List.getElem?_eq_getElem hi]
  have xcall : X[pre.length]? = some v := by rw [hX, List.getElem?_append_right (by omega), hxl]; simp
  have hnl : L.length = ops.size := by rw [hlen]; simp
  refine draw_genX (M := M) (bm := bm) (tk := tk) (fun S => runsS (steps L X 0 S) ρ) (fun _ => σ) ρ σ (fun S => S pre.length = false) rfl (fun S S' hS hI => by rw [← hS _ (by omega)]; exact hI) D.lt (fun S S' hS => ⟨fun t => ?_, rfl⟩) hl ?_ (fun hI => by cases hI) ?_
  · show get (runsS (steps L X 0 S) ρ) t = get (runsS (steps L X 0 S') ρ) t
    rw [steps_same (l := L) (xs := X) (k := 0) (S := S) (S' := S') fun j _ hj => hS j (by omega)]
  · exact h.congr fun t => runsS_off (steps_off fun _ _ => rfl) ρ t
  intro S i o' ho' hSi hclo hedge hI M bm tk a w hl h
  have hi1 : i < ops.toList.length := (List.getElem?_eq_some_iff.1 ho').1
  have hi2 : i < L.length := by omega
  have hbef : ∀ j ∈ (beforeL ops.toList []).getD i [], S j = true := before_closed D.lt (S := fun j => S j = true) hclo i o' ho' hedge
  have hbefj : ∀ q, q < L.length → S q = true → ∀ j ∈ (beforeL ops.toList []).getD q [], S j = true := fun q hq hSq => by
    have hq2 : ops.toList[q]? = some ops.toList[q] := List.getElem?_eq_getElem (by omega)
    exact before_closed D.lt (S := fun j => S j = true) hclo q _ hq2 (hclo q _ hq2 hSq)
  have hsame : ∀ o, L[i]? = some o → ∀ t ∈ o.looksN ++ o.dst.toList, ∀ (j : Nat) (q : O), L[j]? = some q → j ≠ i → q.dst = some t → S j = decide (j < i) := by
    intro o hlo t ht j q hj hne hd
    rcases D.cmp i o hlo t ht j q hj hd hne with ⟨g1, g2⟩ | ⟨g1, g2⟩
    · rw [hbef j g2]; simp [g1]
    · have : ¬ S j = true := fun hjl => by
        have := hbefj j (List.getElem?_eq_some_iff.1 hj).1 hjl i g2
        rw [hSi] at this; cases this
      have e : S j = false := by simpa using this
      rw [e]; simp; omega
  by_cases c1 : i < pre.length
  · obtain ⟨ρi, g1, g2⟩ := hpre i c1 (by omega)
    obtain ⟨hgl, hn⟩ := nextR hXl ρ (gpre i c1) (xpre i (by omega)) hSi (hsame _ (gpre i c1))
    have hI' : (pre.length == i || S pre.length) = false := by
      have : (pre.length == i) = false := by simp; omega
      rw [this, hI]; rfl
    have := one_calm (Q := Q) (hG.mono hl) h (hget i _ o' (gpre i c1) ho') (g2.congr fun t ht => by rw [g1 t]; exact hgl t (looks_sub _ t ht))
    split at this
    · rename_i hw
      rw [if_pos hw]
      exact Oper.wp_mono2 (fun a' w' ⟨M', bm', tk', ρ', σ', ⟨k1, k2⟩, k3, k4⟩ => ⟨M', bm', tk', ρ', σ', ⟨fun t => by rw [k1]; exact (hn t).symm, k2, hI'⟩, k3, k4⟩) (fun e a' w' hh => hh) this
    · rename_i hw
      rw [if_neg hw]
      exact ⟨this.congr fun t => hn t, hI'⟩
  by_cases c2 : i = pre.length
  · subst c2
    obtain ⟨ρi, g1, g2⟩ := hcall
    obtain ⟨hgl, hn⟩ := nextR hXl ρ gcall xcall hSi (hsame _ gcall)
    have ea : (args.map fun x => (ev C ρi x).lend) = args.map fun x => (ev C (runsS (steps L X 0 S) ρ) x).lend := List.map_congr_left fun x hx => by
      rw [ev_congr (ρ := ρi) (ρ' := runsS (steps L X 0 S) ρ) fun t ht => by rw [g1 t]; exact hgl t (by simp only [O.looksN, OP.slotsN, OP.slots, List.append_nil]; exact List.mem_flatMap.2 ⟨x, hx, ht⟩)]
    rw [ea] at g2
    have hoo := hget pre.length _ o' gcall ho'
    have hwant : Region.wanted o' (yielded ops a.tmps) = true := by
      have hgd := hoo
      unfold okO at hgd
      simp only [Bool.and_eq_true] at hgd
      replace hgd := hgd.2
      split at hgd
      · rename_i hg2; simp [Region.wanted, hg2]
      · rename_i e _; cases e
      · cases hgd
    rw [if_pos hwant]
    refine Oper.wp_mono2 (fun a' w' ⟨M', bm', tk', ρ', σ', hf, k3, k4⟩ => hf.elim) (fun e a' w' hh => hh) (runO_sound (K := fun _ _ => False) (Q := Q) (hG.mono hl) h hoo ?_)
    exact g2.mono fun o σ' ⟨u, e1, e2⟩ => by subst e1; exact e2 _
  exfalso
  by_cases c3 : i < pre.length + 1 + post.length
  · obtain ⟨m, rfl⟩ : ∃ m, i = pre.length + 1 + m := ⟨i - (pre.length + 1), by omega⟩
    have := hbef _ (D.after m (by omega))
    rw [hI] at this; cases this
  · have c4 : i = pre.length + 1 + post.length := by omega
    subst c4
    have := hbef _ (D.last pre.length (by omega))
    rw [hI] at this; cases this
theorem drawx_sound {M0 : Facts} {bm0 : List Nat} {w0 : World} (hG : C.glob M0 pr w0) {id : Nat} {ops : Array Oper} {pre post : List O} {d : Option Nat} {f : FuncId} {args : List X} {kk : Nat} {y z : X} {M : Facts} {bm : List Nat} {tk : Toks} {a : Act} {w : World} (hok : okOs C.tab n ops (xL pre d f args post kk y z) ops.toList = true) (hdr : drawXOK pre.length post.length (xL pre d f args post kk y z) ops.toList = true)
    (hl : Later M0 bm0 pr w0 M bm w) (h : SRel M bm tk pr ρ σ n a w)
    (hq : awpX C pre d f args post kk y z ρ σ (fun ρ' σ' => Q .normal ρ' σ') (fun u σ' => ∀ ρ', Q (.panic u) ρ' σ')) :
    (Code.region id ops true).wp C.P (LiftX M0 bm0 pr w0 n Q) a w := by
  obtain ⟨xs, hxl, ⟨ρ1, hρ1, hρe1⟩, hloc1⟩ := calm_ex (k := 0) hq
  have conv : ∀ (v : V) (ys : List V), ys.length = post.length → ∀ i, i ≤ pre.length → ∀ t, get (runsS (steps (xL pre d f args post kk y z) (xs ++ v :: (ys ++ [.junk])) 0 fun j => decide (j < i)) ρ) t = get (runsS (steps pre xs 0 fun j => decide (j < i)) ρ) t := fun v ys hyl i hi t => by
    rw [stepsX hxl hyl, if_neg (by simp; omega)]
    exact runsS_off (steps_off fun j hj => by simp; omega) _ t
  have allpre : steps pre xs 0 (fun j => decide (j < pre.length)) = steps pre xs 0 (fun _ => true) := steps_same fun j _ hj => by simp; omega
  rcases hρ1 with ⟨v, σ1, hF, hpre2, hpost⟩ | hF
  · obtain ⟨xs', hxl', ⟨ρ1', hρ1', hρe1'⟩, hloc1'⟩ := calm_ex (k := 0) hpre2
    subst hρ1'
    obtain ⟨ys, hyl, ⟨ρ2, hρ2, hρe2⟩, hloc2⟩ := calm_ex (k := pre.length + 1) hpost
    have D := drawXOK_ok hdr
    have val : ∀ (us : List V) (hu : us.length = pre.length), (∀ t, get ρ1' t = get (runsS (steps pre us 0 fun _ => true) ρ) t) → ∀ i (hi : i < pre.length), ∃ t, get ρ1' t = us[i]'(by omega) ∧ pre[i].dst = some t := fun us hu he i hi => by
      obtain ⟨t, h1, h2⟩ := D.pdst i _ hi (xL_pre hi)
      have hsl := steps_len pre us 0 (fun _ => true) hu
      refine ⟨t, ?_, h1⟩
      rw [he t, runsS_last (steps pre us 0 fun _ => true) ρ i (by rw [hsl]; exact hi) t (by rw [steps_get _ _ _ _ _ _ hi (by omega)]; exact h1) (by rw [steps_get _ _ _ _ _ _ hi (by omega)]) (fun j hj hij hd => by
        rw [hsl] at hj
        rw [steps_get _ _ _ _ _ _ hj (by omega)] at hd
        exact absurd hd (h2 j _ hj (xL_pre hj) (by omega)))]
      rw [steps_get _ _ _ _ _ _ hi (by omega)]
    have hxx : xs' = xs := List.ext_getElem (by omega) fun i g1 g2 => by
      obtain ⟨t, e1, e2⟩ := val xs hxl hρe1 i (by omega)
      obtain ⟨t', e3, e4⟩ := val xs' hxl' hρe1' i (by omega)
      rw [e2] at e4
      cases e4
      rw [← e1, ← e3]
    subst hxx
    obtain ⟨i0, off, cs, k1, k2, k3, k4⟩ := hρ2
    have base : ∀ t, get ρ1' t = get (runsS (steps pre xs' 0 fun _ => true) ρ) t := hρe1
    have late : ∀ (S : Nat → Bool), (∀ j, j ≤ pre.length → S j = true) → ∀ t, get (runsS (steps (xL pre d f args post kk y z) (xs' ++ v :: (ys ++ [.junk])) 0 S) ρ) t = get (runsS (steps post ys (pre.length + 1) S) (putd ρ1' d v)) t := fun S hS t => by
      rw [stepsX hxl hyl, if_pos (hS _ (Nat.le_refl _))]
      refine get_runsS _ _ _ _ ?_
      rw [get_putd, get_putd, base t, steps_same (l := pre) (xs := xs') (k := 0) (S := S) (S' := fun _ => true) fun j _ hj => hS j (by omega)]
    refine drawx_ret (v := v) (σ1 := σ1) (σf := σ1.set i0 (over cs off (ev C ρ2 z).cells)) (xs := xs') (ys := ys) (ρf := ρ2) hG hok hdr hl h hxl hyl (fun i hi h' => ?_) ⟨ρ1', fun t => ?_, hF⟩ (fun m hm h' => ?_) ⟨ρ2, fun t => ?_, i0, off, cs, k1, k2, k3, rfl⟩ (fun t => ?_) k4
    · obtain ⟨ρi, g1, g2⟩ := hloc1 i hi h'
      obtain ⟨ρi', g1', g2'⟩ := hloc1' i hi h'
      simp only [Nat.zero_add] at g2 g2'
      exact ⟨ρi, fun t => by rw [conv v ys hyl i (by omega) t]; exact g2 t, g1, g1'.congr fun t _ => by rw [g2' t, g2 t]⟩
    · rw [conv v ys hyl _ (Nat.le_refl _) t, allpre]; exact base t
    · obtain ⟨ρi, g1, g2⟩ := hloc2 m hm h'
      exact ⟨ρi, fun t => by rw [late _ (fun j hj => by simp; omega) t]; exact g2 t, g1⟩
    · rw [late _ (fun j hj => by simp; omega) t, hρe2 t, steps_same (l := post) (xs := ys) (k := pre.length + 1) (S := fun _ => true) (S' := fun j => decide (j < pre.length + 1 + post.length)) fun j _ hj => by simp; omega]
    · rw [late _ (fun j hj => rfl) t]; exact hρe2 t
  · have hrl : (List.replicate post.length V.junk).length = post.length := List.length_replicate
    refine drawx_pan (v := .junk) (xs := xs) (ys := List.replicate post.length .junk) hG hok hdr hl h hxl hrl (fun i hi h' => ?_) ⟨ρ1, fun t => ?_, hF⟩
    · obtain ⟨ρi, g1, g2⟩ := hloc1 i hi h'
      simp only [Nat.zero_add] at g2
      exact ⟨ρi, fun t => by rw [conv _ _ hrl i (by omega) t]; exact g2 t, g1⟩
    · rw [conv _ _ hrl _ (Nat.le_refl _) t, allpre]; exact hρe1 t
end
end Go.Proofs.Ytinenohgemndiaa
namespace Go.Proofs.Ytinenohgemndiaa
open Go.RowKit
inductive GK where
  | free (lo : Nat)
  | calm (lo hi : Nat)
  | slot (lo : Nat)
  | act
def GK.isAct : GK → Bool
  | .act => true
  | _ => false
def OP.w1 : OP → Option Nat
  | .mvo t => some t
  | .app _ _ _ t _ => some t
  | .stoo _ t => some t
  | _ => none
def OP.slotsG : OP → List Nat
  | .mvo t => [t]
  | .app _ _ _ t y => t :: y.slots
  | .mkso _ _ xs => xs.flatMap X.slots
  | .mkc _ _ _ x => x.slots
  | .mkb _ _ _ x => x.slots
  | .box _ x => x.slots
  | .sto _ x y => x.slots ++ y.slots
  | .stoo x t => t :: x.slots
  | .ldo x => x.slots
  | .cpy x y => x.slots ++ y.slots
  | .appv _ _ _ t y => t :: y.slots
  | .mst _ x y z => x.slots ++ (y.slots ++ z.slots)
  | op => op.slots
def O.looksG (o : O) : List Nat := o.op.slotsG ++ (match o.g with | some (t, _) => [t] | none => [])
def OP.isFree : OP → Bool
  | .load _ _ _ | .cbs _ | .mlk _ _ _ _ _ | .mln _ | .call _ _ | .callv _ _ | .calln _ _ => false
  | .mks _ _ _ => true
  | op => isPure op
def OP.isCalm : OP → Bool
  | .call _ _ | .callv _ _ | .calln _ _ | .mks _ _ _ => true
  | op => isPure op
def OP.isSlot : OP → Bool
  | .mvo _ | .nilo _ _ | .app _ _ _ _ _ | .mkso _ _ _ | .mkc _ _ _ _ => true
  | _ => false
def OP.isActG : OP → Option Nat → Bool
  | .sto _ _ _, d => d.isNone
  | .stoo _ _, d => d.isNone
  | .mst _ _ _ _, d => d.isNone
  | .new _ _, _ | .box _ _, _ | .ldo _, _ | .mkb _ _ _ _, _ | .cpy _ _, _ | .call _ _, _ | .callv _ _, _ => true
  | _, _ => false
section
variable {C : Cx} {pr : Prot} {ρ : Slots} {σ : List (List V)} {n : Nat} {Q : AEx → Slots → List (List V) → Prop}
theorem calm_looks {o : O} (h : o.op.isCalm = true) : o.looks = o.looksG := by
  unfold O.looks O.looksG
  have : o.op.slots = o.op.slotsG := by
    cases ho : o.op <;> rw [ho] at h <;> first | rfl | (simp [OP.isCalm, isPure] at h)
  rw [this] <;> (cases o.g <;> rfl)
theorem pv_free {op : OP} (h : op.isFree = true) (σ σ2 : List (List V)) : pv C op ρ σ = pv C op ρ σ2 := by
  cases op <;> first | rfl | (simp [OP.isFree, isPure] at h)
theorem calmO_free {op : OP} (h : op.isFree = true) {k : V → Prop} (σ2 : List (List V)) (hc : calmO C op ρ σ k) : calmO C op ρ σ2 k := by
  unfold calmO at hc
  split at hc
  · cases h
  · cases h
  · exact hc
  · cases h
  · rename_i n1 n2 n3 n4
    rw [pv_free h σ σ2] at hc
    unfold calmO
    split
    · exact absurd rfl (n1 _ _)
    · exact absurd rfl (n2 _ _)
    · exact absurd rfl (n3 _ _ _)
    · exact absurd rfl (n4 _ _)
    · exact hc
theorem Loc.free {o : O} (h : o.op.isFree = true) {x : V} (σ2 : List (List V)) (hc : Loc C o ρ σ x) : Loc C o ρ σ2 x := by
  unfold Loc at hc ⊢
  split at hc
  · exact calmO_free h σ2 hc
  · split at hc
    · exact ⟨fun e => calmO_free h σ2 (hc.1 e), hc.2⟩
    · exact hc
    · exact hc.elim
def runE (C : Cx) (op : OP) (ρ : Slots) (σ : List (List V)) (a b : V) (σ' : List (List V)) : Prop := match op with
  | .mvo t => ∃ T k rows, get ρ t = .own T k rows ∧ a = .d (.sl rows) ∧ b = .own T k rows ∧ σ' = σ
  | .nilo T k => b = .own T k [] ∧ σ' = σ
  | .app T k bytes t y => ∃ rows rows2, get ρ t = .own T k rows ∧ rowsV (ev C ρ y) = some rows2 ∧ (rows2.all (fun r => r.length == k) = true ∧ (rows.length + rows2.length) * bytes ≤ 140737488355328) ∧ a = .d (.sl rows) ∧ b = .own T k (rows ++ rows2) ∧ σ' = σ
  | .mkso T k xs => ∃ rows, rowsOf (xs.map (ev C ρ)) = some rows ∧ rows.all (fun r => r.length == k) = true ∧ b = .own T k rows ∧ σ' = σ
  | .mkc T k bytes x => ∃ kd n, ev C ρ x = .d (.lit (.int kd n)) ∧ (0 ≤ n ∧ n * bytes ≤ 140737488355328) ∧ b = .own T k [] ∧ σ' = σ
  | .new _ cs => b = .ptr σ.length 0 ∧ σ' = σ ++ [cs]
  | .box _ x => (ev C ρ x).boxable = true ∧ b = .ptr σ.length 0 ∧ σ' = σ ++ [(ev C ρ x).cells]
  | .mkb _ bytes z x => ∃ kd n, ev C ρ x = .d (.lit (.int kd n)) ∧ (0 ≤ n ∧ n * bytes ≤ 140737488355328) ∧ b = .bsl σ.length 0 n.toNat 1 ∧ σ' = σ ++ [List.replicate n.toNat z]
  | .sto k x y => ∃ i o cs, ev C ρ x = .ptr i o ∧ σ[i]? = some cs ∧ ((ev C ρ y).boxable = true ∧ (ev C ρ y).cells.length = k ∧ o + k ≤ cs.length ∧ noMap cs = true) ∧ σ' = σ.set i (over cs o (ev C ρ y).cells)
  | .stoo x t => ∃ i o T k rows cs, ev C ρ x = .ptr i o ∧ get ρ t = .own T k rows ∧ σ[i]? = some cs ∧ (o < cs.length ∧ noMap cs = true) ∧ a = .d (.sl rows) ∧ σ' = σ.set i (over cs o [.own T k rows])
  | .ldo x => ∃ i o cs T k rows, ev C ρ x = .ptr i o ∧ σ[i]? = some cs ∧ cs[o]? = some (.own T k rows) ∧ b = .own T k rows ∧ σ' = σ.set i (cs.set o (.d (.sl rows)))
  | .cpy x y => ∃ i off n cs src, asB (ev C ρ x) = some (i, off, n) ∧ σ[i]? = some cs ∧ srcV σ (ev C ρ y) = some src ∧ (off + n ≤ cs.length ∧ noMap cs = true) ∧ b = vint .i64 (min n src.length : Nat) ∧ σ' = σ.set i (over cs off (src.take (min n src.length)))
  | .mst st x k v => ∃ kv key, mapAt st σ (ev C ρ x) = some kv ∧ keyV st (ev C ρ k) = some key ∧ σ' = setMp σ st (mput key (ev C ρ v).copy kv) (ev C ρ x)
  | .call f args => Fun C f (args.map fun x => (ev C ρ x).lend) σ (fun o σ'' => o = .ret b ∧ σ'' = σ')
  | .callv x args => ∃ f cap, ev C ρ x = .fn f cap ∧ Fun C f ((args.map fun x => (ev C ρ x).lend) ++ cap) σ (fun o σ'' => o = .ret b ∧ σ'' = σ')
  | _ => False
def ap (o : O) (w : V × V) (ρ : Slots) : Slots := putd (putd ρ o.op.w1 w.1) o.dst w.2
theorem get_ap (o : O) (w : V × V) (ρ : Slots) (t : Nat) : get (ap o w ρ) t = if o.dst = some t then w.2 else if o.op.w1 = some t then w.1 else get ρ t := by
  unfold ap; rw [get_putd, get_putd]
theorem runE_run {o : O} {a b : V} {σ' : List (List V)} (hc : o.op.isSlot = true ∨ o.op.isActG o.dst = true) (h : runE C o.op ρ σ a b σ') : runO C o.op o.dst ρ σ (fun ρ' σ'' => ρ' = ap o (a, b) ρ ∧ σ'' = σ') Q := by
  obtain ⟨d, op, g⟩ := o
  unfold ap
  cases op <;> simp only [runE] at h <;> simp only [runO, OP.w1, putd] <;> first | exact h.elim | skip
  case mvo t => obtain ⟨T, k, rows, h1, rfl, rfl, rfl⟩ := h; rw [h1]; first | exact ⟨rfl, rfl⟩ | exact ⟨trivial, trivial⟩
  case nilo => obtain ⟨rfl, rfl⟩ := h; first | exact ⟨rfl, rfl⟩ | exact ⟨trivial, trivial⟩
  case app => obtain ⟨rows, rows2, h1, h2, h3, rfl, rfl, rfl⟩ := h; rw [h1, h2]; exact ⟨⟨rfl, rfl, h3⟩, rfl, rfl⟩
  case mkso => obtain ⟨rows, h1, h2, rfl, rfl⟩ := h; rw [h1]; exact ⟨h2, rfl, rfl⟩
  case mkc => obtain ⟨kd, m, h1, h2, rfl, rfl⟩ := h; rw [h1]; exact ⟨h2, rfl, rfl⟩
  case new => obtain ⟨rfl, rfl⟩ := h; first | exact ⟨rfl, rfl⟩ | exact ⟨trivial, trivial⟩
  case box => obtain ⟨h1, rfl, rfl⟩ := h; first | exact ⟨h1, rfl, rfl⟩ | exact ⟨h1, trivial, trivial⟩
  case mkb => obtain ⟨kd, m, h1, h2, rfl, rfl⟩ := h; rw [h1]; exact ⟨h2, rfl, rfl⟩
  case sto =>
    have hd : d = none := by simpa [OP.isSlot, OP.isActG] using hc
    subst hd
    obtain ⟨i, o, cs, h1, h2, h3, rfl⟩ := h; rw [h1]; simp only [h2]; first | exact ⟨h3, rfl, rfl⟩ | exact ⟨h3, trivial, trivial⟩
  case stoo =>
    have hd : d = none := by simpa [OP.isSlot, OP.isActG] using hc
    subst hd
    obtain ⟨i, o, T, k, rows, cs, h1, h2, h3, h4, rfl, rfl⟩ := h; rw [h1, h2]; simp only [h3]; first | exact ⟨h4, rfl, rfl⟩ | exact ⟨h4, trivial, trivial⟩
  case ldo => obtain ⟨i, o, cs, T, k, rows, h1, h2, h3, rfl, rfl⟩ := h; rw [h1]; simp only [h2, h3]; first | exact ⟨rfl, rfl⟩ | exact ⟨trivial, trivial⟩
  case cpy => obtain ⟨i, off, n, cs, src, h1, h2, h3, h4, rfl, rfl⟩ := h; rw [h1]; simp only [h2, h3]; first | exact ⟨h4, rfl, rfl⟩ | exact ⟨h4, trivial, trivial⟩
  case mst =>
    have hd : d = none := by simpa [OP.isSlot, OP.isActG] using hc
    subst hd
    obtain ⟨kv, key, h1, h2, rfl⟩ := h; rw [h1]; simp only [h2]; first | exact ⟨rfl, rfl⟩ | exact ⟨trivial, trivial⟩
  case call => exact h.mono fun o σ'' ⟨e1, e2⟩ => by subst e1; exact ⟨rfl, e2⟩
  case callv =>
    obtain ⟨f, cap, h1, h2⟩ := h
    rw [h1]
    exact h2.mono fun o σ'' ⟨e1, e2⟩ => by subst e1; exact ⟨rfl, e2⟩
theorem runE_split {o : O} (hc : o.op.isSlot = true ∨ (o.op.isActG o.dst = true ∧ (∀ f args, o.op ≠ .call f args) ∧ ∀ x args, o.op ≠ .callv x args)) {K : Slots → List (List V) → Prop} (h : runO C o.op o.dst ρ σ K Q) : ∃ a b σ', runE C o.op ρ σ a b σ' ∧ K (ap o (a, b) ρ) σ' ∧ (o.op.isSlot = true → σ' = σ) := by
  obtain ⟨d, op, g⟩ := o
  unfold ap
  cases op <;> first | (exfalso; simp [OP.isSlot, OP.isActG] at hc; done) | skip
  all_goals simp only [runO] at h
  case mvo t =>
    split at h
    · rename_i T k rows e; exact ⟨_, _, σ, ⟨T, k, rows, e, rfl, rfl, rfl⟩, h, fun _ => rfl⟩
    · exact h.elim
  case nilo T k => exact ⟨.junk, _, σ, ⟨rfl, rfl⟩, h, fun _ => rfl⟩
  case app T k bytes t y =>
    split at h
    · rename_i T' k' rows rows2 e1 e2
      obtain ⟨⟨rfl, rfl, h1⟩, h2⟩ := h
      exact ⟨_, _, σ, ⟨rows, rows2, e1, e2, h1, rfl, rfl, rfl⟩, h2, fun _ => rfl⟩
    · exact h.elim
  case mkso =>
    split at h
    · rename_i rows e; exact ⟨.junk, _, σ, ⟨rows, e, h.1, rfl, rfl⟩, h.2, fun _ => rfl⟩
    · exact h.elim
  case mkc =>
    split at h
    · rename_i kd m e; exact ⟨.junk, _, σ, ⟨kd, m, e, h.1, rfl, rfl⟩, h.2, fun _ => rfl⟩
    · exact h.elim
  case new => exact ⟨.junk, _, _, ⟨rfl, rfl⟩, h, fun e => by cases e⟩
  case box => exact ⟨.junk, _, _, ⟨h.1, rfl, rfl⟩, h.2, fun e => by cases e⟩
  case mkb =>
    split at h
    · rename_i kd m e; exact ⟨.junk, _, _, ⟨kd, m, e, h.1, rfl, rfl⟩, h.2, fun e => by cases e⟩
    · exact h.elim
  case sto =>
    have hd : d = none := by simpa [OP.isSlot, OP.isActG] using hc
    subst hd
    split at h
    · rename_i i o e
      split at h
      · rename_i cs e2; exact ⟨.junk, .junk, _, ⟨i, o, cs, e, e2, h.1, rfl⟩, h.2, fun e => by cases e⟩
      · exact h.elim
    · exact h.elim
  case stoo =>
    have hd : d = none := by simpa [OP.isSlot, OP.isActG] using hc
    subst hd
    split at h
    · rename_i i o T k rows e e1
      split at h
      · rename_i cs e2; exact ⟨_, .junk, _, ⟨i, o, T, k, rows, cs, e, e1, e2, h.1, rfl, rfl⟩, h.2, fun e => by cases e⟩
      · exact h.elim
    · exact h.elim
  case ldo =>
    split at h
    · rename_i i o e
      split at h
      · rename_i cs e2
        split at h
        · rename_i T k rows e3; exact ⟨.junk, _, _, ⟨i, o, cs, T, k, rows, e, e2, e3, rfl, rfl⟩, h, fun e => by cases e⟩
        · exact h.elim
      · exact h.elim
    · exact h.elim
  case cpy =>
    split at h
    · rename_i i off n e
      split at h
      · rename_i cs src e2 e3; exact ⟨.junk, _, _, ⟨i, off, n, cs, src, e, e2, e3, h.1, rfl, rfl⟩, h.2, fun e => by cases e⟩
      · exact h.elim
    · exact h.elim
  case mst =>
    have hd : d = none := by simpa [OP.isSlot, OP.isActG] using hc
    subst hd
    split at h
    · rename_i kv key e1 e2; exact ⟨.junk, .junk, _, ⟨kv, key, e1, e2, rfl⟩, h, fun e => by cases e⟩
    · exact h.elim
theorem runE_congr {op : OP} {ρ ρ' : Slots} {a b : V} {σ' : List (List V)} (h : ∀ t ∈ op.slotsG, get ρ t = get ρ' t) (hr : runE C op ρ σ a b σ') : runE C op ρ' σ a b σ' := by
  have e1 : ∀ (x : X), (∀ t ∈ x.slots, t ∈ op.slotsG) → ev C ρ x = ev C ρ' x := fun x hx => ev_congr fun t ht => h t (hx t ht)
  cases op <;> simp only [runE] at hr ⊢ <;> simp only [OP.slotsG, OP.slots] at h e1 <;> first | exact hr.elim | exact hr | skip
  case mvo t => rw [← h t (by simp)]; exact hr
  case app T k bytes t y => rw [← h t (by simp), ← e1 y (fun t ht => by simp [ht])]; exact hr
  case mkso => rw [← map_congr' h]; exact hr
  case mkc x => rw [← e1 x (fun t ht => ht)]; exact hr
  case box x => rw [← e1 x (fun t ht => ht)]; exact hr
  case mkb x => rw [← e1 x (fun t ht => ht)]; exact hr
  case sto x y => rw [← e1 x (fun t ht => by simp [ht]), ← e1 y (fun t ht => by simp [ht])]; exact hr
  case stoo x t => rw [← h t (by simp), ← e1 x (fun t ht => by simp [ht])]; exact hr
  case ldo x => rw [← e1 x (fun t ht => ht)]; exact hr
  case mst st x y z => rw [← e1 x (fun t ht => by simp [ht]), ← e1 y (fun t ht => by simp [ht]), ← e1 z (fun t ht => by simp [ht])]; exact hr
  case cpy x y => rw [← e1 x (fun t ht => by simp [ht]), ← e1 y (fun t ht => by simp [ht])]; exact hr
  case call f args =>
    have : (args.map fun x => (ev C ρ' x).lend) = args.map fun x => (ev C ρ x).lend := List.map_congr_left fun x hx => by rw [e1 x fun t ht => List.mem_flatMap.2 ⟨x, hx, ht⟩]
    rw [this]; exact hr
  case callv y args =>
    have : (args.map fun x => (ev C ρ' x).lend) = args.map fun x => (ev C ρ x).lend := List.map_congr_left fun x hx => by rw [e1 x fun t ht => List.mem_append_right _ (List.mem_flatMap.2 ⟨x, hx, ht⟩)]
    rw [this, ← e1 y (fun t ht => by simp [ht])]; exact hr
def panE (C : Cx) (op : OP) (ρ : Slots) (σ : List (List V)) (P : V → List (List V) → Prop) : Prop := match op with
  | .call f args => Fun C f (args.map fun x => (ev C ρ x).lend) σ (fun o σ' => ∃ u, o = .panic u ∧ P u σ')
  | .callv x args => ∃ f cap, ev C ρ x = .fn f cap ∧ Fun C f ((args.map fun x => (ev C ρ x).lend) ++ cap) σ (fun o σ' => ∃ u, o = .panic u ∧ P u σ')
  | _ => False
theorem panE_run {o : O} {P : V → List (List V) → Prop} (h : panE C o.op ρ σ P) : runO C o.op o.dst ρ σ (fun _ _ => False) (fun e _ σ' => ∃ u, e = .panic u ∧ P u σ') := by
  obtain ⟨d, op, g⟩ := o
  cases op
  case call => exact Fun.mono h fun o σ'' ⟨u, e1, e2⟩ => by subst e1; exact ⟨u, rfl, e2⟩
  case callv =>
    obtain ⟨f, cap, h1, h2⟩ := h
    simp only [runO]
    rw [h1]
    exact h2.mono fun o σ'' ⟨u, e1, e2⟩ => by subst e1; exact ⟨u, rfl, e2⟩
  all_goals exact h.elim
theorem panE_congr {op : OP} {ρ ρ' : Slots} {P : V → List (List V) → Prop} (h : ∀ t ∈ op.slotsG, get ρ t = get ρ' t) (hr : panE C op ρ σ P) : panE C op ρ' σ P := by
  have e1 : ∀ (x : X), (∀ t ∈ x.slots, t ∈ op.slotsG) → ev C ρ x = ev C ρ' x := fun x hx => ev_congr fun t ht => h t (hx t ht)
  cases op <;> simp only [panE] at hr ⊢ <;> simp only [OP.slotsG, OP.slots] at h e1 <;> first | exact hr.elim | exact hr | skip
  case call f args =>
    have : (args.map fun x => (ev C ρ' x).lend) = args.map fun x => (ev C ρ x).lend := List.map_congr_left fun x hx => by rw [e1 x fun t ht => List.mem_flatMap.2 ⟨x, hx, ht⟩]
    rw [this]; exact hr
  case callv y args =>
    have : (args.map fun x => (ev C ρ' x).lend) = args.map fun x => (ev C ρ x).lend := List.map_congr_left fun x hx => by rw [e1 x fun t ht => List.mem_append_right _ (List.mem_flatMap.2 ⟨x, hx, ht⟩)]
    rw [this, ← e1 y (fun t ht => by simp [ht])]; exact hr
structure PendG where
  o : O
  ρ : Slots
  ρ' : Slots
  hi : Nat
def reG (C : Cx) (m : Nat) (σ' : List (List V)) : List PendG → Prop
  | [] => True
  | p :: r => (if m ≤ p.hi then awpCalm C [p.o] p.ρ σ' (fun ρ' => ρ' = p.ρ') else True) ∧ reG C m σ' r
def backG (C : Cx) (o : O) (ρ ρ' : Slots) : Nat → List (List (List V)) → Prop
  | 0, _ => True
  | _ + 1, [] => False
  | k + 1, σ :: h => awpCalm C [o] ρ σ (fun ρ'' => ρ'' = ρ') ∧ backG C o ρ ρ' k h
def pushG (m hi : Nat) (x : PendG) (p : List PendG) : List PendG := if m < hi then x :: p else p
def panG (C : Cx) : List (O × GK) → Nat → List (List (List V)) → Slots → List (List V) → Prop
  | [], _, _, _, _ => True
  | (o, .free lo) :: r, m, h, ρ, σ => if lo ≤ m then awpCalm C [o] ρ σ fun ρ' => panG C r m h ρ' σ else panG C r m h (ap o (.junk, .junk) ρ) σ
  | (o, .calm lo _) :: r, m, h, ρ, σ => if lo ≤ m then awpCalm C [o] ρ σ fun ρ' => backG C o ρ ρ' (m - lo) h ∧ panG C r m h ρ' σ else panG C r m h (ap o (.junk, .junk) ρ) σ
  | (o, .slot lo) :: r, m, h, ρ, σ => if lo ≤ m then awpOps C [o] ρ σ (fun e ρ' _ => e = .normal ∧ panG C r m h ρ' σ) else panG C r m h (ap o (.junk, .junk) ρ) σ
  | (o, .act) :: r, m, h, ρ, σ => panG C r m h (ap o (.junk, .junk) ρ) σ
def awpG (C : Cx) (P : V → List (List V) → Prop) (K : Slots → List (List V) → Prop) : List (O × GK) → Nat → List (List (List V)) → List PendG → Slots → List (List V) → Prop
  | [], _, _, _, ρ, σ => K ρ σ
  | (o, .free _) :: r, m, h, p, ρ, σ => awpCalm C [o] ρ σ fun ρ' => awpG C P K r m h p ρ' σ
  | (o, .calm lo hi) :: r, m, h, p, ρ, σ => awpCalm C [o] ρ σ fun ρ' => backG C o ρ ρ' (m - lo) h ∧ awpG C P K r m h (pushG m hi ⟨o, ρ, ρ', hi⟩ p) ρ' σ
  | (o, .slot _) :: r, m, h, p, ρ, σ => awpOps C [o] ρ σ fun e ρ' σ' => e = .normal ∧ awpG C P K r m h p ρ' σ'
  | (⟨d, .call f args, g⟩, .act) :: r, m, h, p, ρ, σ =>
    (∃ v σ1, Fun C f (args.map fun x => (ev C ρ x).lend) σ (fun o σ' => o = .ret v ∧ σ' = σ1) ∧ reG C (m + 1) σ1 p ∧ awpG C P K r (m + 1) (σ :: h) p (putd ρ d v) σ1) ∨
    (Fun C f (args.map fun x => (ev C ρ x).lend) σ (fun o σ' => ∃ u, o = .panic u ∧ P u σ') ∧ panG C r m h (putd ρ d .junk) σ)
  | (⟨d, .callv x args, g⟩, .act) :: r, m, h, p, ρ, σ => ∃ f cap, ev C ρ x = .fn f cap ∧
    ((∃ v σ1, Fun C f ((args.map fun x => (ev C ρ x).lend) ++ cap) σ (fun o σ' => o = .ret v ∧ σ' = σ1) ∧ reG C (m + 1) σ1 p ∧ awpG C P K r (m + 1) (σ :: h) p (putd ρ d v) σ1) ∨
    (Fun C f ((args.map fun x => (ev C ρ x).lend) ++ cap) σ (fun o σ' => ∃ u, o = .panic u ∧ P u σ') ∧ panG C r m h (putd ρ d .junk) σ))
  | (o, .act) :: r, m, h, p, ρ, σ => awpOps C [o] ρ σ fun e ρ' σ' => e = .normal ∧ reG C (m + 1) σ' p ∧ awpG C P K r (m + 1) (σ :: h) p ρ' σ'
def runW : List (O × GK) → (Nat → V × V) → Nat → (Nat → Bool) → Slots → Slots
  | [], _, _, _, ρ => ρ
  | e :: l, W, k, S, ρ => runW l W (k + 1) S (if S k then ap e.1 (W k) ρ else ρ)
theorem get_runW : ∀ (l : List (O × GK)) (W : Nat → V × V) (k : Nat) (S : Nat → Bool) (ρ ρ' : Slots) (t : Nat), get ρ t = get ρ' t → get (runW l W k S ρ) t = get (runW l W k S ρ') t
  | [], _, _, _, _, _, _, h => h
  | e :: l, W, k, S, ρ, ρ', t, h => by
    simp only [runW]
    apply get_runW l
    cases S k
    · exact h
    · simp only [if_true, get_ap, h]
def O.writes (o : O) (t : Nat) : Prop := o.dst = some t ∨ o.op.w1 = some t
theorem runW_congr : ∀ (l : List (O × GK)) (W : Nat → V × V) (k : Nat) (S S' : Nat → Bool) (ρ : Slots) (t : Nat), (∀ i e, l[i]? = some e → e.1.writes t → S (k + i) = S' (k + i)) → get (runW l W k S ρ) t = get (runW l W k S' ρ) t
  | [], _, _, _, _, _, _, _ => rfl
  | e :: l, W, k, S, S', ρ, t, h => by
    simp only [runW]
    rw [runW_congr l W (k + 1) S S' _ t fun i e' he hw => by have := h (i + 1) e' (by simpa using he) hw; rwa [show k + (i + 1) = k + 1 + i by omega] at this]
    apply get_runW
    have h0 := h 0 e (by simp)
    by_cases hw : e.1.writes t
    · rw [show S k = S' k from h0 hw]
    · unfold O.writes at hw
      have h1 : ¬ e.1.dst = some t := fun h => hw (.inl h)
      have h2 : ¬ e.1.op.w1 = some t := fun h => hw (.inr h)
      cases S k <;> cases S' k <;> simp [get_ap, h1, h2]
theorem runW_W : ∀ (l : List (O × GK)) (W W' : Nat → V × V) (k : Nat) (S : Nat → Bool) (ρ : Slots), (∀ i, k ≤ i → W i = W' i) → runW l W k S ρ = runW l W' k S ρ
  | [], _, _, _, _, _, _ => rfl
  | e :: l, W, W', k, S, ρ, h => by
    simp only [runW]
    rw [h k (Nat.le_refl _), runW_W l W W' (k + 1) S _ fun i hi => h i (by omega)]
theorem runW_off : ∀ (l : List (O × GK)) (W : Nat → V × V) (k : Nat) (S : Nat → Bool) (ρ : Slots), (∀ j, k ≤ j → S j = false) → runW l W k S ρ = ρ
  | [], _, _, _, _, _ => rfl
  | e :: l, W, k, S, ρ, h => by
    simp only [runW]
    rw [h k (Nat.le_refl _), runW_off l W (k + 1) S _ fun j hj => h j (by omega)]
    rfl
theorem runW_last : ∀ (l : List (O × GK)) (W : Nat → V × V) (k : Nat) (ρ : Slots) (i : Nat) (e : O × GK), l[i]? = some e → runW l W k (fun j => decide (j < k + i + 1)) ρ = ap e.1 (W (k + i)) (runW l W k (fun j => decide (j < k + i)) ρ)
  | [], _, _, _, _, _, h => by simp at h
  | e' :: l, W, k, ρ, 0, e, h => by
    simp at h; subst h
    simp only [runW]
    rw [runW_off _ _ _ _ _ (fun j hj => by simp; omega), runW_off _ _ _ _ _ (fun j hj => by simp; omega)]
    simp
  | e' :: l, W, k, ρ, i + 1, e, h => by
    simp only [runW]
    have := runW_last l W (k + 1) ρ i e (by simpa using h)
    rw [if_pos (by simp; omega), if_pos (by simp)]
    have e1 : k + (i + 1) = k + 1 + i := by omega
    rw [e1]
    exact runW_last l W (k + 1) _ i e (by simpa using h)
theorem runW_next {l : List (O × GK)} (W : Nat → V × V) (ρ : Slots) {S : Nat → Bool} {i : Nat} {e : O × GK} (he : l[i]? = some e) (hSi : S i = false)
    (hsame : ∀ t, (t ∈ e.1.looksG ∨ e.1.writes t) → ∀ (j : Nat) (q : O × GK), l[j]? = some q → j ≠ i → q.1.writes t → S j = decide (j < i)) :
    (∀ t ∈ e.1.looksG, get (runW l W 0 (fun j => decide (j < i)) ρ) t = get (runW l W 0 S ρ) t) ∧
    ∀ t, get (runW l W 0 (fun j => j == i || S j) ρ) t = get (ap e.1 (W i) (runW l W 0 S ρ)) t := by
  refine ⟨fun t ht => ?_, fun t => ?_⟩
  · refine runW_congr l W 0 _ _ ρ t fun j q hq hw => ?_
    rw [Nat.zero_add]
    by_cases e : j = i
    · subst e; rw [hSi]; simp
    · exact (hsame t (.inl ht) j q hq e hw).symm
  · by_cases hw : e.1.writes t
    · have h1 := runW_last l W 0 ρ i e he
      rw [Nat.zero_add] at h1
      have h2 : get (runW l W 0 (fun j => j == i || S j) ρ) t = get (runW l W 0 (fun j => decide (j < i + 1)) ρ) t := runW_congr l W 0 _ _ ρ t fun j q hq hw' => by
        rw [Nat.zero_add]
        by_cases e : j = i
        · subst e; simp
        · simp only [hsame t (.inr hw) j q hq e hw']
          have : (j == i) = false := by simp [e]
          rw [this, Bool.false_or, decide_eq_decide]; omega
      rw [h2, h1, get_ap, get_ap]
      unfold O.writes at hw
      split
      · rfl
      · rename_i h3
        rw [if_pos (hw.resolve_left h3), if_pos (hw.resolve_left h3)]
    · have h1 : ¬ e.1.dst = some t := fun h => hw (.inl h)
      have h2 : ¬ e.1.op.w1 = some t := fun h => hw (.inr h)
      rw [get_ap, if_neg h1, if_neg h2]
      refine runW_congr l W 0 _ _ ρ t fun j q hq hw' => ?_
      rw [Nat.zero_add]
      have : (j == i) = false := by
        rw [beq_eq_false_iff_ne]
        intro ee; subst ee; rw [he] at hq; cases hq; exact hw hw'
      simp [this]
def nA : List (O × GK) → Nat → (Nat → Bool) → Nat
  | [], _, _ => 0
  | e :: l, k, S => (if (e.2.isAct && S k) = true then 1 else 0) + nA l (k + 1) S
def nb : List (O × GK) → Nat → Nat
  | _, 0 => 0
  | [], _ + 1 => 0
  | e :: l, i + 1 => (if e.2.isAct = true then 1 else 0) + nb l i
theorem nA_congr : ∀ (l : List (O × GK)) (k : Nat) (S S' : Nat → Bool), (∀ j, j < l.length → S (k + j) = S' (k + j)) → nA l k S = nA l k S'
  | [], _, _, _, _ => rfl
  | e :: l, k, S, S', h => by
    simp only [nA]
    rw [show S k = S' k from h 0 (by simp), nA_congr l (k + 1) S S' fun j hj => by have := h (j + 1) (by simpa using hj); rwa [show k + (j + 1) = k + 1 + j by omega] at this]
theorem nA_all : ∀ (l : List (O × GK)) (k : Nat), nA l k (fun _ => true) = nb l l.length
  | [], _ => rfl
  | e :: l, k => by simp only [nA, List.length_cons, nb, Bool.and_true]; rw [nA_all l (k + 1)]
theorem nA_none : ∀ (l : List (O × GK)) (k : Nat), nA l k (fun _ => false) = 0
  | [], _ => rfl
  | e :: l, k => by simp only [nA, Bool.and_false]; rw [nA_none l (k + 1)]; rfl
theorem nA_lo : ∀ (l : List (O × GK)) (k : Nat) (S : Nat → Bool) (c lo : Nat), (∀ j e, l[j]? = some e → e.2.isAct = true → c + nb l j < lo → S (k + j) = true) → min lo (c + nb l l.length) ≤ c + nA l k S
  | [], k, S, c, lo, h => by simp only [nA, List.length_nil, nb]; omega
  | e :: l, k, S, c, lo, h => by
    simp only [nA, List.length_cons, nb]
    have ih := fun c' (hc' : ∀ j, c' + nb l j < lo → c + ((if e.2.isAct = true then 1 else 0) + nb l j) < lo) => nA_lo l (k + 1) S c' lo (fun j e' he ha hn => by
      have := h (j + 1) e' (by simpa using he) ha (by simp only [nb]; exact hc' j hn)
      rwa [show k + (j + 1) = k + 1 + j by omega] at this)
    cases ha : e.2.isAct with
    | false =>
      have := ih c (fun j hn => by simp only [ha]; simp; omega)
      simp only [Bool.false_and]
      simp; omega
    | true =>
      have := ih (c + 1) (fun j hn => by simp only [ha]; simp; omega)
      by_cases hlt : c < lo
      · have h0 := h 0 e (by simp) ha (by simp only [nb]; omega)
        simp only [Nat.add_zero] at h0
        simp only [h0, Bool.and_self]
        simp; omega
      · omega
theorem nA_hi : ∀ (l : List (O × GK)) (k : Nat) (S : Nat → Bool) (c hi : Nat), (∀ j e, l[j]? = some e → e.2.isAct = true → hi ≤ c + nb l j → S (k + j) = false) → c + nA l k S ≤ max c hi
  | [], k, S, c, hi, h => by simp only [nA]; omega
  | e :: l, k, S, c, hi, h => by
    simp only [nA]
    have ih := fun c' (hc' : ∀ j, hi ≤ c' + nb l j → hi ≤ c + ((if e.2.isAct = true then 1 else 0) + nb l j)) => nA_hi l (k + 1) S c' hi (fun j e' he ha hn => by
      have := h (j + 1) e' (by simpa using he) ha (by simp only [nb]; exact hc' j hn)
      rwa [show k + (j + 1) = k + 1 + j by omega] at this)
    cases ha : e.2.isAct with
    | false =>
      have := ih c (fun j hn => by simp only [ha]; simp; omega)
      simp only [Bool.false_and]
      simp; omega
    | true =>
      have := ih (c + 1) (fun j hn => by simp only [ha]; simp; omega)
      by_cases hlt : c < hi
      · split <;> omega
      · have h0 := h 0 e (by simp) ha (by simp only [nb]; omega)
        simp only [Nat.add_zero] at h0
        simp only [h0, Bool.and_false]
        simp; omega
theorem nA_add : ∀ (l : List (O × GK)) (k : Nat) (S : Nat → Bool) (i : Nat) (e : O × GK), l[i]? = some e → S (k + i) = false → nA l k (fun j => j == k + i || S j) = nA l k S + if e.2.isAct = true then 1 else 0
  | [], _, _, _, _, h, _ => by simp at h
  | e' :: l, k, S, 0, e, h, hS => by
    simp at h; subst h
    simp only [Nat.add_zero] at hS ⊢
    simp only [nA, hS, Bool.and_false, beq_self_eq_true, Bool.true_or, Bool.and_true]
    rw [nA_congr l (k + 1) (fun j => j == k || S j) S fun j hj => by
      have : (k + 1 + j == k) = false := by simp; omega
      simp [this]]
    simp; omega
  | e' :: l, k, S, i + 1, e, h, hS => by
    simp only [nA]
    have e1 : k + (i + 1) = k + 1 + i := by omega
    rw [e1] at hS ⊢
    rw [nA_add l (k + 1) S i e (by simpa using h) hS]
    have : (k == k + 1 + i) = false := by simp; omega
    simp only [this, Bool.false_or]; omega
def FactG (C : Cx) (P : V → List (List V) → Prop) (e : O × GK) (k z : Nat) (sq : Nat → List (List V)) (ρi : Slots) (w : V × V) : Prop := match e.2 with
  | .free lo => lo ≤ z → ∀ σ, Loc C e.1 ρi σ w.2
  | .calm lo hi => lo ≤ z → ∀ q, lo ≤ q → q ≤ hi → q ≤ z → Loc C e.1 ρi (sq q) w.2
  | .slot lo => lo ≤ z → ∀ σ, runE C e.1.op ρi σ w.1 w.2 σ
  | .act => (k < z → runE C e.1.op ρi (sq k) w.1 w.2 (sq (k + 1))) ∧ (k = z → panE C e.1.op ρi (sq z) P)
def okG1 (e : O × GK) (k : Nat) : Bool := match e.2 with
  | .free lo => e.1.op.isFree && e.1.op.isCalm && decide (lo ≤ k)
  | .calm lo hi => e.1.op.isCalm && e.1.dst.isSome && decide (lo ≤ k) && decide (k ≤ hi)
  | .slot lo => e.1.op.isSlot && e.1.g.isNone && decide (lo ≤ k)
  | .act => e.1.op.isActG e.1.dst && e.1.g.isNone
theorem one_ex {o : O} {K : Slots → Prop} (h : awpCalm C [o] ρ σ K) : ∃ x ρ', Loc C o ρ σ x ∧ K ρ' ∧ ∀ t, get ρ' t = get (putd ρ o.dst x) t := by
  obtain ⟨xs, hl, ⟨ρ', h1, h2⟩, h3⟩ := calm_ex (k := 0) h
  match xs, hl with
  | [x], _ =>
    obtain ⟨ρi, g1, g2⟩ := h3 0 (by simp) (by simp)
    refine ⟨x, ρ', g1.congr fun t _ => ?_, h1, fun t => ?_⟩
    · rw [g2 t]; simp [steps, runsS]
    · rw [h2 t]; simp [steps, runsS]
theorem one_same {o : O} {ρ' : Slots} {x : V} {d : Nat} (hd : o.dst = some d) (hg : ∀ t, get ρ' t = get (putd ρ o.dst x) t) (h : awpCalm C [o] ρ σ fun ρ'' => ρ'' = ρ') : Loc C o ρ σ x := by
  obtain ⟨x2, ρ2, h1, rfl, h3⟩ := one_ex h
  have h4 := h3 d
  have h5 := hg d
  rw [get_putd, if_pos hd] at h4 h5
  rw [← h5, h4]
  exact h1
theorem calm_w1 {o : O} (h : o.op.isCalm = true) : o.op.w1 = none := by
  cases ho : o.op <;> rw [ho] at h <;> first | rfl | (simp [OP.isCalm, isPure] at h)
theorem ap_calm {o : O} (h : o.op.isCalm = true) (a x : V) (ρ : Slots) : ap o (a, x) ρ = putd ρ o.dst x := by
  unfold ap; rw [calm_w1 h]; rfl
theorem backG_at {o : O} {ρ' : Slots} : ∀ {n : Nat} {h : List (List (List V))}, backG C o ρ ρ' n h → ∀ r, r < n → ∃ σ, h[r]? = some σ ∧ awpCalm C [o] ρ σ fun ρ'' => ρ'' = ρ'
  | 0, _, _, r, hr => by omega
  | n + 1, [], hb, _, _ => hb.elim
  | n + 1, σ :: h, hb, 0, _ => ⟨σ, rfl, hb.1⟩
  | n + 1, σ :: h, hb, r + 1, hr => by
    obtain ⟨σ', h1, h2⟩ := backG_at hb.2 r (by omega)
    exact ⟨σ', by simpa using h1, h2⟩
theorem reG_at {m : Nat} {σ' : List (List V)} : ∀ {p : List PendG}, reG C m σ' p → ∀ q ∈ p, m ≤ q.hi → awpCalm C [q.o] q.ρ σ' fun ρ' => ρ' = q.ρ'
  | [], _, _, hq, _ => by simp at hq
  | x :: p, h, q, hq, hm => by
    rcases List.mem_cons.1 hq with rfl | hq
    · have := h.1; rwa [if_pos hm] at this
    · exact reG_at h.2 q hq hm
theorem head_tail {P : V → List (List V) → Prop} {e : O × GK} {l : List (O × GK)} {k m m' z : Nat} {sq : Nat → List (List V)} {ρ ρ2 : Slots} {w : V × V} {W : Nat → V × V} (hm : m' = m + if e.2.isAct = true then 1 else 0)
    (h0 : FactG C P e m z sq ρ w) (hρ2 : ∀ t, get ρ2 t = get (ap e.1 w ρ) t)
    (ht : ∀ i (hi : i < l.length), ∃ ρi, (∀ t, get ρi t = get (runW l W (k + 1) (fun j => decide (j < k + 1 + i)) ρ2) t) ∧ FactG C P l[i] (m' + nb l i) z sq ρi (W (k + 1 + i))) :
    ∀ i (hi : i < (e :: l).length), ∃ ρi, (∀ t, get ρi t = get (runW (e :: l) (fun i => if i = k then w else W i) k (fun j => decide (j < k + i)) ρ) t) ∧ FactG C P (e :: l)[i] (m + nb (e :: l) i) z sq ρi (if k + i = k then w else W (k + i)) := by
  intro i hi
  cases i with
  | zero =>
    refine ⟨ρ, fun t => ?_, ?_⟩
    · rw [runW_off _ _ _ _ _ fun j hj => by simp; omega]
    · simpa [nb] using h0
  | succ i =>
    obtain ⟨ρi, g1, g2⟩ := ht i (by simpa using hi)
    refine ⟨ρi, fun t => ?_, ?_⟩
    · rw [g1 t]
      simp only [runW, if_pos (show decide (k < k + (i + 1)) = true by simp), if_true]
      rw [runW_W l (fun i => if i = k then w else W i) W (k + 1) _ _ fun j hj => if_neg (by omega), show k + (i + 1) = k + 1 + i by omega]
      exact get_runW _ _ _ _ _ _ _ (hρ2 t)
    · simp only [List.getElem_cons_succ, nb]
      have hne : ¬ (k + (i + 1) = k) := by omega
      simp only [if_neg hne]
      rw [show k + (i + 1) = k + 1 + i by omega, ← Nat.add_assoc, ← hm]
      exact g2
theorem panG_ex {P : V → List (List V) → Prop} {m : Nat} {h : List (List (List V))} {sq : Nat → List (List V)} (hs : sq m = σ) (hh : ∀ r, r < m → h[r]? = some (sq (m - 1 - r))) : ∀ (l : List (O × GK)) (k c : Nat) (ρ : Slots), m < c → (∀ i e, l[i]? = some e → okG1 e (c + nb l i) = true) → panG C l m h ρ σ →
    ∃ W : Nat → V × V, ∀ i (hi : i < l.length), ∃ ρi, (∀ t, get ρi t = get (runW l W k (fun j => decide (j < k + i)) ρ) t) ∧ FactG C P l[i] (c + nb l i) m sq ρi (W (k + i))
  | [], _, _, _, _, _, _ => ⟨fun _ => (.junk, .junk), fun i hi => by simp at hi⟩
  | (o, g) :: l, k, c, ρ, hmc, hok, hp => by
    have hok0 := hok 0 _ rfl
    simp only [nb, Nat.add_zero] at hok0
    have hokt : ∀ c', c' = c + (if g.isAct = true then 1 else 0) → ∀ i e, l[i]? = some e → okG1 e (c' + nb l i) = true := fun c' hc' i e he => by
      have := hok (i + 1) e (by simpa using he)
      simp only [nb] at this
      rw [hc', Nat.add_assoc]; exact this
    have skip : ∀ c', c' = c + (if g.isAct = true then 1 else 0) → FactG C P (o, g) c m sq ρ (.junk, .junk) → panG C l m h (ap o (.junk, .junk) ρ) σ → ∃ W : Nat → V × V, ∀ i (hi : i < ((o, g) :: l).length), ∃ ρi, (∀ t, get ρi t = get (runW ((o, g) :: l) W k (fun j => decide (j < k + i)) ρ) t) ∧ FactG C P ((o, g) :: l)[i] (c + nb ((o, g) :: l) i) m sq ρi (W (k + i)) := fun c' hc' h0 hr => by
      obtain ⟨W, hW⟩ := panG_ex hs hh l (k + 1) c' (ap o (.junk, .junk) ρ) (by omega) (hokt c' hc') hr
      exact ⟨_, head_tail hc' h0 (fun _ => rfl) hW⟩
    cases g with
    | free lo =>
      simp only [panG] at hp
      simp only [okG1, Bool.and_eq_true] at hok0
      split at hp
      · obtain ⟨x, ρ', h1, h2, h3⟩ := one_ex hp
        obtain ⟨W, hW⟩ := panG_ex hs hh l (k + 1) c ρ' hmc (hokt c rfl) h2
        exact ⟨_, head_tail (e := (o, .free lo)) (w := (.junk, x)) rfl (fun _ σ2 => h1.free hok0.1.1 σ2) (fun t => by rw [h3 t, ap_calm hok0.1.2]) hW⟩
      · exact skip c rfl (fun hz => absurd hz (by assumption)) hp
    | calm lo hi =>
      simp only [panG] at hp
      simp only [okG1, Bool.and_eq_true, decide_eq_true_eq] at hok0
      split at hp
      · rename_i hlo
        obtain ⟨x, ρ', h1, ⟨h2, h4⟩, h3⟩ := one_ex hp
        obtain ⟨d, hd⟩ := Option.isSome_iff_exists.1 hok0.1.1.2
        obtain ⟨W, hW⟩ := panG_ex hs hh l (k + 1) c ρ' hmc (hokt c rfl) h4
        refine ⟨_, head_tail (e := (o, .calm lo hi)) (w := (.junk, x)) rfl (fun _ q q1 q2 q3 => ?_) (fun t => by rw [h3 t, ap_calm hok0.1.1.1]) hW⟩
        by_cases e : q = m
        · subst e; rw [hs]; exact h1
        · obtain ⟨σ', g1, g2⟩ := backG_at h2 (m - 1 - q) (by omega)
          rw [hh _ (by omega), show m - 1 - (m - 1 - q) = q by omega] at g1
          cases g1
          exact one_same hd h3 g2
      · exact skip c rfl (fun hz => absurd hz (by assumption)) hp
    | slot lo =>
      simp only [panG] at hp
      simp only [okG1, Bool.and_eq_true, Option.isNone_iff_eq_none] at hok0
      split at hp
      · simp only [awpOps, hok0.1.2] at hp
        obtain ⟨a, b, σ', h1, ⟨-, h2⟩, h3⟩ := runE_split (.inl hok0.1.1) hp
        have hσ := h3 hok0.1.1
        rw [hσ] at h1
        obtain ⟨W, hW⟩ := panG_ex hs hh l (k + 1) c _ hmc (hokt c rfl) h2
        refine ⟨_, head_tail (e := (o, .slot lo)) (w := (a, b)) rfl (fun _ σ2 => ?_) (fun t => rfl) hW⟩
        cases ho : o.op <;> rw [ho] at h1 hok0 <;> first | (simp [OP.isSlot] at hok0; done) | skip
        all_goals (simp only [runE] at h1 ⊢; simpa using h1)
      · exact skip c rfl (fun hz => absurd hz (by assumption)) hp
    | act =>
      simp only [panG] at hp
      exact skip (c + 1) rfl ⟨fun hz => by omega, fun hz => by omega⟩ hp
def ExG (C : Cx) (P : V → List (List V) → Prop) (K : Slots → List (List V) → Prop) (l : List (O × GK)) (k m : Nat) (p : List PendG) (ρ : Slots) (sq0 : Nat → List (List V)) : Prop :=
  ∃ (W : Nat → V × V) (sq : Nat → List (List V)) (z : Nat), (∀ q, q ≤ m → sq q = sq0 q) ∧ m ≤ z ∧ z ≤ m + nb l l.length ∧
    (∀ q ∈ p, ∀ r, m < r → r ≤ z → r ≤ q.hi → awpCalm C [q.o] q.ρ (sq r) fun ρ' => ρ' = q.ρ') ∧
    (∀ i (hi : i < l.length), ∃ ρi, (∀ t, get ρi t = get (runW l W k (fun j => decide (j < k + i)) ρ) t) ∧ FactG C P l[i] (m + nb l i) z sq ρi (W (k + i))) ∧
    (z = m + nb l l.length → ∃ ρf, K ρf (sq z) ∧ ∀ t, get ρf t = get (runW l W k (fun _ => true) ρ) t)
theorem awpG_ex {P : V → List (List V) → Prop} {K : Slots → List (List V) → Prop} : ∀ (l : List (O × GK)) (k m : Nat) (h : List (List (List V))) (p : List PendG) (ρ : Slots) (σ : List (List V)) (sq0 : Nat → List (List V)), sq0 m = σ → (∀ r, r < m → h[r]? = some (sq0 (m - 1 - r))) →
    (∀ i e, l[i]? = some e → okG1 e (m + nb l i) = true) → awpG C P K l m h p ρ σ →
    ExG C P K l k m p ρ sq0
  | [], k, m, h, p, ρ, σ, sq0, hs, hh, hok, hg => ⟨fun _ => (.junk, .junk), sq0, m, fun _ _ => rfl, Nat.le_refl _, by simp [nb], fun q hq r h1 h2 => by omega, fun i hi => by simp at hi, fun _ => ⟨ρ, by rw [hs]; exact hg, fun _ => rfl⟩⟩
  | (o, g) :: l, k, m, h, p, ρ, σ, sq0, hs, hh, hok, hg => by
    have hok0 := hok 0 _ rfl
    simp only [nb, Nat.add_zero] at hok0
    have hokt : ∀ c', c' = m + (if g.isAct = true then 1 else 0) → ∀ i e, l[i]? = some e → okG1 e (c' + nb l i) = true := fun c' hc' i e he => by
      have := hok (i + 1) e (by simpa using he)
      simp only [nb] at this
      rw [hc', Nat.add_assoc]; exact this
    -- the end
    have fin : ∀ {W : Nat → V × V} {w : V × V} {ρ2 : Slots}, (∀ t, get ρ2 t = get (ap o w ρ) t) → ∀ {ρf : Slots}, (∀ t, get ρf t = get (runW l W (k + 1) (fun _ => true) ρ2) t) → ∀ t, get ρf t = get (runW ((o, g) :: l) (fun i => if i = k then w else W i) k (fun _ => true) ρ) t := fun {W w ρ2} h1 {ρf} h2 t => by
      simp only [runW, if_true]
      rw [h2 t, runW_W l (fun i => if i = k then w else W i) W (k + 1) _ _ fun j hj => if_neg (by omega)]
      exact get_runW _ _ _ _ _ _ _ (h1 t)
    -- no act
    have calm : g.isAct = false → ∀ (p' : List PendG) (ρ' : Slots) (w : V × V), (∀ q ∈ p, q ∈ p') → (∀ t, get ρ' t = get (ap o w ρ) t) → awpG C P K l m h p' ρ' σ →
        (∀ (sq : Nat → List (List V)) (z : Nat), m ≤ z → (∀ q, q ≤ m → sq q = sq0 q) → (∀ q ∈ p', ∀ r, m < r → r ≤ z → r ≤ q.hi → awpCalm C [q.o] q.ρ (sq r) fun ρ' => ρ' = q.ρ') → FactG C P (o, g) m z sq ρ w) → ExG C P K ((o, g) :: l) k m p ρ sq0 := fun hna p' ρ' w hp hρ hr hf => by
      obtain ⟨W, sq, z, g1, g2, g3, g4, g5, g6⟩ := awpG_ex l (k + 1) m h p' ρ' σ sq0 hs hh (hokt m (by simp [hna])) hr
      have hn : nb ((o, g) :: l) ((o, g) :: l).length = nb l l.length := by simp [nb, hna]
      exact ⟨fun i => if i = k then w else W i, sq, z, g1, g2, by rw [hn]; exact g3, fun q hq => g4 q (hp q hq), head_tail (by simp [hna]) (hf sq z g2 g1 g4) hρ g5, fun hz => by
        rw [hn] at hz
        obtain ⟨ρf, k1, k2⟩ := g6 hz
        exact ⟨ρf, k1, fin hρ k2⟩⟩
    -- an act
    have acts : g = .act → ∀ (ρ' : Slots) (w : V × V) (σ1 : List (List V)), (∀ t, get ρ' t = get (ap o w ρ) t) → runE C o.op ρ σ w.1 w.2 σ1 → reG C (m + 1) σ1 p → awpG C P K l (m + 1) (σ :: h) p ρ' σ1 → ExG C P K ((o, g) :: l) k m p ρ sq0 := fun hg ρ' w σ1 hρ hE hre hr => by
      subst hg
      obtain ⟨W, sq, z, g1, g2, g3, g4, g5, g6⟩ := awpG_ex l (k + 1) (m + 1) (σ :: h) p ρ' σ1 (fun q => if q ≤ m then sq0 q else σ1) (if_neg (by omega)) (fun r hr => by
        cases r with
        | zero => simp [hs]
        | succ r =>
          have := hh r (by omega)
          simp only [List.getElem?_cons_succ, this]
          rw [if_pos (by omega), show m + 1 - 1 - (r + 1) = m - 1 - r by omega]) (hokt (m + 1) rfl) hr
      have hn : m + nb ((o, .act) :: l) ((o, GK.act) :: l).length = m + 1 + nb l l.length := by simp [nb, GK.isAct]; omega
      have e1 : ∀ q, q ≤ m → sq q = sq0 q := fun q hq => (g1 q (by omega)).trans (if_pos hq)
      have e2 : sq (m + 1) = σ1 := (g1 _ (Nat.le_refl _)).trans (if_neg (by omega))
      refine ⟨fun i => if i = k then w else W i, sq, z, e1, by omega, by rw [hn]; exact g3, fun q hq r h1 h2 h3 => ?_, head_tail (e := (o, .act)) rfl ⟨fun _ => ?_, fun hz => by omega⟩ hρ g5, fun hz => ?_⟩
      · by_cases e : r = m + 1
        · subst e; rw [e2]; exact reG_at hre q hq h3
        · exact g4 q hq r (by omega) h2 h3
      · rw [e2, e1 m (Nat.le_refl _), hs]; exact hE
      · rw [hn] at hz
        obtain ⟨ρf, k1, k2⟩ := g6 hz
        exact ⟨ρf, k1, fin hρ k2⟩
    -- a panic
    have pans : g = .act → panE C o.op ρ σ P → panG C l m h (ap o (.junk, .junk) ρ) σ → ExG C P K ((o, g) :: l) k m p ρ sq0 := fun hg hE hr => by
      subst hg
      obtain ⟨W, hW⟩ := panG_ex (P := P) (sq := sq0) hs hh l (k + 1) (m + 1) _ (by omega) (hokt (m + 1) rfl) hr
      exact ⟨fun i => if i = k then (.junk, .junk) else W i, sq0, m, fun _ _ => rfl, Nat.le_refl _, Nat.le_add_right _ _, fun q hq r h1 h2 => by omega, head_tail (e := (o, .act)) rfl ⟨fun hz => by omega, fun _ => by rw [hs]; exact hE⟩ (fun _ => rfl) hW, fun hz => by simp [nb, GK.isAct] at hz⟩
    cases g with
    | free lo =>
      simp only [awpG] at hg
      simp only [okG1, Bool.and_eq_true] at hok0
      obtain ⟨x, ρ', h1, h2, h3⟩ := one_ex hg
      exact calm rfl p ρ' (.junk, x) (fun _ h => h) (fun t => by rw [h3 t, ap_calm hok0.1.2]) h2 fun sq z _ _ _ _ σ2 => h1.free hok0.1.1 σ2
    | calm lo hi =>
      simp only [awpG] at hg
      simp only [okG1, Bool.and_eq_true, decide_eq_true_eq] at hok0
      obtain ⟨x, ρ', h1, ⟨h2, h4⟩, h3⟩ := one_ex hg
      obtain ⟨d, hd⟩ := Option.isSome_iff_exists.1 hok0.1.1.2
      refine calm rfl _ ρ' (.junk, x) (fun q hq => ?_) (fun t => by rw [h3 t, ap_calm hok0.1.1.1]) h4 fun sq z hz hsq hpd _ q q1 q2 q3 => ?_
      · unfold pushG; split
        · exact List.mem_cons_of_mem _ hq
        · exact hq
      · by_cases e : q = m
        · subst e; rw [hsq q (Nat.le_refl _), hs]; exact h1
        · by_cases e2 : q < m
          · obtain ⟨σ', k1, k2⟩ := backG_at h2 (m - 1 - q) (by omega)
            rw [hh _ (by omega), show m - 1 - (m - 1 - q) = q by omega] at k1
            cases k1
            rw [hsq q (by omega)]
            exact one_same hd h3 k2
          · have := hpd ⟨o, ρ, ρ', hi⟩ (by unfold pushG; rw [if_pos (by omega)]; simp) q (by omega) q3 q2
            exact one_same hd h3 this
    | slot lo =>
      simp only [awpG] at hg
      simp only [okG1, Bool.and_eq_true, Option.isNone_iff_eq_none] at hok0
      simp only [awpOps, hok0.1.2] at hg
      obtain ⟨a, b, σ', h1, ⟨-, h2⟩, h3⟩ := runE_split (.inl hok0.1.1) hg
      have hσ := h3 hok0.1.1
      rw [hσ] at h1 h2
      refine calm rfl p _ (a, b) (fun _ h => h) (fun _ => rfl) h2 fun sq z _ _ _ _ σ2 => ?_
      cases ho : o.op <;> rw [ho] at h1 hok0 <;> first | (simp [OP.isSlot] at hok0; done) | skip
      all_goals (simp only [runE] at h1 ⊢; simpa using h1)
    | act =>
      simp only [okG1, Bool.and_eq_true, Option.isNone_iff_eq_none] at hok0
      obtain ⟨d, op, gd⟩ := o
      have det : (∀ f args, op ≠ .call f args) → (∀ x args, op ≠ .callv x args) → (awpOps C [⟨d, op, gd⟩] ρ σ fun e ρ' σ' => e = .normal ∧ reG C (m + 1) σ' p ∧ awpG C P K l (m + 1) (σ :: h) p ρ' σ') → ExG C P K ((⟨d, op, gd⟩, .act) :: l) k m p ρ sq0 := fun n1 n2 hg => by
        simp only at hok0
        simp only [awpOps, hok0.2] at hg
        obtain ⟨a, b, σ', h1, ⟨-, h2, h4⟩, h3⟩ := runE_split (o := ⟨d, op, gd⟩) (.inr ⟨hok0.1, n1, n2⟩) hg
        exact acts rfl _ (a, b) σ' (fun _ => rfl) h1 h2 h4
      cases op
      case call f args =>
        simp only [awpG] at hg
        rcases hg with ⟨v, σ1, h1, h2, h3⟩ | ⟨h1, h2⟩
        · exact acts rfl _ (.junk, v) σ1 (fun _ => rfl) h1 h2 h3
        · exact pans rfl h1 h2
      case callv x args =>
        simp only [awpG] at hg
        obtain ⟨f, cap, he, hg⟩ := hg
        rcases hg with ⟨v, σ1, h1, h2, h3⟩ | ⟨h1, h2⟩
        · exact acts rfl _ (.junk, v) σ1 (fun _ => rfl) ⟨f, cap, he, h1⟩ h2 h3
        · exact pans rfl ⟨f, cap, he, h1⟩ h2
      all_goals exact det (fun _ _ h => by cases h) (fun _ _ h => by cases h) (by simpa only [awpG] using hg)
def O.wl (o : O) : List Nat := o.dst.toList ++ o.op.w1.toList
def loG (e : O × GK) (k : Nat) : Nat := match e.2 with
  | .free lo => lo
  | .calm lo _ => lo
  | .slot lo => lo
  | .act => k
def hiG (e : O × GK) (k : Nat) : Option Nat := match e.2 with
  | .calm _ hi => some hi
  | .act => some k
  | _ => none
def drawGOK (l : List (O × GK)) (os : List Oper) : Bool :=
  let bf := beforeL os []
  ((List.range os.length).all fun i => match os[i]? with | some o => (edgesOf o).all fun j => decide (j < i) | none => true) &&
  ((List.range l.length).all fun i => match l[i]? with
    | some e => okG1 e (nb l i) && ((List.range l.length).all fun j => j == i || (match l[j]? with
        | some q => (!((e.1.looksG ++ e.1.wl).any fun t => q.1.wl.contains t) || (if j < i then (bf.getD i []).contains j else (bf.getD j []).contains i)) &&
          (!q.2.isAct || ((!decide (nb l j < loG e (nb l i)) || (bf.getD i []).contains j) && (match hiG e (nb l i) with | some hi => !decide (hi ≤ nb l j) || (bf.getD j []).contains i | none => true)))
        | none => true))
    | none => true)
structure OKG (l : List (O × GK)) (os : List Oper) : Prop where
  lt : ∀ (i : Nat) (o : Oper), os[i]? = some o → ∀ j ∈ edgesOf o, j < i
  one : ∀ (i : Nat) (e : O × GK), l[i]? = some e → okG1 e (nb l i) = true
  cmp : ∀ (i : Nat) (e : O × GK), l[i]? = some e → ∀ t, (t ∈ e.1.looksG ∨ e.1.writes t) → ∀ (j : Nat) (q : O × GK), l[j]? = some q → j ≠ i → q.1.writes t → (j < i ∧ j ∈ (beforeL os []).getD i []) ∨ (i < j ∧ i ∈ (beforeL os []).getD j [])
  lo : ∀ (i : Nat) (e : O × GK), l[i]? = some e → ∀ (j : Nat) (q : O × GK), l[j]? = some q → j ≠ i → q.2.isAct = true → nb l j < loG e (nb l i) → j ∈ (beforeL os []).getD i []
  hi : ∀ (i : Nat) (e : O × GK), l[i]? = some e → ∀ (j : Nat) (q : O × GK), l[j]? = some q → j ≠ i → q.2.isAct = true → ∀ h, hiG e (nb l i) = some h → h ≤ nb l j → i ∈ (beforeL os []).getD j []
theorem wl_writes {o : O} {t : Nat} : t ∈ o.wl ↔ o.writes t := by
  unfold O.wl O.writes
  simp [List.mem_append]
theorem drawGOK_ok {l : List (O × GK)} {os : List Oper} (h : drawGOK l os = true) : OKG l os := by
  unfold drawGOK at h
  simp only [Bool.and_eq_true] at h
  obtain ⟨h1, h2⟩ := h
  simp only [List.all_eq_true, List.mem_range] at h1 h2
  have two : ∀ (i : Nat) (e : O × GK), l[i]? = some e → okG1 e (nb l i) = true ∧ ∀ (j : Nat) (q : O × GK), l[j]? = some q → j ≠ i → _ := fun i e he => by
    have := h2 i (List.getElem?_eq_some_iff.1 he).1
    rw [he] at this
    simp only [Bool.and_eq_true, List.all_eq_true, List.mem_range] at this
    refine ⟨this.1, fun j q hq hne => ?_⟩
    have h3 := this.2 j (List.getElem?_eq_some_iff.1 hq).1
    rw [hq] at h3
    have hne' : (j == i) = false := by simp [hne]
    rw [hne', Bool.false_or, Bool.and_eq_true] at h3
    exact h3
  refine ⟨fun i o ho j hj => ?_, fun i e he => (two i e he).1, fun i e he t ht j q hq hne hw => ?_, fun i e he j q hq hne ha hlt => ?_, fun i e he j q hq hne ha hh eh hle => ?_⟩
  · have := h1 i (List.getElem?_eq_some_iff.1 ho).1
    rw [ho] at this
    simpa using List.all_eq_true.1 this j hj
  · have h3 := ((two i e he).2 j q hq hne).1
    have hany : ((e.1.looksG ++ e.1.wl).any fun t => q.1.wl.contains t) = true := by
      rw [List.any_eq_true]
      refine ⟨t, ?_, by rw [List.contains_iff_mem]; exact wl_writes.2 hw⟩
      rw [List.mem_append]
      exact ht.imp id wl_writes.2
    rw [hany] at h3
    simp only [Bool.not_true, Bool.false_or] at h3
    split at h3
    · exact .inl ⟨by assumption, by simpa using h3⟩
    · exact .inr ⟨by omega, by simpa using h3⟩
  · have h3 := ((two i e he).2 j q hq hne).2
    simp only [ha, Bool.not_true, Bool.false_or, Bool.and_eq_true, Bool.or_eq_true, Bool.not_eq_true', decide_eq_false_iff_not] at h3
    rcases h3.1 with h4 | h4
    · exact absurd hlt h4
    · simpa using h4
  · have h3 := ((two i e he).2 j q hq hne).2
    simp only [ha, Bool.not_true, Bool.false_or, Bool.and_eq_true, eh, Bool.or_eq_true, Bool.not_eq_true', decide_eq_false_iff_not] at h3
    rcases h3.2 with h4 | h4
    · exact absurd hle h4
    · simpa using h4
theorem nb_le : ∀ (l : List (O × GK)) (i : Nat), nb l i ≤ nb l l.length
  | [], 0 => Nat.le_refl _
  | [], _ + 1 => Nat.le_refl _
  | e :: l, 0 => Nat.zero_le _
  | e :: l, i + 1 => by simp only [nb, List.length_cons]; have := nb_le l i; omega
theorem nb_lt : ∀ (l : List (O × GK)) (i : Nat) (e : O × GK), l[i]? = some e → e.2.isAct = true → nb l i < nb l l.length
  | [], _, _, h, _ => by simp at h
  | e' :: l, 0, e, h, ha => by simp at h; subst h; simp only [nb, List.length_cons, ha]; simp; omega
  | e' :: l, i + 1, e, h, ha => by simp only [nb, List.length_cons]; have := nb_lt l i e (by simpa using h) ha; omega
theorem drawg_sound {M0 : Facts} {bm0 : List Nat} {w0 : World} (hG : C.glob M0 pr w0) {id : Nat} {ops : Array Oper} {l : List (O × GK)} {M : Facts} {bm : List Nat} {tk : Toks} {a : Act} {w : World} (hok : okOs C.tab n ops (l.map (·.1)) ops.toList = true) (hdr : drawGOK l ops.toList = true)
    (hl : Later M0 bm0 pr w0 M bm w) (h : SRel M bm tk pr ρ σ n a w)
    (hq : awpG C (fun u σ' => ∀ ρ', Q (.panic u) ρ' σ') (fun ρ' σ' => Q .normal ρ' σ') l 0 [] [] ρ σ) :
    (Code.region id ops true).wp C.P (LiftX M0 bm0 pr w0 n Q) a w := by
  obtain ⟨hlen, hget⟩ := okOs_get hok
  have D := drawGOK_ok hdr
  have hnl : l.length = ops.size := by have := hlen; simp at this; exact this
  obtain ⟨W, sq, z, e0, -, e2, -, facts, fin⟩ := awpG_ex l 0 0 [] [] ρ σ (fun _ => σ) rfl (fun r hr => by omega) (fun i e he => by rw [Nat.zero_add]; exact D.one i e he) hq
  simp only [Nat.zero_add] at e2 facts fin
  have sq0 : sq 0 = σ := e0 0 (Nat.le_refl _)
  have fact : ∀ (i : Nat) (e : O × GK), l[i]? = some e → ∃ ρi, (∀ t, get ρi t = get (runW l W 0 (fun j => decide (j < i)) ρ) t) ∧ FactG C (fun u σ' => ∀ ρ', Q (.panic u) ρ' σ') e (nb l i) z sq ρi (W i) := fun i e he => by
    obtain ⟨hi, rfl⟩ := List.getElem?_eq_some_iff.1 he
    exact facts i hi
  obtain ⟨ρe, hρe⟩ : ∃ ρe, ∀ t, get ρe t = get (runW l W 0 (fun _ => true) ρ) t := ⟨_, fun _ => rfl⟩
  have pick : ∃ ρf, (∀ t, get ρf t = get (runW l W 0 (fun _ => true) ρ) t) ∧ (z = nb l l.length → Q .normal ρf (sq z)) := by
    by_cases hz : z = nb l l.length
    · obtain ⟨ρf, k1, k2⟩ := fin hz
      exact ⟨ρf, k2, fun _ => k1⟩
    · exact ⟨ρe, hρe, fun e => absurd e hz⟩
  obtain ⟨ρf, f1, f2⟩ := pick
  refine draw_genX (M := M) (bm := bm) (tk := tk) (fun S => runW l W 0 S ρ) (fun S => sq (nA l 0 S)) ρf (sq (nb l l.length)) (fun S => nA l 0 S ≤ z) (by rw [nA_none]; exact Nat.zero_le _) (fun S S' hS hI => by rw [← nA_congr l 0 S S' fun j hj => by rw [Nat.zero_add]; exact hS j (by omega)]; exact hI) D.lt (fun S S' hS => ⟨fun t => ?_, ?_⟩) hl ?_ (fun hI => ?_) ?_
  · refine runW_congr l W 0 S S' ρ t fun i e he _ => ?_
    rw [Nat.zero_add]; exact hS i (by have := (List.getElem?_eq_some_iff.1 he).1; omega)
  · show sq _ = sq _
    rw [nA_congr l 0 S S' fun j hj => by rw [Nat.zero_add]; exact hS j (by omega)]
  · rw [nA_none, sq0, runW_off _ _ _ _ _ fun _ _ => rfl]; exact h
  · rw [nA_all] at hI
    have hz : z = nb l l.length := by omega
    refine ⟨⟨f1, by rw [nA_all]⟩, ?_⟩
    have := f2 hz
    rwa [hz] at this
  intro S i o' ho' hSi hclo hedge hI M bm tk a w hl h
  have hi1 : i < ops.toList.length := (List.getElem?_eq_some_iff.1 ho').1
  have hi2 : i < l.length := by rw [hnl]; simpa using hi1
  obtain ⟨e, he⟩ : ∃ e, l[i]? = some e := ⟨_, List.getElem?_eq_getElem hi2⟩
  have hlo : (l.map (·.1))[i]? = some e.1 := by rw [List.getElem?_map, he]; rfl
  have hoo := hget i _ o' hlo ho'
  have hbef : ∀ j ∈ (beforeL ops.toList []).getD i [], S j = true := before_closed D.lt (S := fun j => S j = true) hclo i o' ho' hedge
  have hbefj : ∀ q, q < l.length → S q = true → ∀ j ∈ (beforeL ops.toList []).getD q [], S j = true := fun q hq hSq => by
    have hq2 : ops.toList[q]? = some (ops.toList[q]'(by simp; omega)) := List.getElem?_eq_getElem _
    exact before_closed D.lt (S := fun j => S j = true) hclo q _ hq2 (hclo q _ hq2 hSq)
  have hno : ∀ (j : Nat) (q : O × GK), l[j]? = some q → i ∈ (beforeL ops.toList []).getD j [] → S j = false := fun j q hj hm => by
    have : ¬ S j = true := fun hjl => by
      have := hbefj j (List.getElem?_eq_some_iff.1 hj).1 hjl i hm
      rw [hSi] at this; cases this
    simpa using this
  have hsame : ∀ t, (t ∈ e.1.looksG ∨ e.1.writes t) → ∀ (j : Nat) (q : O × GK), l[j]? = some q → j ≠ i → q.1.writes t → S j = decide (j < i) := by
    intro t ht j q hj hne hw
    rcases D.cmp i e he t ht j q hj hne hw with ⟨g1, g2⟩ | ⟨g1, g2⟩
    · rw [hbef j g2]; simp [g1]
    · rw [hno j q hj g2]; simp; omega
  obtain ⟨hgl, hn⟩ := runW_next W ρ he hSi hsame
  obtain ⟨ρi, g1, g2⟩ := fact i e he
  have cg : ∀ t ∈ e.1.looksG, get ρi t = get (runW l W 0 S ρ) t := fun t ht => by rw [g1 t]; exact hgl t ht
  have cgo : ∀ t ∈ e.1.op.slotsG, get ρi t = get (runW l W 0 S ρ) t := fun t ht => cg t (by unfold O.looksG; simp [ht])
  have one := D.one i e he
  have hadd := nA_add l 0 S i e he (by rw [Nat.zero_add]; exact hSi)
  simp only [Nat.zero_add] at hadd
  have hlow : loG e (nb l i) ≤ nb l l.length → loG e (nb l i) ≤ nA l 0 S := fun hle => by
    have := nA_lo l 0 S 0 (loG e (nb l i)) fun j q hj ha hlt => by
      rw [Nat.zero_add] at hlt ⊢
      by_cases hne : j = i
      · subst hne
        rw [he] at hj; cases hj
        unfold loG at hlt
        unfold GK.isAct at ha
        revert ha hlt
        cases e.2 <;> simp
      · exact hbef j (D.lo i e he j q hj hne ha hlt)
    omega
  have hhigh : ∀ h, hiG e (nb l i) = some h → nA l 0 S ≤ h := fun h eh => by
    have := nA_hi l 0 S 0 h fun j q hj ha hle => by
      rw [Nat.zero_add] at hle ⊢
      by_cases hne : j = i
      · subst hne; exact hSi
      · exact hno j q hj (D.hi i e he j q hj hne ha h eh hle)
    omega
  have wantNone : e.1.g = none → Region.wanted o' (yielded ops a.tmps) = true := fun hg => by
    have hgd := hoo
    unfold okO at hgd
    simp only [Bool.and_eq_true] at hgd
    replace hgd := hgd.2
    rw [hg] at hgd
    split at hgd
    · rename_i hg2; simp [Region.wanted, hg2]
    · rename_i e _; cases e
    · cases hgd
  -- a calm one
  have wrapC : e.2.isAct = false → e.1.op.isCalm = true → Loc C e.1 ρi (sq (nA l 0 S)) (W i).2 →
      if Region.wanted o' (yielded ops a.tmps) then o'.wp C.P a w (Lift M bm pr w n fun ρ' σ' => (∀ t, get ρ' t = get (runW l W 0 (fun j => j == i || S j) ρ) t) ∧ σ' = sq (nA l 0 fun j => j == i || S j) ∧ nA l 0 (fun j => j == i || S j) ≤ z) (LiftX M bm pr w n Q)
      else SRel M bm tk pr (runW l W 0 (fun j => j == i || S j) ρ) (sq (nA l 0 fun j => j == i || S j)) n (a.put o'.dst undef) w ∧ nA l 0 (fun j => j == i || S j) ≤ z := fun hna hc hL => by
    have e3 : nA l 0 (fun j => j == i || S j) = nA l 0 S := by rw [hadd, hna]; simp
    rw [e3]
    have hap : ∀ t, get (ap e.1 (W i) (runW l W 0 S ρ)) t = get (putd (runW l W 0 S ρ) e.1.dst (W i).2) t := fun t => by unfold ap; rw [calm_w1 hc]; rfl
    have := one_calm (Q := Q) (hG.mono hl) h hoo (hL.congr fun t ht => cg t (by rw [← calm_looks hc]; exact ht))
    split at this
    · rename_i hw
      rw [if_pos hw]
      exact Oper.wp_mono2 (fun a' w' ⟨M', bm', tk', ρ', σ', ⟨k1, k2⟩, k3, k4⟩ => ⟨M', bm', tk', ρ', σ', ⟨fun t => by rw [k1, hn t, hap t], k2, hI⟩, k3, k4⟩) (fun e a' w' hh => hh) this
    · rename_i hw
      rw [if_neg hw]
      exact ⟨this.congr fun t => by rw [hn t, hap t], hI⟩
  -- one that is not
  have wrapE : e.1.g = none → (e.1.op.isSlot = true ∨ e.1.op.isActG e.1.dst = true) → nA l 0 (fun j => j == i || S j) ≤ z → runE C e.1.op ρi (sq (nA l 0 S)) (W i).1 (W i).2 (sq (nA l 0 fun j => j == i || S j)) →
      if Region.wanted o' (yielded ops a.tmps) then o'.wp C.P a w (Lift M bm pr w n fun ρ' σ' => (∀ t, get ρ' t = get (runW l W 0 (fun j => j == i || S j) ρ) t) ∧ σ' = sq (nA l 0 fun j => j == i || S j) ∧ nA l 0 (fun j => j == i || S j) ≤ z) (LiftX M bm pr w n Q)
      else SRel M bm tk pr (runW l W 0 (fun j => j == i || S j) ρ) (sq (nA l 0 fun j => j == i || S j)) n (a.put o'.dst undef) w ∧ nA l 0 (fun j => j == i || S j) ≤ z := fun hg hc hz hE => by
    rw [if_pos (wantNone hg)]
    refine Oper.wp_mono2 (fun a' w' ⟨M', bm', tk', ρ', σ', ⟨k1, k2⟩, k3, k4⟩ => ⟨M', bm', tk', ρ', σ', ⟨fun t => by rw [k1, hn t], k2, hz⟩, k3, k4⟩) (fun e a' w' ⟨_, _, _, _, _, _, hf, _⟩ => hf.elim) (runO_sound (Q := fun _ _ _ => False) (hG.mono hl) h hoo (runE_run hc (runE_congr cgo hE)))
  obtain ⟨o, g⟩ := e
  cases g with
  | free lo =>
    simp only [okG1, Bool.and_eq_true, decide_eq_true_eq] at one
    have := hlow (by simp only [loG]; have := nb_le l i; omega)
    exact wrapC rfl one.1.2 (g2 (by simp only [loG] at this; omega) _)
  | calm lo hi =>
    simp only [okG1, Bool.and_eq_true, decide_eq_true_eq] at one
    have h1 := hlow (by simp only [loG]; have := nb_le l i; omega)
    have h2 := hhigh hi rfl
    simp only [loG] at h1
    exact wrapC rfl one.1.1.1 (g2 (by omega) _ h1 h2 hI)
  | slot lo =>
    simp only [okG1, Bool.and_eq_true, Option.isNone_iff_eq_none, decide_eq_true_eq] at one
    have h1 := hlow (by simp only [loG]; have := nb_le l i; omega)
    simp only [loG] at h1
    have e3 : nA l 0 (fun j => j == i || S j) = nA l 0 S := by rw [hadd]; simp [GK.isAct]
    exact wrapE one.1.2 (.inl one.1.1) (by rw [e3]; exact hI) (by rw [e3]; exact g2 (by omega) _)
  | act =>
    simp only [okG1, Bool.and_eq_true, Option.isNone_iff_eq_none] at one
    have hlt := nb_lt l i _ he rfl
    have h1 := hlow (by simp only [loG]; omega)
    have h2 := hhigh _ rfl
    simp only [loG] at h1
    have hc : nA l 0 S = nb l i := by omega
    have e3 : nA l 0 (fun j => j == i || S j) = nb l i + 1 := by rw [hadd, hc]; simp [GK.isAct]
    by_cases hz : nb l i < z
    · exact wrapE one.2 (.inr one.1) (by rw [e3]; omega) (by rw [e3, hc]; exact g2.1 hz)
    · have hzz : nb l i = z := by omega
      have hp := g2.2 hzz
      rw [if_pos (wantNone one.2)]
      have hE := panE_run (o := o) (panE_congr (ρ' := runW l W 0 S ρ) cgo hp)
      rw [← hzz, ← hc] at hE
      refine Oper.wp_mono2 (fun a' w' ⟨M', bm', tk', ρ', σ', hf, k3, k4⟩ => hf.elim) (fun e a' w' ⟨M', bm', tk', ρ', σ', x, ⟨u, k1, k2⟩, k3⟩ => ⟨M', bm', tk', ρ', σ', x, by subst k1; exact k2 ρ', k3⟩) (runO_sound (K := fun _ _ => False) (Q := fun e _ σ' => ∃ u, e = .panic u ∧ ∀ ρ', Q (.panic u) ρ' σ') (hG.mono hl) h hoo hE)
end
end Go.Proofs.Ytinenohgemndiaa
set_option linter.unusedSectionVars false
