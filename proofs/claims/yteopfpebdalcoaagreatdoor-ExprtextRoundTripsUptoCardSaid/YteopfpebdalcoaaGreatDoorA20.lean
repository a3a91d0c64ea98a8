/-
  The plain world, all of it: an abstract machine over plain data, and the proof that it is sound.
-/
import Derived.Test.YteopfpebdalcoaaGreatDoorA18
import Derived.Orders
import Derived.RowKit
import Derived.Recover
namespace Go.Proofs.YteopfpebdalcoaaGreatDoor
open Go.RowKit
def Shift (n0 : Nat) (ρ : Slots) (σ : List (List V)) (ρ' : Slots) (σ' : List (List V)) : Prop :=
  ∀ (M : Facts) (bm : List Nat) (tk : Toks) (pr : Prot) (n : Nat) (a : Act) (w : World), SRel M bm tk pr ρ σ n a w →
    ∃ M' bm', SRel M' bm' tk pr ρ' σ' n a w ∧ ∀ M0 bm0 w0, bm0.length = n0 → Later M0 bm0 pr w0 M bm w → Later M0 bm0 pr w0 M' bm' w
theorem Shift.refl (n0 : Nat) (ρ : Slots) (σ : List (List V)) : Shift n0 ρ σ ρ σ := fun M bm _ _ _ _ _ h => ⟨M, bm, h, fun _ _ _ _ h => h⟩
theorem Shift.trans {n0 : Nat} {ρ ρ' ρ'' : Slots} {σ σ' σ'' : List (List V)} (h : Shift n0 ρ σ ρ' σ') (k : Shift n0 ρ' σ' ρ'' σ'') : Shift n0 ρ σ ρ'' σ'' := fun M bm tk pr n a w hs => by
  obtain ⟨M1, b1, h1, h2⟩ := h M bm tk pr n a w hs
  obtain ⟨M2, b2, h3, h4⟩ := k M1 b1 tk pr n a w h1
  exact ⟨M2, b2, h3, fun M0 bm0 w0 e hl => h4 M0 bm0 w0 e (h2 M0 bm0 w0 e hl)⟩
theorem Shift.keep (n0 : Nat) (l : List Nat) (ρ : Slots) (σ : List (List V)) : Shift n0 ρ σ (keepOnly l ρ) σ := fun M bm _ _ _ _ _ h => ⟨M, bm, h.keep l, fun _ _ _ _ h => h⟩
theorem Shift.cut {n0 k : Nat} {ρ : Slots} {σ : List (List V)} (hk : n0 ≤ k) (h1 : boxesBelow k (σ.take k) = true) (h2 : slotsBelow k ρ = true) : Shift n0 ρ σ ρ (σ.take k) := fun M bm _ _ _ _ _ h =>
  ⟨M, bm.take k, h.drop h1 h2, fun _ _ _ e hl => hl.drop (by omega)⟩
section
variable {M : Facts} {bm : List Nat} {tk : Toks} {pr : Prot} {ρ : Slots} {σ : List (List V)} {n : Nat} {a : Act} {w : World} {k : Nat}
end
end Go.Proofs.YteopfpebdalcoaaGreatDoor
set_option linter.unusedVariables false
set_option linter.unusedSimpArgs false
set_option linter.unusedSectionVars false
namespace Go.Proofs.YteopfpebdalcoaaGreatDoor
open Go.RowKit
inductive Cd where
  | skip
  | ops (l : List O) (keep : List Nat)
  | draw (l : List O) (keep : List Nat)
  | draws (l : List O) (keep : List Nat)
  | drawb (s d0 d1 T k bytes : Nat) (y : X) (l : List O) (keep : List Nat)
  | drawx (pre : List O) (d : Option Nat) (f : FuncId) (args : List X) (post : List O) (kk : Nat) (y z : X) (keep : List Nat)
  | drawg (l : List (O × GK)) (keep : List Nat)
  | seq (a b : Cd)
  | cond (x : X) (a b : Cd)
  | block (id : Nat) (a : Cd)
  | loop (a : Cd)
  | exit (id : Nat)
  | ret
abbrev APost := AEx → Slots → List (List V) → Prop
def andThen (next : Slots → List (List V) → Prop) (Q : APost) : APost := fun e ρ σ => match e with
  | .normal => next ρ σ
  | e => Q e ρ σ
def inBlk (id : Nat) (Q : APost) : APost := fun e ρ σ => match e with
  | .exit j => if j = id then Q .normal ρ σ else Q (.exit j) ρ σ
  | e => Q e ρ σ
inductive Up : List (List V) → List (List V) → Prop
  | refl (σ : List (List V)) : Up σ σ
  | step {σ σ' : List (List V)} {i : Nat} {cs : List V} {off : Nat} (T : TypeId) (k : Nat) (h1 : σ[i]? = some cs) (h2 : cs[off]? = some .nil) (h : Up (σ.set i (cs.set off (.own T k []))) σ') : Up σ σ'
theorem SRel.nil_own {M : Facts} {bm : List Nat} {tk : Toks} {pr : Prot} {ρ : Slots} {σ : List (List V)} {n : Nat} {a : Act} {w : World} (h : SRel M bm tk pr ρ σ n a w) {i : Nat} {cs : List V} {off : Nat} (T : TypeId) (k : Nat) (h1 : σ[i]? = some cs) (h2 : cs[off]? = some .nil) : SRel M bm tk pr ρ (σ.set i (cs.set off (.own T k []))) n a w := by
  refine ⟨⟨h.inv.facts, by rw [List.length_set]; exact h.inv.len, fun i' b cs' hi hc => ?_, h.inv.free, h.inv.bmnd, h.inv.tok, h.inv.inj, h.inv.prlt⟩, h.defers, h.size, h.slots⟩
  by_cases e : i' = i
  · subst e
    obtain ⟨vs, T', g1, g2, g3⟩ := h.inv.box i' b cs hi h1
    have hl : i' < σ.length := (List.getElem?_eq_some_iff.1 h1).1
    rw [List.getElem?_set_self hl] at hc
    cases hc
    refine ⟨vs, T', g1, by rw [List.length_set]; exact g2, fun j hj hj' => ?_⟩
    have hj0 : j < cs.length := by simpa using hj
    obtain ⟨k1, k2⟩ := g3 j hj0 hj'
    by_cases e2 : j = off
    · subst e2
      have hn : cs[j] = .nil := (List.getElem?_eq_some_iff.1 h2).2
      rw [List.getElem_set_self]
      refine ⟨?_, k2⟩
      have hr := k1.rep
      rw [hn] at hr
      generalize vs[j] = v at hr ⊢
      cases hr
      exact ⟨.own (DRep.nil M), fun T2 k2 rows e => by cases e; exact .inl ⟨rfl, rfl⟩⟩
    · rw [List.getElem_set_ne (Ne.symm e2)]
      exact ⟨k1, k2⟩
  · rw [List.getElem?_set_ne (Ne.symm e)] at hc
    exact h.inv.box i' b cs' hi hc
theorem SRel.up {M : Facts} {bm : List Nat} {tk : Toks} {pr : Prot} {ρ : Slots} {σ σ' : List (List V)} {n : Nat} {a : Act} {w : World} (hu : Up σ σ') (h : SRel M bm tk pr ρ σ n a w) : SRel M bm tk pr ρ σ' n a w := by
  induction hu with
  | refl σ => exact h
  | step T k h1 h2 _ ih => exact ih (h.nil_own T k h1 h2)
theorem Shift.up (n0 : Nat) (ρ : Slots) {σ σ' : List (List V)} (hu : Up σ σ') : Shift n0 ρ σ ρ σ' := fun M bm _ _ _ _ _ h => ⟨M, bm, h.up hu, fun _ _ _ _ h => h⟩
def awp (C : Cx) (n0 : Nat) : Cd → Slots → List (List V) → APost → Prop
  | .skip, ρ, σ, Q => Q .normal ρ σ
  | .ops l keep, ρ, σ, Q => awpOps C l ρ σ fun e ρ' σ' => Q e (keepOnly keep ρ') σ'
  | .draw l keep, ρ, σ, Q => awpCalm C l ρ σ fun ρ' => Q .normal (keepOnly keep ρ') σ
  | .draws l keep, ρ, σ, Q => awpS C σ l ρ none fun ρ' σ' => Q .normal (keepOnly keep ρ') σ'
  | .drawx pre d f args post kk y z keep, ρ, σ, Q => awpX C pre d f args post kk y z ρ σ (fun ρ' σ' => Q .normal (keepOnly keep ρ') σ') (fun u σ' => ∀ ρ', Q (.panic u) (keepOnly keep ρ') σ')
  | .drawb s d0 d1 T k bytes y l keep, ρ, σ, Q => awpB C s d0 d1 T k bytes y l ρ σ fun ρ' => Q .normal (keepOnly keep ρ') σ
  | .drawg l keep, ρ, σ, Q => awpG C (fun u σ' => ∀ ρ', Q (.panic u) (keepOnly keep ρ') σ') (fun ρ' σ' => Q .normal (keepOnly keep ρ') σ') l 0 [] [] ρ σ
  | .seq a b, ρ, σ, Q => awp C n0 a ρ σ (andThen (fun ρ' σ' => awp C n0 b ρ' σ' Q) Q)
  | .cond x a b, ρ, σ, Q => match ev C ρ x with
    | .d (.lit (.bool t)) => (t = true → awp C n0 a ρ σ Q) ∧ (t = false → awp C n0 b ρ σ Q)
    | _ => False
  | .block id a, ρ, σ, Q => awp C n0 a ρ σ (inBlk id Q)
  | .loop a, ρ, σ, Q => ∃ (ρ1 : Slots) (σ1 : List (List V)), Shift n0 ρ σ ρ1 σ1 ∧ ∃ I : Nat → Slots → List (List V) → Prop, (∃ m, I m ρ1 σ1) ∧ ∀ m ρ' σ', I m ρ' σ' → awp C n0 a ρ' σ' (andThen (fun ρ'' σ'' => ∃ m', m' < m ∧ ∃ ρ3 σ3, Shift n0 ρ'' σ'' ρ3 σ3 ∧ I m' ρ3 σ3) Q)
  | .exit id, ρ, σ, Q => Q (.exit id) ρ σ
  | .ret, ρ, σ, Q => Q .ret ρ σ
def okC (tab : Tab) (n : Nat) : Cd → Code → Bool
  | .skip, .skip => true
  | .ops l _, .region _ ops false => okOs tab n ops l ops.toList
  | .draw l _, .region _ ops true => okOs tab n ops l ops.toList && drawOK l ops.toList
  | .draws l _, .region _ ops true => okOs tab n ops l ops.toList && drawSOK l ops.toList
  | .drawx pre d f args post kk y z _, .region _ ops true => okOs tab n ops (xL pre d f args post kk y z) ops.toList && drawXOK pre.length post.length (xL pre d f args post kk y z) ops.toList
  | .drawb s d0 d1 T k bytes y l _, .region _ ops true => okOs tab n ops (bL s d0 d1 T k bytes y l) ops.toList && drawBOK s d0 d1 y l ops.toList
  | .drawg l _, .region _ ops true => okOs tab n ops (l.map (·.1)) ops.toList && drawGOK l ops.toList
  | .seq a b, .seq a' b' => okC tab n a a' && okC tab n b b'
  | .cond x a b, .cond x' a' b' => okX x x' && okC tab n a a' && okC tab n b b'
  | .block i a, .block i' a' => i == i' && okC tab n a a'
  | .loop a, .loop a' => okC tab n a a'
  | .exit i, .exit i' => i == i'
  | .ret, .ret => true
  | _, _ => false
section
variable {C : Cx} {n0 n : Nat} {pr : Prot} {M0 : Facts} {bm0 : List Nat} {w0 : World}
theorem LiftX.keep {M : Facts} {bm : List Nat} {w : World} {Q : APost} {l : List Nat} {e : Exit} {a : Act} {w' : World} (h : LiftX M bm pr w n (fun x ρ σ => Q x (keepOnly l ρ) σ) e a w') : LiftX M bm pr w n Q e a w' := by
  obtain ⟨M', bm', tk', ρ', σ', x, h1, h2, h3, h4⟩ := h
  exact ⟨M', bm', tk', _, σ', x, h1, h2, h3.keep l, h4⟩
theorem awp_sound (hG : C.glob M0 pr w0) (hn0 : bm0.length = n0) : ∀ {c : Cd} {c' : Code} {M : Facts} {bm : List Nat} {tk : Toks} {ρ : Slots} {σ : List (List V)} {a : Act} {w : World} {Q : APost}, okC C.tab n c c' = true → Later M0 bm0 pr w0 M bm w → SRel M bm tk pr ρ σ n a w →
    awp C n0 c ρ σ Q → c'.wp C.P (LiftX M0 bm0 pr w0 n Q) a w := by
  intro c
  induction c with
  | skip =>
    intro c' M bm tk ρ σ a w Q hok hl h hq
    cases c' <;> simp only [okC] at hok <;> first | (cases hok; done) | skip
    exact wp_skip ⟨M, bm, tk, ρ, σ, _, hq, .normal, h, hl⟩
  | ops l keep =>
    intro c' M bm tk ρ σ a w Q hok hl h hq
    cases c' with
    | region id ops draw =>
      cases draw with
      | false =>
        have hok : okOs C.tab n ops l ops.toList = true := hok
        exact wp_mono (wp_region_list (awpOps_sound hG hok hl h hq)) (fun e a w hL => LiftX.keep (l := keep) hL)
      | true => cases hok
    | _ => cases hok
  | draw l keep =>
    intro c' M bm tk ρ σ a w Q hok hl h hq
    cases c' with
    | region id ops draw =>
      cases draw with
      | true =>
        have hok : (okOs C.tab n ops l ops.toList && drawOK l ops.toList) = true := hok
        simp only [Bool.and_eq_true] at hok
        exact wp_mono (draw_sound (Q := fun x ρ σ => Q x (keepOnly keep ρ) σ) hG hok.1 hok.2 hl h hq) (fun e a w hL => LiftX.keep (l := keep) hL)
      | false => cases hok
    | _ => cases hok
  | draws l keep =>
    intro c' M bm tk ρ σ a w Q hok hl h hq
    cases c' with
    | region id ops draw =>
      cases draw with
      | true =>
        have hok : (okOs C.tab n ops l ops.toList && drawSOK l ops.toList) = true := hok
        simp only [Bool.and_eq_true] at hok
        exact wp_mono (draws_sound (Q := fun x ρ σ => Q x (keepOnly keep ρ) σ) hG hok.1 hok.2 hl h hq) (fun e a w hL => LiftX.keep (l := keep) hL)
      | false => cases hok
    | _ => cases hok
  | drawb s0 d0 d1 T k bytes y l keep =>
    intro c' M bm tk ρ σ a w Q hok hl h hq
    cases c' with
    | region id ops draw =>
      cases draw with
      | true =>
        have hok : (okOs C.tab n ops (bL s0 d0 d1 T k bytes y l) ops.toList && drawBOK s0 d0 d1 y l ops.toList) = true := hok
        simp only [Bool.and_eq_true] at hok
        exact wp_mono (drawb_sound (Q := fun x ρ σ => Q x (keepOnly keep ρ) σ) hG hok.1 hok.2 hl h hq) (fun e a w hL => LiftX.keep (l := keep) hL)
      | false => cases hok
    | _ => cases hok
  | drawx pre d f args post kk y z keep =>
    intro c' M bm tk ρ σ a w Q hok hl h hq
    cases c' with
    | region id ops draw =>
      cases draw with
      | true =>
        have hok : (okOs C.tab n ops (xL pre d f args post kk y z) ops.toList && drawXOK pre.length post.length (xL pre d f args post kk y z) ops.toList) = true := hok
        simp only [Bool.and_eq_true] at hok
        exact wp_mono (drawx_sound (Q := fun x ρ σ => Q x (keepOnly keep ρ) σ) hG hok.1 hok.2 hl h hq) (fun e a w hL => LiftX.keep (l := keep) hL)
      | false => cases hok
    | _ => cases hok
  | drawg l keep =>
    intro c' M bm tk ρ σ a w Q hok hl h hq
    cases c' with
    | region id ops draw =>
      cases draw with
      | true =>
        have hok : (okOs C.tab n ops (l.map (·.1)) ops.toList && drawGOK l ops.toList) = true := hok
        simp only [Bool.and_eq_true] at hok
        exact wp_mono (drawg_sound (Q := fun x ρ σ => Q x (keepOnly keep ρ) σ) hG hok.1 hok.2 hl h hq) (fun e a w hL => LiftX.keep (l := keep) hL)
      | false => cases hok
    | _ => cases hok
  | seq x y ihx ihy =>
    intro c' M bm tk ρ σ a w Q hok hl h hq
    cases c' <;> simp only [okC, Bool.and_eq_true] at hok <;> first | (cases hok; done) | skip
    refine wp_seq (wp_mono (ihx hok.1 hl h hq) (fun e a' w' hL => ?_))
    obtain ⟨M', bm', tk', ρ', σ', x, k1, k2, k3, k4⟩ := hL
    cases k2 with
    | normal => exact ihy hok.2 k4 k3 k1
    | ret => exact ⟨M', bm', tk', ρ', σ', _, k1, .ret, k3, k4⟩
    | exit id => exact ⟨M', bm', tk', ρ', σ', _, k1, .exit id, k3, k4⟩
    | panic hp => exact ⟨M', bm', tk', ρ', σ', _, k1, .panic hp, k3, k4⟩
  | cond x y z ihy ihz =>
    intro c' M bm tk ρ σ a w Q hok hl h hq
    cases c' <;> simp only [okC, Bool.and_eq_true] at hok <;> first | (cases hok; done) | skip
    have hx := okX_sound (hG.mono hl) h hok.1.1
    simp only [awp] at hq
    split at hq
    · rename_i t e
      rw [e] at hx
      have hv := hx.bool_inv
      cases t with
      | true => exact wp_cond_true hv (ihy hok.1.2 hl h (hq.1 rfl))
      | false => exact wp_cond_false hv (ihz hok.2 hl h (hq.2 rfl))
    · exact hq.elim
  | block id x ih =>
    intro c' M bm tk ρ σ a w Q hok hl h hq
    cases c' <;> simp only [okC, Bool.and_eq_true, beq_iff_eq] at hok <;> first | (cases hok; done) | skip
    obtain ⟨rfl, hok⟩ := hok
    refine wp_block (wp_mono (ih hok hl h hq) (fun e a' w' hL => ?_))
    obtain ⟨M', bm', tk', ρ', σ', x, k1, k2, k3, k4⟩ := hL
    cases k2 with
    | normal => exact ⟨M', bm', tk', ρ', σ', _, k1, .normal, k3, k4⟩
    | ret => exact ⟨M', bm', tk', ρ', σ', _, k1, .ret, k3, k4⟩
    | exit j =>
      simp only [inBlk] at k1
      simp only [Exit.inBlock]
      split
      · rename_i e; rw [if_pos e] at k1; exact ⟨M', bm', tk', ρ', σ', _, k1, .normal, k3, k4⟩
      · rename_i e; rw [if_neg e] at k1; exact ⟨M', bm', tk', ρ', σ', _, k1, .exit j, k3, k4⟩
    | panic hp => exact ⟨M', bm', tk', ρ', σ', _, k1, .panic hp, k3, k4⟩
  | loop x ih =>
    intro c' M bm tk ρ σ a w Q hok hl h hq
    cases c' <;> simp only [okC] at hok <;> first | (cases hok; done) | skip
    obtain ⟨ρ1, σ1, hsh, I, ⟨m, hm⟩, hI⟩ := hq
    obtain ⟨M1, bm1, h1, h2⟩ := hsh M bm tk pr n a w h
    have hl1 := h2 M0 bm0 w0 hn0 hl
    rename_i c'
    intro b k cs
    have key : ∀ (m : Nat) (M : Facts) (bm : List Nat) (tk : Toks) (ρ : Slots) (σ : List (List V)) (a : Act) (w : World), Later M0 bm0 pr w0 M bm w → SRel M bm tk pr ρ σ n a w → I m ρ σ →
        ∃ e a' w', LiftX M0 bm0 pr w0 n Q e a' w' ∧ Arrives C.P (lone (b.at a (.code c' :: .inLoop c' :: k)) cs w) b k cs e a' w' := by
      intro m
      induction m using Nat.strongRecOn with
      | _ m ihm =>
      intro M bm tk ρ σ a w hl h hm
      obtain ⟨e, a₁, w₁, hq, harr⟩ := ih hok hl h (hI m ρ σ hm) b (.inLoop c' :: k) cs
      obtain ⟨M', bm', tk', ρ', σ', x, k1, k2, k3, k4⟩ := hq
      cases k2 with
      | normal =>
        obtain ⟨m', hlt, ρ3, σ3, g1, g4⟩ := k1
        obtain ⟨M3, bm3, g2, g3⟩ := g1 M' bm' tk' pr n a₁ w₁ k3
        obtain ⟨e₂, a₂, w₂, hq₂, harr₂⟩ := ihm m' hlt M3 bm3 tk' ρ3 σ3 a₁ w₁ (g3 M0 bm0 w0 hn0 k4) g2 g4
        exact ⟨e₂, a₂, w₂, hq₂, .of_steps (Steps.trans harr (.one step_inLoop)) harr₂⟩
      | ret => exact ⟨_, a₁, w₁, ⟨M', bm', tk', ρ', σ', _, k1, .ret, k3, k4⟩, .pass (x := .inLoop c') rfl (fun _ _ => .inl (by simp)) harr⟩
      | exit id => exact ⟨_, a₁, w₁, ⟨M', bm', tk', ρ', σ', _, k1, .exit id, k3, k4⟩, .pass (x := .inLoop c') rfl (fun _ _ => .inl (by simp)) harr⟩
      | panic hp => exact ⟨_, a₁, w₁, ⟨M', bm', tk', ρ', σ', _, k1, .panic hp, k3, k4⟩, .pass (x := .inLoop c') rfl (fun _ _ => .inl (by simp)) harr⟩
    obtain ⟨e, a', w', hq, harr⟩ := key m M1 bm1 tk _ σ1 a w hl1 h1 hm
    exact ⟨e, a', w', hq, .of_steps (.one step_loop) harr⟩
  | exit id =>
    intro c' M bm tk ρ σ a w Q hok hl h hq
    cases c' <;> simp only [okC, beq_iff_eq] at hok <;> first | (cases hok; done) | skip
    subst hok
    exact wp_exit ⟨M, bm, tk, ρ, σ, _, hq, .exit id, h, hl⟩
  | ret =>
    intro c' M bm tk ρ σ a w Q hok hl h hq
    cases c' <;> simp only [okC] at hok <;> first | (cases hok; done) | skip
    exact wp_ret ⟨M, bm, tk, ρ, σ, _, hq, .ret, h, hl⟩
end
end Go.Proofs.YteopfpebdalcoaaGreatDoor
namespace Go.Proofs.YteopfpebdalcoaaGreatDoor
open Go.RowKit
inductive D.Wf : D → Prop
  | lit (v : Value) (h : Fits v) : D.Wf (.lit v)
  | sl (rows : List (List D)) (hl : rows.length ≤ maxLen) (h : ∀ i j (hi : i < rows.length) (hj : j < rows[i].length), D.Wf rows[i][j]) : D.Wf (.sl rows)
theorem DRep.wf {M : Facts} {x : D} {v : Value} (h : DRep M x v) : x.Wf := by
  induction h with
  | lit v h => exact .lit v h
  | sl rows k p cap val hk hd hf hc hm ih => exact .sl rows (by omega) ih
inductive V.Wf : V → Prop
  | d {x : D} (h : x.Wf) : V.Wf (.d x)
  | own {T k : Nat} {rows : List (List D)} (h : (D.sl rows).Wf) : V.Wf (.own T k rows)
  | agg {cs : List V} (h : ∀ i (h : i < cs.length), V.Wf cs[i]) : V.Wf (.agg cs)
  | nil : V.Wf .nil
  | tup (cs : List V) : V.Wf (.tup cs)
  | ptr (i o : Nat) : V.Wf (.ptr i o)
  | bsl (i o n k : Nat) : V.Wf (.bsl i o n k)
  | row (cs : List D) (o : Nat) : V.Wf (.row cs o)
  | fn (f : FuncId) (cs : List V) : V.Wf (.fn f cs)
  | iface (t : TypeId) (v : V) : V.Wf (.iface t v)
  | junk : V.Wf .junk
theorem Rep.wf {M : Facts} {bm : List Nat} {x : V} {v : Value} (h : Rep M bm x v) : x.Wf := by
  induction h with
  | d h => exact .d h.wf
  | own h => exact .own h.wf
  | nil => exact .nil
  | agg hl h h1 ih => exact .agg fun i hi => ih i hi (by omega)
  | tup hl h ih => exact .tup _
  | ptr h => exact .ptr _ _
  | bsl h hc hm => exact .bsl _ _ _ _
  | row val hf hd => exact .row _ _
  | fn hl h ih => exact .fn _ _
  | iface h ih => exact .iface _ _
  | junk v => exact .junk
inductive RV where
  | t (n : Nat) (own : Bool)
  | c (n k : Nat) (ag : Bool)
def res1 (σ : List (List V)) (ρ : Slots) : RV → Option V
  | .t n true => some (get ρ n)
  | .t n false => some (get ρ n).lend
  | .c n k ag => (loadV σ k ag (get ρ n)).map V.lend
def resL (σ : List (List V)) (ρ : Slots) : List RV → Option (List V)
  | [] => some []
  | r :: rs => match res1 σ ρ r, resL σ ρ rs with | some v, some l => some (v.lend :: l) | _, _ => none
def resV (σ : List (List V)) (ρ : Slots) : List RV → Option V
  | [r] => res1 σ ρ r
  | rs => (resL σ ρ rs).map V.tup
def okRV (tab : Tab) : RV → ResultVar → Bool
  | .t n _, .tmp m => n == m
  | .c n k ag, .cell m t => n == m && (match tab t with | some i => i.sz == k && i.agg == ag | none => false)
  | _, _ => false
def okRVs (tab : Tab) : List RV → List ResultVar → Bool
  | [], [] => true
  | r :: rs, r' :: rs' => okRV tab r r' && okRVs tab rs rs'
  | _, _ => false
def okFn (tab : Tab) (fn : Func) (m : Nat) (c : Cd) (rs : List RV) : Bool :=
  (match fn.body with | some b => okC tab fn.ntmps c b | none => false) && okRVs tab rs fn.results.toList && decide (m ≤ fn.ntmps) && !(fn.name == "runtime.NumGoroutine")
def fin (n0 : Nat) (rs : List RV) (Q : Out → List (List V) → Prop) : APost := fun e ρ σ' => match e with
  | .normal => ∃ ρ2 σ2, Shift n0 ρ σ' ρ2 σ2 ∧ ∃ v, resV σ2 ρ2 rs = some v ∧ ∃ k, n0 ≤ k ∧ boxesBelow k (σ2.take k) = true ∧ V.under k v = true ∧ Q (.ret v) (σ2.take k)
  | .ret => ∃ ρ2 σ2, Shift n0 ρ σ' ρ2 σ2 ∧ ∃ v, resV σ2 ρ2 rs = some v ∧ ∃ k, n0 ≤ k ∧ boxesBelow k (σ2.take k) = true ∧ V.under k v = true ∧ Q (.ret v) (σ2.take k)
  | .panic v => ∃ k, n0 ≤ k ∧ boxesBelow k (σ'.take k) = true ∧ V.under k v = true ∧ Q (.panic v) (σ'.take k)
  | .exit _ => False
def slots0 : Nat → List V → Slots
  | _, [] => []
  | i, v :: r => (i, v) :: slots0 (i + 1) r
def V.isOwn : V → Bool
  | .own _ _ _ => true
  | _ => false
def resS (tmps : Array Value) : ResultVar → Sem Value
  | .tmp t => pure (tmps.getD t undef)
  | .cell a t => do loadVar t (← asAddr (tmps.getD a undef))
theorem results_eq (fn : Func) (tmps : Array Value) : results fn tmps = (do
    let vs ← fn.results.mapM (resS tmps)
    pure (if h : vs.size = 1 then vs[0] else .tuple vs)) := by
  unfold results
  congr 1
section
variable {C : Cx} {M : Facts} {bm : List Nat} {tk : Toks} {pr : Prot} {ρ : Slots} {σ : List (List V)} {n : Nat} {a : Act} {w : World}
theorem res1_sound (h : SRel M bm tk pr ρ σ n a w) {r : RV} {r' : ResultVar} (hok : okRV C.tab r r' = true) {x : V} (hx : res1 σ ρ r = some x) :
    ∃ v, (resS a.tmps r').run C.P w = .ok v w ∧ ∃ t, CellOK M bm w x v t ∧ (t = none ∨ ∃ s, t = tk none s) := by
  unfold okRV at hok
  split at hok
  · rename_i m own m'
    simp only [beq_iff_eq] at hok
    subst hok
    cases own with
    | true => cases hx; exact ⟨_, rfl, _, h.slots m, .inr ⟨m, rfl⟩⟩
    | false => cases hx; exact ⟨_, rfl, none, ⟨(h.slots m).rep.lend, fun _ _ _ e => absurd e V.lend_own⟩, .inl rfl⟩
  · rename_i m k ag m' t
    simp only [Bool.and_eq_true, beq_iff_eq] at hok
    obtain ⟨rfl, h2⟩ := hok
    split at h2
    · rename_i i hi
      simp only [Bool.and_eq_true, beq_iff_eq] at h2
      obtain ⟨rfl, rfl⟩ := h2
      obtain ⟨y, hy, rfl⟩ := Option.map_eq_some_iff.1 hx
      obtain ⟨v, h3, h4, h5⟩ := load_sound h.inv hi hy (h.slots m).rep
      refine ⟨v, ?_, none, ⟨h4.lend, fun _ _ _ e => absurd e V.lend_own⟩, .inl rfl⟩
      have hptr : ∃ ad, a.tmps.getD m undef = .pointer (some ad) := by
        have hr := (h.slots m).rep
        unfold loadV at hy
        obtain ⟨cs, hcs, -⟩ := Option.bind_eq_some_iff.1 hy
        obtain ⟨ad, vs, e, -⟩ := cells_sound h.inv hcs hr
        exact ⟨ad, e⟩
      obtain ⟨ad, e⟩ := hptr
      simp only [resS]
      rw [e] at h3 ⊢
      simpa [Instr.loadAt, Instr.sureAddr, asAddr] using h3
    · cases h2
  · cases hok
theorem resL_sound (h : SRel M bm tk pr ρ σ n a w) : ∀ {rs : List RV} {rs' : List ResultVar} {xs : List V}, okRVs C.tab rs rs' = true → resL σ ρ rs = some xs →
    ∃ vs : List Value, (rs'.mapM (resS a.tmps)).run C.P w = .ok vs w ∧ vs.length = xs.length ∧ rs'.length = xs.length ∧ ∀ i (h : i < xs.length) (h' : i < vs.length), Rep M bm xs[i] vs[i]
  | [], [], xs, _, hx => by cases hx; exact ⟨[], rfl, rfl, rfl, fun i h => by simp at h⟩
  | r :: rs, r' :: rs', xs, hok, hx => by
    simp only [okRVs, Bool.and_eq_true] at hok
    simp only [resL] at hx
    split at hx
    · rename_i v l hv hl
      cases hx
      obtain ⟨u, g1, t, g2, -⟩ := res1_sound h hok.1 hv
      obtain ⟨vs, k1, k2, k3, k4⟩ := resL_sound h hok.2 hl
      refine ⟨u :: vs, ?_, by simp [k2], by simp [k3], fun i h1 h2 => ?_⟩
      · rw [List.mapM_cons, Sem.run_bind, g1, Result.andThen_ok, Sem.run_bind, k1]; rfl
      · cases i with
        | zero => exact g2.rep.lend
        | succ i => exact k4 i (by simpa using h1) (by simpa using h2)
    · cases hx
  | [], _ :: _, _, hok, _ => by cases hok
  | _ :: _, [], _, hok, _ => by cases hok
theorem resV_sound (h : SRel M bm tk pr ρ σ n a w) {rs : List RV} {fn : Func} {x : V} (hok : okRVs C.tab rs fn.results.toList = true) (hx : resV σ ρ rs = some x) :
    ∃ v, (results fn a.tmps).run C.P w = .ok v w ∧ ∃ t, CellOK M bm w x v t ∧ (t = none ∨ ∃ s, t = tk none s) := by
  rw [results_eq, Array.mapM_eq_mapM_toList]
  unfold resV at hx
  split at hx
  · rename_i r
    match hrs : fn.results.toList, hok with
    | [r'], hok =>
      simp only [okRVs, Bool.and_true] at hok
      obtain ⟨v, g1, g2⟩ := res1_sound h hok hx
      refine ⟨v, ?_, g2⟩
      simp only [List.mapM_cons, List.mapM_nil, Sem.run_bind, Sem.run_map, g1, Result.andThen_ok, Sem.run_pure]
      rfl
    | [], hok => cases hok
    | _ :: _ :: _, hok => simp [okRVs] at hok
  · rename_i hne
    obtain ⟨xs, hxs, rfl⟩ := Option.map_eq_some_iff.1 hx
    obtain ⟨vs, k1, k2, k3, k4⟩ := resL_sound h hok hxs
    refine ⟨.tuple vs.toArray, ?_, none, ⟨.tup k2 k4, fun _ _ _ e => by cases e⟩, .inl rfl⟩
    simp only [Sem.run_bind, Sem.run_map, k1, Result.andThen_ok, Sem.run_pure]
    have hl : ¬ vs.toArray.size = 1 := by
      intro e
      have : fn.results.toList.length = 1 := by rw [k3, ← k2]; simpa using e
      match rs, hne, hok with
      | [], _, hok => match hrs : fn.results.toList, hok with | [], _ => rw [hrs] at this; cases this
      | [r], hne, _ => exact hne r rfl
      | _ :: _ :: _, _, hok => match hrs : fn.results.toList, hok with
        | [_], hok => simp [okRVs] at hok
        | _ :: _ :: _, _ => rw [hrs] at this; simp at this
    rw [dif_neg hl]
theorem get_slots0 : ∀ (args : List V) (i t : Nat), get (slots0 i args) t = if i ≤ t then (args[t - i]?).getD .junk else .junk
  | [], i, t => by simp [slots0, get]
  | v :: r, i, t => by
    simp only [slots0, get]
    split
    · rename_i e; subst e; simp
    · rename_i e
      rw [get_slots0 r (i + 1) t]
      by_cases h : i ≤ t
      · rw [if_pos (by omega), if_pos h, show t - i = (t - (i + 1)) + 1 by omega]; rfl
      · rw [if_neg (by omega), if_neg h]
theorem callFunc_enters {P : Program} {f : FuncId} {fn : Func} (hf : P.funcs[f]? = some fn) (hn : (fn.name == "runtime.NumGoroutine") = false) (hb : fn.body.isNone = false) :
    ∀ args w, (callFunc f args).run P w = .ok (.enter f args) w := fun args w => by
  have h1 : fn.name ≠ "runtime.NumGoroutine" := by simpa using hn
  have h2 : fn.body ≠ none := fun h => by rw [h] at hb; cases hb
  simp [callFunc, hf, h1, h2]
theorem fun_enter {f : FuncId} {fn : Func} {c : Cd} {rs : List RV} {args : List V} {Q : Out → List (List V) → Prop} (hf : C.P.funcs[f]? = some fn) (hok : okFn C.tab fn args.length c rs = true)
    (h : boxesBelow σ.length σ = true → (∀ i (h : i < args.length), V.Wf args[i]) → awp C σ.length c (slots0 0 args) σ (fin σ.length rs Q)) :
    (∀ as w, (callFunc f as).run C.P w = .ok (.enter f as) w) ∧
    ∀ (M : Facts) (bm : List Nat) (tk : Toks) (pr : Nat → Prop) (w : World) (vs : List Value), C.glob M pr w → Inv M bm σ tk pr w → vs.length = args.length → (∀ i (h : i < args.length) (h' : i < vs.length), CellOK M bm w args[i] vs[i] (tk none i)) →
      Calls C.P f vs.toArray w fun e w' => ∃ M' bm' tk' σ' o, Q o σ' ∧ Inv M' bm' σ' tk' pr w' ∧ Later M bm pr w M' bm' w' ∧ OutOK M' bm' w' tk' o e := by
  unfold okFn at hok
  simp only [Bool.and_eq_true, decide_eq_true_eq, Bool.not_eq_true'] at hok
  obtain ⟨⟨⟨h1, h2⟩, h3⟩, h4⟩ := hok
  cases hb : fn.body with
  | none => rw [hb] at h1; cases h1
  | some body =>
  rw [hb] at h1
  refine ⟨callFunc_enters hf h4 (by rw [hb]; rfl), fun M bm tk pr0 w vs hG hI hl hr => ?_⟩
  obtain ⟨pr, rfl, hds⟩ : ∃ pr : Prot, pr.p = pr0 ∧ pr.ds = [] := ⟨⟨pr0, []⟩, rfl, rfl⟩
  have hq := h hI.under (fun i hi => (hr i hi (by omega)).rep.wf)
  refine calls_of_wp hf hb ?_
  have hs : SRel M bm tk pr (slots0 0 args) σ fn.ntmps { tmps := vs.toArray ++ Array.replicate (fn.ntmps - vs.toArray.size) undef, defers := [] } w := by
    refine ⟨hI, hds.symm, by simp; omega, fun t => ?_⟩
    rw [get_slots0, if_pos (Nat.zero_le _), Nat.sub_zero]
    by_cases hlt : t < args.length
    · rw [List.getElem?_eq_getElem hlt, Option.getD_some]
      have hv : (vs.toArray ++ Array.replicate (fn.ntmps - vs.toArray.size) undef).getD t undef = vs[t]'(by omega) := by
        rw [Array.getD_eq_getD_getElem?, Array.getElem?_append_left (by simp; omega)]
        simp [show t < vs.length by omega]
      rw [hv]
      exact hr t hlt (by omega)
    · rw [List.getElem?_eq_none (by omega), Option.getD_none]
      exact CellOK.junk ..
  refine wp_mono (awp_sound hG hI.len h1 (Later.refl M bm pr w) hs hq) (fun e a' w' hL => ?_)
  obtain ⟨M', bm', tk', ρ', σ', x, k1, k2, k3, k4⟩ := hL
  have cut : ∀ {M' : Facts} {bm' : List Nat} {ρ' : Slots} {σ' : List (List V)} {k : Nat} (o : Option Nat), SRel M' bm' tk' pr ρ' σ' fn.ntmps a' w' → Later M bm pr w M' bm' w' → σ.length ≤ k → boxesBelow k (σ'.take k) = true → (o = none ∨ ∃ s, o = tk' none s) →
      Inv M' (bm'.take k) (σ'.take k) (fun i j => match i with | none => if j = 0 then o else none | some i => tk' (some i) j) pr w' ∧ Later M bm pr w M' (bm'.take k) w' := by
    intro M' bm' ρ' σ' k o k3 k4 hk hbk ho
    have hd := k3.inv.drop hbk
    refine ⟨⟨hd.facts, hd.len, hd.box, hd.free, hd.bmnd, fun i j g hg => ?_, fun i j i' j' g g1 g2 => ?_, hd.prlt⟩, k4.drop (by rw [hI.len]; exact hk)⟩
    · cases i with
      | some i => exact hd.tok _ _ _ hg
      | none =>
        simp only at hg
        split at hg
        · rcases ho with rfl | ⟨s, rfl⟩
          · cases hg
          · exact hd.tok _ _ _ hg
        · cases hg
    · cases i with
      | some i => cases i' with
        | some i' => exact hd.inj _ _ _ _ _ g1 g2
        | none =>
          simp only at g2
          split at g2
          · rcases ho with rfl | ⟨s, rfl⟩
            · cases g2
            · have := hd.inj _ _ _ _ _ g1 g2; simp at this
          · cases g2
      | none => cases i' with
        | some i' =>
          simp only at g1
          split at g1
          · rcases ho with rfl | ⟨s, rfl⟩
            · cases g1
            · have := hd.inj _ _ _ _ _ g1 g2; simp at this
          · cases g1
        | none =>
          simp only at g1 g2
          split at g1
          · split at g2
            · exact ⟨rfl, by omega⟩
            · cases g2
          · cases g1
  have ret : ∀ ρ2 σ2, Shift σ.length ρ' σ' ρ2 σ2 → ∀ v, resV σ2 ρ2 rs = some v → (∃ k, σ.length ≤ k ∧ boxesBelow k (σ2.take k) = true ∧ V.under k v = true ∧ Q (.ret v) (σ2.take k)) →
      a'.defers = [] ∧ ∃ u, (results fn a'.tmps).run C.P w' = .ok u w' ∧ ∃ M' bm' tk' σ' o, Q o σ' ∧ Inv M' bm' σ' tk' pr w' ∧ Later M bm pr w M' bm' w' ∧ OutOK M' bm' w' tk' o (.returned u) := by
    rintro ρ2 σ2 hsh v hv ⟨k, g1, g2, g3, g4⟩
    obtain ⟨M2, bm2, s1, s2⟩ := hsh M' bm' tk' pr fn.ntmps a' w' k3
    obtain ⟨u, r1, t, r2, r3⟩ := resV_sound s1 h2 hv
    obtain ⟨c1, c2⟩ := cut t s1 (s2 M bm w hI.len k4) g1 g2 r3
    refine ⟨k3.defers.trans hds, u, r1, M2, bm2.take k, _, σ2.take k, .ret v, g4, c1, c2, fun v' e => ?_, fun v' e => by cases e⟩
    cases e
    exact ⟨u, rfl, r2.rep.drop g3, by simpa using r2.own⟩
  cases k2 with
  | normal => obtain ⟨ρ2, σ2, g0, v, g1, g2⟩ := k1; exact ret ρ2 σ2 g0 v g1 g2
  | ret => obtain ⟨ρ2, σ2, g0, v, g1, g2⟩ := k1; exact ret ρ2 σ2 g0 v g1 g2
  | exit id => exact k1.elim
  | panic hp =>
    obtain ⟨k, g1, g2, g3, g4⟩ := k1
    obtain ⟨c1, c2⟩ := cut none k3 k4 g1 g2 (.inl rfl)
    exact ⟨k3.defers.trans hds, M', bm'.take k, _, σ'.take k, _, g4, c1, c2, (fun v' e => by cases e), fun v' e => by cases e; exact ⟨_, rfl, hp.drop g3⟩⟩
theorem fun_intro {f : FuncId} {fn : Func} {c : Cd} {rs : List RV} {args : List V} {Q : Out → List (List V) → Prop} (hf : C.P.funcs[f]? = some fn) (hok : okFn C.tab fn args.length c rs = true) (hno : args.all (! ·.isOwn) = true)
    (h : boxesBelow σ.length σ = true → (∀ i (h : i < args.length), V.Wf args[i]) → awp C σ.length c (slots0 0 args) σ (fin σ.length rs Q)) : Fun C f args σ Q := by
  obtain ⟨h1, h2⟩ := fun_enter hf hok h
  refine ⟨h1, fun M bm tk pr w vs hG hI _ hl hr => h2 M bm tk pr w vs hG hI hl fun i g1 g2 => ⟨hr i g1 g2, fun T k rows e => ?_⟩⟩
  have := List.all_eq_true.1 hno args[i] (List.getElem_mem g1)
  rw [e] at this
  cases this
end
end Go.Proofs.YteopfpebdalcoaaGreatDoor
namespace Go.Proofs.YteopfpebdalcoaaGreatDoor
open Go.RowKit
inductive Tag {α : Type} (a : α) : Type where
  | mk
def optT (o : Option V) (f : V → Prop) (_ : Tag f) : Prop := match o with | some v => f v | none => False
theorem optT_some (v : V) (f : V → Prop) (t : Tag f) : optT (some v) f t = f v := rfl
def fnT (v : V) (f : FuncId → List V → Prop) (_ : Tag f) : Prop := match v with | .fn g cap => f g cap | _ => False
theorem fnT_fn (g : FuncId) (cap : List V) (f : FuncId → List V → Prop) (t : Tag f) : fnT (.fn g cap) f t = f g cap := rfl
def ptrT (v : V) (f : Nat → Nat → Prop) (_ : Tag f) : Prop := match v with | .ptr i o => f i o | _ => False
theorem ptrT_ptr (i o : Nat) (f : Nat → Nat → Prop) (t : Tag f) : ptrT (.ptr i o) f t = f i o := rfl
def ownT (v : V) (f : Nat → Nat → List (List D) → Prop) (_ : Tag f) : Prop := match v with | .own T k rows => f T k rows | _ => False
theorem ownT_own (T k : Nat) (rows : List (List D)) (f : Nat → Nat → List (List D) → Prop) (t : Tag f) : ownT (.own T k rows) f t = f T k rows := rfl
def ifT (v : V) (f : Nat → V → Prop) (_ : Tag f) : Prop := match v with | .iface t v => f t v | _ => False
theorem ifT_iface (ty : Nat) (v : V) (f : Nat → V → Prop) (t : Tag f) : ifT (.iface ty v) f t = f ty v := rfl
def bxT (o : Option (List V)) (f : List V → Prop) (_ : Tag f) : Prop := match o with | some cs => f cs | none => False
theorem bxT_some (cs : List V) (f : List V → Prop) (t : Tag f) : bxT (some cs) f t = f cs := rfl
def rwT (o : Option (List (List D))) (f : List (List D) → Prop) (_ : Tag f) : Prop := match o with | some rows => f rows | none => False
theorem rwT_some (rows : List (List D)) (f : List (List D) → Prop) (t : Tag f) : rwT (some rows) f t = f rows := rfl
def boolT (v : V) (f : Bool → Prop) (_ : Tag f) : Prop := match v with | .d (.lit (.bool c)) => f c | _ => False
theorem boolT_bool (c : Bool) (f : Bool → Prop) (t : Tag f) : boolT (.d (.lit (.bool c))) f t = f c := rfl
def boolU (v : V) (f : Bool → Prop) (u : Unit → Prop) (_ : Tag f) (_ : Tag u) : Prop := match v with
  | .d (.lit (.bool c)) => f c
  | .tup [] => u ()
  | _ => False
theorem boolU_bool (c : Bool) (f : Bool → Prop) (u : Unit → Prop) (s : Tag f) (t : Tag u) : boolU (.d (.lit (.bool c))) f u s t = f c := rfl
theorem boolU_un (f : Bool → Prop) (u : Unit → Prop) (s : Tag f) (t : Tag u) : boolU (.tup []) f u s t = u () := rfl
def iteT (c : Bool) (A B : Unit → Prop) (_ : Tag A) (_ : Tag B) : Prop := (c = true → A ()) ∧ (c = false → B ())
theorem iteT_true (A B : Unit → Prop) (s : Tag A) (t : Tag B) : iteT true A B s t = A () := by simp [iteT]
theorem iteT_false (A B : Unit → Prop) (s : Tag A) (t : Tag B) : iteT false A B s t = B () := by simp [iteT]
theorem iteT_intro {c : Bool} {A B : Unit → Prop} {s : Tag A} {t : Tag B} (h1 : c = true → A ()) (h2 : c = false → B ()) : iteT c A B s t := ⟨h1, h2⟩
theorem bq_true (b : Bool) : (b == true) = b := by cases b <;> rfl
theorem bq_false (b : Bool) : (b == false) = !b := by cases b <;> rfl
def onT (p : Prop) (A : Unit → Prop) (_ : Tag A) : Prop := p ∧ A ()
theorem onT_intro {p : Prop} {A : Unit → Prop} {t : Tag A} (h1 : p) (h2 : A ()) : onT p A t := ⟨h1, h2⟩
theorem onT_true (A : Unit → Prop) (t : Tag A) : onT True A t = A () := by simp [onT]
def awpT (C : Cx) (n0 : Nat) (c : Cd) (ρ : Slots) (σ : List (List V)) (Q : APost) (_ : Tag Q) : Prop := awp C n0 c ρ σ Q
def opsT (C : Cx) (l : List O) (ρ : Slots) (σ : List (List V)) (Q : APost) (_ : Tag Q) : Prop := awpOps C l ρ σ Q
def calmT (C : Cx) (l : List O) (ρ : Slots) (σ : List (List V)) (K : Slots → Prop) (_ : Tag K) : Prop := awpCalm C l ρ σ K
def retK (K : V → List (List V) → Prop) (P : V → List (List V) → Prop) : Out → List (List V) → Prop := fun o σ' => match o with
  | .ret v => K v σ'
  | .panic v => P v σ'
def FunT (C : Cx) (f : FuncId) (args : List V) (σ : List (List V)) (K : V → List (List V) → Prop) (P : V → List (List V) → Prop) (_ : Tag K) (_ : Tag P) : Prop := Fun C f args σ (retK K P)
def CallT (C : Cx) (f : FuncId) (args : List V) (σ : List (List V)) (k : V → Prop) (_ : Tag k) : Prop := ∃ v, Fun C f args σ (fun o σ' => o = .ret v ∧ σ' = σ) ∧ k v
def intT (x : V) (k : Int → Prop) (_ : Tag k) : Prop := match x with
  | .d (.lit (.int _ n)) => k n
  | _ => False
theorem intT_int (kd : IntKind) (n : Int) {k : Int → Prop} (t : Tag k) : intT (.d (.lit (.int kd n))) k t = k n := rfl
def stT (C : Cx) (l : List O) (ρ : Slots) (σ : List (List V)) (acc : Option (List (List V))) (K : Slots → List (List V) → Prop) (_ : Tag K) : Prop := awpS C σ l ρ acc K
def tabOf (P : Program) : Tab := fun t =>
  match P.underlying t, P.info? t with
  | some d, some i => match i.zero with
    | some z => if z.cells.size = i.size then some ⟨d, i.size, i.bytes, z⟩ else none
    | none => none
  | _, _ => none
theorem tabOf_ok (P : Program) : TabOK P (tabOf P) := by
  intro t i h
  unfold tabOf at h
  split at h
  · rename_i d inf h1 h2
    split at h
    · rename_i z hz
      split at h
      · rename_i hs
        cases h
        exact ⟨h1, inf, h2, rfl, rfl, hz, hs⟩
      · cases h
    · cases h
  · cases h
def cxk (P : Program) (gl : Nat → Option (List D)) (kp : Nat → Option (Array Value → Prop)) (h : P.follows .mixedOrders = true) : Cx := ⟨P, tabOf P, gl, kp, tabOf_ok P, h, fun t => !P.stoodInHeld t && !P.eqGuardType P.depth t, fun t ht => by simpa using ht⟩
section
variable {C : Cx} {ρ : Slots} {σ σ2 : List (List V)} {Q : APost} {K : Slots → Prop} {KA : Slots → List (List D) → Prop} {cc : Cell} {acc : Option (List (List D))} {KN : Slots → List V → Prop} {cn : List V} {accn : Option (List V)} {KS : Slots → List (List V) → Prop} {accs : Option (List (List V))} {n0 : Nat}
theorem ev_t (n : Nat) : ev C ρ (.t n) = get ρ n := rfl
theorem ev_k (v : V) : ev C ρ (.k v) = v := rfl
theorem ev_g (n : Nat) : ev C ρ (.g n) = match C.gl n with | some cs => .row cs 0 | none => .junk := rfl
theorem get_cons (s : Nat) (u : V) (r : Slots) (t : Nat) : get ((s, u) :: r) t = if s = t then u else get r t := rfl
theorem get_nil (t : Nat) : get [] t = .junk := rfl
theorem put_cons (s : Nat) (u : V) (r : Slots) (t : Nat) (v : V) : put ((s, u) :: r) t v = if t < s then (t, v) :: (s, u) :: r else if t = s then (t, v) :: r else (s, u) :: put r t v := rfl
theorem put_nil (t : Nat) (v : V) : put [] t v = [(t, v)] := rfl
theorem putd_some (t : Nat) (v : V) : putd ρ (some t) v = put ρ t v := rfl
theorem putd_none (v : V) : putd ρ none v = ρ := rfl
theorem keepOnly_nil (l : List Nat) : keepOnly l [] = [] := rfl
theorem keepOnly_cons (l : List Nat) (s : Nat) (u : V) (r : Slots) : keepOnly l ((s, u) :: r) = if l.contains s = true then (s, u) :: keepOnly l r else keepOnly l r := by
  unfold keepOnly; rw [List.filter_cons]
theorem t_mv (x : X) (d : Option Nat) (r : List O) (t : Tag Q) : opsT C (⟨d, .mv x, none⟩ :: r) ρ σ Q t = opsT C r (putd ρ d (ev C ρ x).copy) σ Q .mk := rfl
theorem c_mv (x : X) (d : Option Nat) (r : List O) (t : Tag K) : calmT C (⟨d, .mv x, none⟩ :: r) ρ σ K t = calmT C r (putd ρ d (ev C ρ x).copy) σ K .mk := rfl
theorem t_pick (x y z : X) (d : Option Nat) (r : List O) (t : Tag Q) : opsT C (⟨d, .pick x y z, none⟩ :: r) ρ σ Q t = optT (pickV (ev C ρ x) (ev C ρ y) (ev C ρ z)) (fun v => opsT C r (putd ρ d v) σ Q .mk) .mk := rfl
theorem c_pick (x y z : X) (d : Option Nat) (r : List O) (t : Tag K) : calmT C (⟨d, .pick x y z, none⟩ :: r) ρ σ K t = optT (pickV (ev C ρ x) (ev C ρ y) (ev C ρ z)) (fun v => calmT C r (putd ρ d v) σ K .mk) .mk := by
  unfold calmT optT; simp only [awpCalm, calmO, isPure, pv]; cases pickV (ev C ρ x) (ev C ρ y) (ev C ρ z) <;> rfl
theorem t_bin (o : BinOp) (x y : X) (d : Option Nat) (r : List O) (t : Tag Q) : opsT C (⟨d, .bin o x y, none⟩ :: r) ρ σ Q t = optT (binV o (ev C ρ x) (ev C ρ y)) (fun v => opsT C r (putd ρ d v) σ Q .mk) .mk := rfl
theorem c_bin (o : BinOp) (x y : X) (d : Option Nat) (r : List O) (t : Tag K) : calmT C (⟨d, .bin o x y, none⟩ :: r) ρ σ K t = optT (binV o (ev C ρ x) (ev C ρ y)) (fun v => calmT C r (putd ρ d v) σ K .mk) .mk := by
  unfold calmT optT; simp only [awpCalm, calmO, isPure, pv]; cases binV o (ev C ρ x) (ev C ρ y) <;> rfl
theorem t_nif (neq : Bool) (x : X) (d : Option Nat) (r : List O) (t : Tag Q) : opsT C (⟨d, .nif neq x, none⟩ :: r) ρ σ Q t = optT (nifV neq (ev C ρ x)) (fun v => opsT C r (putd ρ d v) σ Q .mk) .mk := by
  unfold opsT optT; simp only [awpOps, runO, isPure, pv]; cases nifV neq (ev C ρ x) <;> simp
theorem t_un (o : UnOp) (x : X) (d : Option Nat) (r : List O) (t : Tag Q) : opsT C (⟨d, .un o x, none⟩ :: r) ρ σ Q t = optT (unV o (ev C ρ x)) (fun v => opsT C r (putd ρ d v) σ Q .mk) .mk := rfl
theorem c_un (o : UnOp) (x : X) (d : Option Nat) (r : List O) (t : Tag K) : calmT C (⟨d, .un o x, none⟩ :: r) ρ σ K t = optT (unV o (ev C ρ x)) (fun v => calmT C r (putd ρ d v) σ K .mk) .mk := by
  unfold calmT optT; simp only [awpCalm, calmO, isPure, pv]; cases unV o (ev C ρ x) <;> rfl
theorem t_conv (kd : IntKind) (x : X) (d : Option Nat) (r : List O) (t : Tag Q) : opsT C (⟨d, .conv kd x, none⟩ :: r) ρ σ Q t = optT (convV kd (ev C ρ x)) (fun v => opsT C r (putd ρ d v) σ Q .mk) .mk := rfl
theorem c_conv (kd : IntKind) (x : X) (d : Option Nat) (r : List O) (t : Tag K) : calmT C (⟨d, .conv kd x, none⟩ :: r) ρ σ K t = optT (convV kd (ev C ρ x)) (fun v => calmT C r (putd ρ d v) σ K .mk) .mk := by
  unfold calmT optT; simp only [awpCalm, calmO, isPure, pv]; cases convV kd (ev C ρ x) <;> rfl
theorem t_cbs (x : X) (d : Option Nat) (r : List O) (t : Tag Q) : opsT C (⟨d, .cbs x, none⟩ :: r) ρ σ Q t = optT (cbsV σ (ev C ρ x)) (fun v => opsT C r (putd ρ d v) σ Q .mk) .mk := rfl
theorem c_cbs (x : X) (d : Option Nat) (r : List O) (t : Tag K) : calmT C (⟨d, .cbs x, none⟩ :: r) ρ σ K t = optT (cbsV σ (ev C ρ x)) (fun v => calmT C r (putd ρ d v) σ K .mk) .mk := by
  unfold calmT optT; simp only [awpCalm, calmO, isPure, pv]; cases cbsV σ (ev C ρ x) <;> rfl
theorem t_nilck (x : X) (d : Option Nat) (r : List O) (t : Tag Q) : opsT C (⟨d, .nilck x, none⟩ :: r) ρ σ Q t = optT (nilckV (ev C ρ x)) (fun v => opsT C r (putd ρ d v) σ Q .mk) .mk := rfl
theorem c_nilck (x : X) (d : Option Nat) (r : List O) (t : Tag K) : calmT C (⟨d, .nilck x, none⟩ :: r) ρ σ K t = optT (nilckV (ev C ρ x)) (fun v => calmT C r (putd ρ d v) σ K .mk) .mk := by
  unfold calmT optT; simp only [awpCalm, calmO, isPure, pv]; cases nilckV (ev C ρ x) <;> rfl
theorem t_fa (off : Nat) (x : X) (d : Option Nat) (r : List O) (t : Tag Q) : opsT C (⟨d, .fa off x, none⟩ :: r) ρ σ Q t = optT (faV off (ev C ρ x)) (fun v => opsT C r (putd ρ d v) σ Q .mk) .mk := rfl
theorem c_fa (off : Nat) (x : X) (d : Option Nat) (r : List O) (t : Tag K) : calmT C (⟨d, .fa off x, none⟩ :: r) ρ σ K t = optT (faV off (ev C ρ x)) (fun v => calmT C r (putd ρ d v) σ K .mk) .mk := by
  unfold calmT optT; simp only [awpCalm, calmO, isPure, pv]; cases faV off (ev C ρ x) <;> rfl
theorem t_ia (kk : Nat) (x i : X) (d : Option Nat) (r : List O) (t : Tag Q) : opsT C (⟨d, .ia kk x i, none⟩ :: r) ρ σ Q t = optT (iaV kk (ev C ρ x) (ev C ρ i)) (fun v => opsT C r (putd ρ d v) σ Q .mk) .mk := rfl
theorem c_ia (kk : Nat) (x i : X) (d : Option Nat) (r : List O) (t : Tag K) : calmT C (⟨d, .ia kk x i, none⟩ :: r) ρ σ K t = optT (iaV kk (ev C ρ x) (ev C ρ i)) (fun v => calmT C r (putd ρ d v) σ K .mk) .mk := by
  unfold calmT optT; simp only [awpCalm, calmO, isPure, pv]; cases iaV kk (ev C ρ x) (ev C ρ i) <;> rfl
theorem t_ix (x i : X) (d : Option Nat) (r : List O) (t : Tag Q) : opsT C (⟨d, .ix x i, none⟩ :: r) ρ σ Q t = optT (ixV (ev C ρ x) (ev C ρ i)) (fun v => opsT C r (putd ρ d v) σ Q .mk) .mk := rfl
theorem t_len (s : Bool) (x : X) (d : Option Nat) (r : List O) (t : Tag Q) : opsT C (⟨d, .len s x, none⟩ :: r) ρ σ Q t = optT (lenV s (ev C ρ x)) (fun v => opsT C r (putd ρ d v) σ Q .mk) .mk := rfl
theorem c_len (s : Bool) (x : X) (d : Option Nat) (r : List O) (t : Tag K) : calmT C (⟨d, .len s x, none⟩ :: r) ρ σ K t = optT (lenV s (ev C ρ x)) (fun v => calmT C r (putd ρ d v) σ K .mk) .mk := by
  unfold calmT optT; simp only [awpCalm, calmO, isPure, pv]; cases lenV s (ev C ρ x) <;> rfl
theorem t_ext (x : X) (i : Nat) (d : Option Nat) (r : List O) (t : Tag Q) : opsT C (⟨d, .ext x i, none⟩ :: r) ρ σ Q t = optT (extV (ev C ρ x) i) (fun v => opsT C r (putd ρ d v) σ Q .mk) .mk := rfl
theorem t_load (kk : Nat) (ag : Bool) (x : X) (d : Option Nat) (r : List O) (t : Tag Q) : opsT C (⟨d, .load kk ag x, none⟩ :: r) ρ σ Q t = optT (loadV σ kk ag (ev C ρ x)) (fun v => opsT C r (putd ρ d v) σ Q .mk) .mk := rfl
theorem c_load (kk : Nat) (ag : Bool) (x : X) (d : Option Nat) (r : List O) (t : Tag K) : calmT C (⟨d, .load kk ag x, none⟩ :: r) ρ σ K t = optT (loadV σ kk ag (ev C ρ x)) (fun v => calmT C r (putd ρ d v) σ K .mk) .mk := by
  unfold calmT optT; simp only [awpCalm, calmO, isPure, pv]; cases loadV σ kk ag (ev C ρ x) <;> rfl
theorem t_bld (zs : List V) (ps : List (Nat × Nat × X)) (d : Option Nat) (r : List O) (t : Tag Q) : opsT C (⟨d, .bld zs ps, none⟩ :: r) ρ σ Q t = optT ((bldV (ev C ρ) zs ps).map V.agg) (fun v => opsT C r (putd ρ d v) σ Q .mk) .mk := rfl
theorem c_bld (zs : List V) (ps : List (Nat × Nat × X)) (d : Option Nat) (r : List O) (t : Tag K) : calmT C (⟨d, .bld zs ps, none⟩ :: r) ρ σ K t = optT ((bldV (ev C ρ) zs ps).map V.agg) (fun v => calmT C r (putd ρ d v) σ K .mk) .mk := by
  unfold calmT optT; simp only [awpCalm, calmO, isPure, pv]; cases bldV (ev C ρ) zs ps <;> rfl
theorem t_sub (s : Bool) (kk : Nat) (x : X) (lo hi : Option X) (d : Option Nat) (r : List O) (t : Tag Q) : opsT C (⟨d, .sub s kk x lo hi, none⟩ :: r) ρ σ Q t = optT (subV s kk (ev C ρ x) (lo.map (ev C ρ)) (hi.map (ev C ρ))) (fun v => opsT C r (putd ρ d v) σ Q .mk) .mk := rfl
theorem c_sub (s : Bool) (kk : Nat) (x : X) (lo hi : Option X) (d : Option Nat) (r : List O) (t : Tag K) : calmT C (⟨d, .sub s kk x lo hi, none⟩ :: r) ρ σ K t = optT (subV s kk (ev C ρ x) (lo.map (ev C ρ)) (hi.map (ev C ρ))) (fun v => calmT C r (putd ρ d v) σ K .mk) .mk := by
  unfold calmT optT; simp only [awpCalm, calmO, isPure, pv]; cases subV s kk (ev C ρ x) (lo.map (ev C ρ)) (hi.map (ev C ρ)) <;> rfl
theorem t_mki (ty : TypeId) (x : X) (d : Option Nat) (r : List O) (t : Tag Q) : opsT C (⟨d, .mki ty x, none⟩ :: r) ρ σ Q t = optT (mkiV ty (ev C ρ x)) (fun v => opsT C r (putd ρ d v) σ Q .mk) .mk := rfl
theorem t_mx (g : Bool) (x y : X) (d : Option Nat) (r : List O) (t : Tag Q) : opsT C (⟨d, .mx g x y, none⟩ :: r) ρ σ Q t = optT (mxV g (ev C ρ x) (ev C ρ y)) (fun v => opsT C r (putd ρ d v) σ Q .mk) .mk := rfl
theorem t_call (f : FuncId) (args : List X) (d : Option Nat) (r : List O) (t : Tag Q) : opsT C (⟨d, .call f args, none⟩ :: r) ρ σ Q t = FunT C f (args.map fun x => (ev C ρ x).lend) σ (fun v σ' => opsT C r (putd ρ d v) σ' Q .mk) (fun v σ' => Q (.panic v) ρ σ') .mk .mk := rfl
theorem t_new (T : Nat) (cs : List V) (d : Option Nat) (r : List O) (t : Tag Q) : opsT C (⟨d, .new T cs, none⟩ :: r) ρ σ Q t = opsT C r (putd ρ d (.ptr σ.length 0)) (σ ++ [cs]) Q .mk := rfl
theorem t_box (T : Nat) (x : X) (d : Option Nat) (r : List O) (t : Tag Q) : opsT C (⟨d, .box T x, none⟩ :: r) ρ σ Q t = onT ((ev C ρ x).boxable = true) (fun _ => opsT C r (putd ρ d (.ptr σ.length 0)) (σ ++ [(ev C ρ x).cells]) Q .mk) .mk := rfl
theorem t_sto (kk : Nat) (x y : X) (d : Option Nat) (r : List O) (t : Tag Q) : opsT C (⟨d, .sto kk x y, none⟩ :: r) ρ σ Q t = ptrT (ev C ρ x) (fun i o => bxT σ[i]? (fun cs => onT ((ev C ρ y).boxable = true ∧ (ev C ρ y).cells.length = kk ∧ o + kk ≤ cs.length) (fun _ => opsT C r ρ (σ.set i (over cs o (ev C ρ y).cells)) Q .mk) .mk) .mk) .mk := rfl
theorem t_mvo (s : Nat) (d : Option Nat) (r : List O) (t : Tag Q) : opsT C (⟨d, .mvo s, none⟩ :: r) ρ σ Q t = ownT (get ρ s) (fun T k rows => opsT C r (putd (put ρ s (.d (.sl rows))) d (.own T k rows)) σ Q .mk) .mk := rfl
theorem t_nilo (T k : Nat) (d : Option Nat) (r : List O) (t : Tag Q) : opsT C (⟨d, .nilo T k, none⟩ :: r) ρ σ Q t = opsT C r (putd ρ d (.own T k [])) σ Q .mk := rfl
theorem t_app (T k bytes s : Nat) (y : X) (d : Option Nat) (r : List O) (t : Tag Q) : opsT C (⟨d, .app T k bytes s y, none⟩ :: r) ρ σ Q t = ownT (get ρ s) (fun T' k' rows => rwT (rowsV (ev C ρ y)) (fun rows2 => onT (T' = T ∧ k' = k ∧ rows2.all (fun r => r.length == k) = true ∧ (rows.length + rows2.length) * bytes ≤ 140737488355328) (fun _ => opsT C r (putd (put ρ s (.d (.sl rows))) d (.own T k (rows ++ rows2))) σ Q .mk) .mk) .mk) .mk := by
  unfold opsT ownT rwT onT
  simp only [awpOps, runO]
  cases get ρ s <;> simp only
  cases rowsV (ev C ρ y) <;> rfl
theorem t_mks (T k : Nat) (xs : List X) (d : Option Nat) (r : List O) (t : Tag Q) : opsT C (⟨d, .mks T k xs, none⟩ :: r) ρ σ Q t = rwT (rowsOf (xs.map (ev C ρ))) (fun rows => onT (rows.all (fun r => r.length == k) = true) (fun _ => opsT C r (putd ρ d (.d (.sl rows))) σ Q .mk) .mk) .mk := rfl
theorem t_mkc (T k bytes : Nat) (x : X) (d : Option Nat) (r : List O) (t : Tag Q) : opsT C (⟨d, .mkc T k bytes x, none⟩ :: r) ρ σ Q t = intT (ev C ρ x) (fun n => onT (0 ≤ n ∧ n * bytes ≤ 140737488355328) (fun _ => opsT C r (putd ρ d (.own T k [])) σ Q .mk) .mk) .mk := by
  unfold opsT intT onT
  simp only [awpOps, runO]
  cases ev C ρ x with
  | d z => cases z with
    | lit v => cases v <;> rfl
    | sl rows => rfl
  | _ => rfl
theorem t_mkso (T k : Nat) (xs : List X) (d : Option Nat) (r : List O) (t : Tag Q) : opsT C (⟨d, .mkso T k xs, none⟩ :: r) ρ σ Q t = rwT (rowsOf (xs.map (ev C ρ))) (fun rows => onT (rows.all (fun r => r.length == k) = true) (fun _ => opsT C r (putd ρ d (.own T k rows)) σ Q .mk) .mk) .mk := rfl
theorem t_tas (T : TypeId) (z : V) (x : X) (d : Option Nat) (r : List O) (t : Tag Q) : opsT C (⟨d, .tas T z x, none⟩ :: r) ρ σ Q t = optT (tasV T z (ev C ρ x)) (fun v => opsT C r (putd ρ d v) σ Q .mk) .mk := rfl
theorem t_clip (x y z : X) (d : Option Nat) (r : List O) (t : Tag Q) : opsT C (⟨d, .clip x y z, none⟩ :: r) ρ σ Q t = optT (clipV (ev C ρ x) (ev C ρ y) (ev C ρ z)) (fun v => opsT C r (putd ρ d v) σ Q .mk) .mk := rfl
theorem t_pan (x : X) (d : Option Nat) (r : List O) (t : Tag Q) : opsT C (⟨d, .pan x, none⟩ :: r) ρ σ Q t = ifT (ev C ρ x) (fun ty v => Q (.panic (.iface ty v)) ρ σ) .mk := rfl
theorem t_guard (d : Option Nat) (op : OP) (s : Nat) (b : Bool) (r : List O) (t : Tag Q) : opsT C (⟨d, op, some (s, b)⟩ :: r) ρ σ Q t = boolU (get ρ s) (fun c => iteT (c == b) (fun _ => opsT C (⟨d, op, none⟩ :: r) (put ρ s (.d (.lit (.bool b)))) σ Q .mk) (fun _ => opsT C r (putd (put ρ s (.d (.lit (.bool (!b))))) d (.tup [])) σ Q .mk) .mk .mk) (fun _ => opsT C r (putd ρ d (.tup [])) σ Q .mk) .mk .mk := by
  unfold opsT boolU iteT
  simp only [awpOps, beq_iff_eq, beq_eq_false_iff_ne, ne_eq]
  all_goals rfl
theorem t_nil (t : Tag Q) : opsT C [] ρ σ Q t = Q .normal ρ σ := rfl
theorem c_call (f : FuncId) (args : List X) (d : Option Nat) (r : List O) (t : Tag K) : calmT C (⟨d, .call f args, none⟩ :: r) ρ σ K t = CallT C f (args.map fun x => (ev C ρ x).lend) σ (fun v => calmT C r (putd ρ d v) σ K .mk) .mk := rfl
theorem c_mks (T k : Nat) (xs : List X) (d : Option Nat) (r : List O) (t : Tag K) : calmT C (⟨d, .mks T k xs, none⟩ :: r) ρ σ K t = rwT (rowsOf (xs.map (ev C ρ))) (fun rows => onT (rows.all (fun r => r.length == k) = true) (fun _ => calmT C r (putd ρ d (.d (.sl rows))) σ K .mk) .mk) .mk := rfl
theorem c_guard (d : Option Nat) (op : OP) (s : Nat) (b : Bool) (r : List O) (t : Tag K) : calmT C (⟨d, op, some (s, b)⟩ :: r) ρ σ K t = boolU (get ρ s) (fun c => iteT (c == b) (fun _ => calmT C (⟨d, op, none⟩ :: r) (put ρ s (.d (.lit (.bool b)))) σ K .mk) (fun _ => calmT C r (putd (put ρ s (.d (.lit (.bool (!b))))) d (.tup [])) σ K .mk) .mk .mk) (fun _ => calmT C r (putd ρ d (.tup [])) σ K .mk) .mk .mk := by
  unfold calmT boolU iteT
  simp only [awpCalm, beq_iff_eq, beq_eq_false_iff_ne, ne_eq]
  all_goals rfl
theorem c_nil (t : Tag K) : calmT C [] ρ σ K t = K ρ := rfl
theorem s_mv (x : X) (d : Option Nat) (r : List O) (t : Tag KS) : stT C (⟨d, .mv x, none⟩ :: r) ρ σ accs KS t = stT C r (putd ρ d (ev C ρ x).copy) σ accs KS .mk := rfl
theorem s_bin (o : BinOp) (x y : X) (d : Option Nat) (r : List O) (t : Tag KS) : stT C (⟨d, .bin o x y, none⟩ :: r) ρ σ accs KS t = optT (binV o (ev C ρ x) (ev C ρ y)) (fun v => stT C r (putd ρ d v) σ accs KS .mk) .mk := by
  unfold stT optT; simp only [awpS, calmO, isPure, pv]; cases binV o (ev C ρ x) (ev C ρ y) <;> rfl
theorem s_nilck (x : X) (d : Option Nat) (r : List O) (t : Tag KS) : stT C (⟨d, .nilck x, none⟩ :: r) ρ σ accs KS t = optT (nilckV (ev C ρ x)) (fun v => stT C r (putd ρ d v) σ accs KS .mk) .mk := by
  unfold stT optT; simp only [awpS, calmO, isPure, pv]; cases nilckV (ev C ρ x) <;> rfl
theorem s_fa (off : Nat) (x : X) (d : Option Nat) (r : List O) (t : Tag KS) : stT C (⟨d, .fa off x, none⟩ :: r) ρ σ accs KS t = optT (faV off (ev C ρ x)) (fun v => stT C r (putd ρ d v) σ accs KS .mk) .mk := by
  unfold stT optT; simp only [awpS, calmO, isPure, pv]; cases faV off (ev C ρ x) <;> rfl
theorem s_ia (kk : Nat) (x i : X) (d : Option Nat) (r : List O) (t : Tag KS) : stT C (⟨d, .ia kk x i, none⟩ :: r) ρ σ accs KS t = optT (iaV kk (ev C ρ x) (ev C ρ i)) (fun v => stT C r (putd ρ d v) σ accs KS .mk) .mk := by
  unfold stT optT; simp only [awpS, calmO, isPure, pv]; cases iaV kk (ev C ρ x) (ev C ρ i) <;> rfl
theorem s_load (kk : Nat) (ag : Bool) (x : X) (d : Option Nat) (r : List O) (t : Tag KS) : stT C (⟨d, .load kk ag x, none⟩ :: r) ρ σ accs KS t = optT (loadV σ kk ag (ev C ρ x)) (fun v => stT C r (putd ρ d v) σ accs KS .mk) .mk := by
  unfold stT optT; simp only [awpS, calmO, isPure, pv]; cases loadV σ kk ag (ev C ρ x) <;> rfl
theorem s_call (f : FuncId) (args : List X) (d : Option Nat) (r : List O) (t : Tag KS) : stT C (⟨d, .call f args, none⟩ :: r) ρ σ accs KS t = CallT C f (args.map fun x => (ev C ρ x).lend) σ (fun v => stT C r (putd ρ d v) σ accs KS .mk) .mk := rfl
theorem s_mks (T k : Nat) (xs : List X) (d : Option Nat) (r : List O) (t : Tag KS) : stT C (⟨d, .mks T k xs, none⟩ :: r) ρ σ accs KS t = rwT (rowsOf (xs.map (ev C ρ))) (fun rows => onT (rows.all (fun r => r.length == k) = true) (fun _ => stT C r (putd ρ d (.d (.sl rows))) σ accs KS .mk) .mk) .mk := rfl
theorem s_sto (kk : Nat) (y z : X) (r : List O) (t : Tag KS) : stT C (⟨none, .sto kk y z, none⟩ :: r) ρ σ none KS t = ptrT (ev C ρ y) (fun i off => bxT σ[i]? (fun cs => onT ((ev C ρ z).boxable = true ∧ (ev C ρ z).cells.length = kk ∧ off + kk ≤ cs.length) (fun _ => stT C r ρ σ (some (σ.set i (over cs off (ev C ρ z).cells))) KS .mk) .mk) .mk) .mk := by
  unfold stT onT ptrT bxT; simp only [awpS, true_and]
  cases ev C ρ y <;> first | rfl | (simp only; done) | (simp only; rfl)
theorem s_nil (σf : List (List V)) (t : Tag KS) : stT C [] ρ σ (some σf) KS t = KS ρ σf := rfl
theorem w_draws (l : List O) (keep : List Nat) (t : Tag Q) : awpT C n0 (.draws l keep) ρ σ Q t = stT C l ρ σ none (fun ρ' σ' => Q .normal (keepOnly keep ρ') σ') .mk := rfl
theorem w_drawb (s d0 d1 T k bytes : Nat) (y : X) (l : List O) (keep : List Nat) (t : Tag Q) : awpT C n0 (.drawb s d0 d1 T k bytes y l keep) ρ σ Q t = ownT (get ρ s) (fun T' k' rows => onT (T' = T ∧ k' = k) (fun _ => calmT C l ρ σ (fun ρ' => rwT (rowsV (ev C ρ' y)) (fun r2 => onT (r2.all (fun r => r.length == k) = true ∧ (rows.length + r2.length) * bytes ≤ 140737488355328) (fun _ => Q .normal (keepOnly keep (put (put (put ρ' s (.own T k (rows ++ r2))) d0 (.d (.sl rows))) d1 (.d (.sl (rows ++ r2))))) σ) .mk) .mk) .mk) .mk) .mk := by
  unfold awpT ownT rwT onT calmT
  first | (simp only [awp, awpB, endB, and_assoc]; done) | (simp only [awp, awpB, endB, and_assoc]; rfl)
def actT (C : Cx) (f : FuncId) (vs : List V) (pre : List O) (ρ ρ1 : Slots) (σ : List (List V)) (k : V → List (List V) → Prop) (P : V → List (List V) → Prop) (_ : Tag k) (_ : Tag P) : Prop :=
  (∃ v σ1, Fun C f vs σ (fun o σ' => o = .ret v ∧ σ' = σ1) ∧ awpCalm C pre ρ σ1 (fun ρ' => ρ' = ρ1) ∧ k v σ1) ∨ Fun C f vs σ (fun o σ' => ∃ u, o = .panic u ∧ P u σ')
theorem act_ret {f : FuncId} {vs : List V} {pre : List O} {ρ ρ1 : Slots} {σ σ1 : List (List V)} {k : V → List (List V) → Prop} {P : V → List (List V) → Prop} {s : Tag k} {t : Tag P} {v : V} (h : Fun C f vs σ (fun o σ' => o = .ret v ∧ σ' = σ1)) (h2 : calmT C pre ρ σ1 (fun ρ' => ρ' = ρ1) .mk) (h3 : k v σ1) : actT C f vs pre ρ ρ1 σ k P s t := .inl ⟨v, σ1, h, h2, h3⟩
theorem act_pan {f : FuncId} {vs : List V} {pre : List O} {ρ ρ1 : Slots} {σ : List (List V)} {k : V → List (List V) → Prop} {P : V → List (List V) → Prop} {s : Tag k} {t : Tag P} (h : Fun C f vs σ (fun o σ' => ∃ u, o = .panic u ∧ P u σ')) : actT C f vs pre ρ ρ1 σ k P s t := .inr h
theorem w_drawx (pre : List O) (d : Option Nat) (f : FuncId) (args : List X) (post : List O) (kk : Nat) (y z : X) (keep : List Nat) (t : Tag Q) : awpT C n0 (.drawx pre d f args post kk y z keep) ρ σ Q t = calmT C pre ρ σ (fun ρ1 => actT C f (args.map fun x => (ev C ρ1 x).lend) pre ρ ρ1 σ (fun v σ1 => calmT C post (putd ρ1 d v) σ1 (fun ρ2 => ptrT (ev C ρ2 y) (fun i off => bxT σ1[i]? (fun cs => onT ((ev C ρ2 z).boxable = true ∧ (ev C ρ2 z).cells.length = kk ∧ off + kk ≤ cs.length) (fun _ => Q .normal (keepOnly keep ρ2) (σ1.set i (over cs off (ev C ρ2 z).cells))) .mk) .mk) .mk) .mk) (fun u σ' => ∀ ρ', Q (.panic u) (keepOnly keep ρ') σ') .mk .mk) .mk := by
  have key : ∀ (ρ2 : Slots) (σ1 : List (List V)), (∃ i off cs, ev C ρ2 y = .ptr i off ∧ σ1[i]? = some cs ∧ ((ev C ρ2 z).boxable = true ∧ (ev C ρ2 z).cells.length = kk ∧ off + kk ≤ cs.length) ∧ Q .normal (keepOnly keep ρ2) (σ1.set i (over cs off (ev C ρ2 z).cells))) = ptrT (ev C ρ2 y) (fun i off => bxT σ1[i]? (fun cs => onT ((ev C ρ2 z).boxable = true ∧ (ev C ρ2 z).cells.length = kk ∧ off + kk ≤ cs.length) (fun _ => Q .normal (keepOnly keep ρ2) (σ1.set i (over cs off (ev C ρ2 z).cells))) .mk) .mk) .mk := by
    intro ρ2 σ1
    unfold ptrT bxT onT
    apply propext
    constructor
    · rintro ⟨i, off, cs, h1, h2, h3, h4⟩
      rw [h1]; simp only [h2]; exact ⟨h3, h4⟩
    · intro h
      cases hy : ev C ρ2 y <;> rw [hy] at h <;> simp only at h <;> first | exact h.elim | skip
      rename_i i off
      cases hc : σ1[i]? with
      | none => rw [hc] at h; exact h.elim
      | some cs => rw [hc] at h; exact ⟨i, off, cs, rfl, hc, h.1, h.2⟩
  unfold awpT calmT actT
  simp only [awp, awpX, key]
def gT (C : Cx) (l : List (O × GK)) (m : Nat) (h : List (List (List V))) (p : List PendG) (ρ : Slots) (σ : List (List V)) (k : Slots → List (List V) → Prop) (P : V → List (List V) → Prop) (_ : Tag k) (_ : Tag P) : Prop := awpG C P k l m h p ρ σ
def gnx (F : Slots → List (List V) → Prop) : APost := fun e ρ σ => e = .normal ∧ F ρ σ
theorem gnx_normal (F : Slots → List (List V) → Prop) : gnx F .normal ρ σ = F ρ σ := by simp [gnx]
section
variable {m : Nat} {h : List (List (List V))} {p : List PendG} {k : Slots → List (List V) → Prop} {P : V → List (List V) → Prop} {r : List (O × GK)}
theorem g_nil (s : Tag k) (t : Tag P) : gT C [] m h p ρ σ k P s t = k ρ σ := rfl
theorem g_free (o : O) (lo : Nat) (s : Tag k) (t : Tag P) : gT C ((o, .free lo) :: r) m h p ρ σ k P s t = calmT C [o] ρ σ (fun ρ' => gT C r m h p ρ' σ k P .mk .mk) .mk := rfl
theorem g_calm (o : O) (lo hi : Nat) (s : Tag k) (t : Tag P) : gT C ((o, .calm lo hi) :: r) m h p ρ σ k P s t = calmT C [o] ρ σ (fun ρ' => onT (backG C o ρ ρ' (m - lo) h) (fun _ => gT C r m h (pushG m hi ⟨o, ρ, ρ', hi⟩ p) ρ' σ k P .mk .mk) .mk) .mk := rfl
theorem g_slot (o : O) (lo : Nat) (s : Tag k) (t : Tag P) : gT C ((o, .slot lo) :: r) m h p ρ σ k P s t = opsT C [o] ρ σ (gnx fun ρ' σ' => gT C r m h p ρ' σ' k P .mk .mk) .mk := rfl
def actG (C : Cx) (f : FuncId) (vs : List V) (σ : List (List V)) (R : List (List V) → Prop) (kk : V → List (List V) → Prop) (P : V → List (List V) → Prop) (pn : Unit → Prop) (_ : Tag R) (_ : Tag kk) (_ : Tag P) (_ : Tag pn) : Prop :=
  (∃ v σ1, Fun C f vs σ (fun o σ' => o = .ret v ∧ σ' = σ1) ∧ R σ1 ∧ kk v σ1) ∨ (Fun C f vs σ (fun o σ' => ∃ u, o = .panic u ∧ P u σ') ∧ pn ())
theorem actG_ret {f : FuncId} {vs : List V} {R : List (List V) → Prop} {kk P : V → List (List V) → Prop} {pn : Unit → Prop} {t1 : Tag R} {t2 : Tag kk} {t3 : Tag P} {t4 : Tag pn} {v : V} {σ1 : List (List V)} (h1 : Fun C f vs σ (fun o σ' => o = .ret v ∧ σ' = σ1)) (h2 : R σ1) (h3 : kk v σ1) : actG C f vs σ R kk P pn t1 t2 t3 t4 := .inl ⟨v, σ1, h1, h2, h3⟩
theorem actG_pan {f : FuncId} {vs : List V} {R : List (List V) → Prop} {kk P : V → List (List V) → Prop} {pn : Unit → Prop} {t1 : Tag R} {t2 : Tag kk} {t3 : Tag P} {t4 : Tag pn} (h1 : Fun C f vs σ (fun o σ' => ∃ u, o = .panic u ∧ P u σ')) (h2 : pn ()) : actG C f vs σ R kk P pn t1 t2 t3 t4 := .inr ⟨h1, h2⟩
theorem g_call (d : Option Nat) (f : FuncId) (args : List X) (s : Tag k) (t : Tag P) : gT C ((⟨d, .call f args, none⟩, .act) :: r) m h p ρ σ k P s t = actG C f (args.map fun x => (ev C ρ x).lend) σ (fun σ1 => reG C (m + 1) σ1 p) (fun v σ1 => gT C r (m + 1) (σ :: h) p (putd ρ d v) σ1 k P .mk .mk) P (fun _ => panG C r m h (putd ρ d .junk) σ) .mk .mk .mk .mk := by
  unfold gT actG; simp only [awpG]
theorem g_sto (d : Option Nat) (kk : Nat) (x y : X) (s : Tag k) (t : Tag P) : gT C ((⟨d, .sto kk x y, none⟩, .act) :: r) m h p ρ σ k P s t = opsT C [⟨d, .sto kk x y, none⟩] ρ σ (gnx fun ρ' σ' => onT (reG C (m + 1) σ' p) (fun _ => gT C r (m + 1) (σ :: h) p ρ' σ' k P .mk .mk) .mk) .mk := by
  unfold gT; simp only [awpG]; rfl
theorem re_nil (σ' : List (List V)) : reG C m σ' [] = True := rfl
theorem re_cons (o : O) (ρ1 ρ2 : Slots) (hi : Nat) (σ' : List (List V)) : reG C m σ' (⟨o, ρ1, ρ2, hi⟩ :: p) = onT (if m ≤ hi then calmT C [o] ρ1 σ' (fun ρ' => ρ' = ρ2) .mk else True) (fun _ => reG C m σ' p) .mk := rfl
theorem back_zero (o : O) (ρ1 ρ2 : Slots) : backG C o ρ1 ρ2 0 h = True := by cases h <;> rfl
theorem back_succ (o : O) (ρ1 ρ2 : Slots) (n : Nat) : backG C o ρ1 ρ2 (n + 1) (σ :: h) = onT (calmT C [o] ρ1 σ (fun ρ' => ρ' = ρ2) .mk) (fun _ => backG C o ρ1 ρ2 n h) .mk := rfl
theorem push_if (hi : Nat) (x : PendG) : pushG m hi x p = if m < hi then x :: p else p := rfl
theorem p_nil : panG C [] m h ρ σ = True := rfl
theorem p_free (o : O) (lo : Nat) : panG C ((o, .free lo) :: r) m h ρ σ = if lo ≤ m then calmT C [o] ρ σ (fun ρ' => panG C r m h ρ' σ) .mk else panG C r m h (ap o (.junk, .junk) ρ) σ := rfl
theorem p_calm (o : O) (lo hi : Nat) : panG C ((o, .calm lo hi) :: r) m h ρ σ = if lo ≤ m then calmT C [o] ρ σ (fun ρ' => onT (backG C o ρ ρ' (m - lo) h) (fun _ => panG C r m h ρ' σ) .mk) .mk else panG C r m h (ap o (.junk, .junk) ρ) σ := rfl
theorem p_slot (o : O) (lo : Nat) : panG C ((o, .slot lo) :: r) m h ρ σ = if lo ≤ m then opsT C [o] ρ σ (gnx fun ρ' _ => panG C r m h ρ' σ) .mk else panG C r m h (ap o (.junk, .junk) ρ) σ := rfl
theorem p_act (o : O) : panG C ((o, .act) :: r) m h ρ σ = panG C r m h (ap o (.junk, .junk) ρ) σ := rfl
end
theorem w_drawg (l : List (O × GK)) (keep : List Nat) (t : Tag Q) : awpT C n0 (.drawg l keep) ρ σ Q t = gT C l 0 [] [] ρ σ (fun ρ' σ' => Q .normal (keepOnly keep ρ') σ') (fun u σ' => ∀ ρ', Q (.panic u) (keepOnly keep ρ') σ') .mk .mk := rfl
theorem w_skip (t : Tag Q) : awpT C n0 .skip ρ σ Q t = Q .normal ρ σ := rfl
theorem w_ops (l : List O) (keep : List Nat) (t : Tag Q) : awpT C n0 (.ops l keep) ρ σ Q t = opsT C l ρ σ (fun e ρ' σ' => Q e (keepOnly keep ρ') σ') .mk := rfl
theorem w_draw (l : List O) (keep : List Nat) (t : Tag Q) : awpT C n0 (.draw l keep) ρ σ Q t = calmT C l ρ σ (fun ρ' => Q .normal (keepOnly keep ρ') σ) .mk := rfl
theorem w_seq (a b : Cd) (t : Tag Q) : awpT C n0 (.seq a b) ρ σ Q t = awpT C n0 a ρ σ (andThen (fun ρ' σ' => awpT C n0 b ρ' σ' Q .mk) Q) .mk := rfl
theorem w_cond (x : X) (a b : Cd) (t : Tag Q) : awpT C n0 (.cond x a b) ρ σ Q t = boolT (ev C ρ x) (fun c => iteT c (fun _ => awpT C n0 a ρ σ Q .mk) (fun _ => awpT C n0 b ρ σ Q .mk) .mk .mk) .mk := rfl
theorem w_block (id : Nat) (a : Cd) (t : Tag Q) : awpT C n0 (.block id a) ρ σ Q t = awpT C n0 a ρ σ (inBlk id Q) .mk := rfl
theorem w_exit (id : Nat) (t : Tag Q) : awpT C n0 (.exit id) ρ σ Q t = Q (.exit id) ρ σ := rfl
theorem w_ret (t : Tag Q) : awpT C n0 .ret ρ σ Q t = Q .ret ρ σ := rfl
theorem then_normal (next : Slots → List (List V) → Prop) : andThen next Q .normal ρ σ = next ρ σ := rfl
theorem then_ret (next : Slots → List (List V) → Prop) : andThen next Q .ret ρ σ = Q .ret ρ σ := rfl
theorem then_exit (next : Slots → List (List V) → Prop) (i : Nat) : andThen next Q (.exit i) ρ σ = Q (.exit i) ρ σ := rfl
theorem then_panic (next : Slots → List (List V) → Prop) (v : V) : andThen next Q (.panic v) ρ σ = Q (.panic v) ρ σ := rfl
theorem blk_normal (id : Nat) : inBlk id Q .normal ρ σ = Q .normal ρ σ := rfl
theorem blk_ret (id : Nat) : inBlk id Q .ret ρ σ = Q .ret ρ σ := rfl
theorem blk_exit (id j : Nat) : inBlk id Q (.exit j) ρ σ = if j = id then Q .normal ρ σ else Q (.exit j) ρ σ := rfl
theorem blk_panic (id : Nat) (v : V) : inBlk id Q (.panic v) ρ σ = Q (.panic v) ρ σ := rfl
theorem awpOps_mono {Q' : APost} (hq : ∀ e ρ σ, Q e ρ σ → Q' e ρ σ) : ∀ {l : List O} {ρ : Slots} {σ : List (List V)}, awpOps C l ρ σ Q → awpOps C l ρ σ Q'
  | [], ρ, σ, h => hq _ _ _ h
  | o :: r, ρ, σ, h => by
    have step : ∀ {ρ : Slots} {K K' : Slots → List (List V) → Prop}, (∀ ρ σ, K ρ σ → K' ρ σ) → runO C o.op o.dst ρ σ K Q → runO C o.op o.dst ρ σ K' Q' := by
      intro ρ K K' hk hr
      have hout : ∀ (o' : Out) (σ' : List (List V)), (match o' with | .ret v => K (putd ρ o.dst v) σ' | .panic v => Q (.panic v) ρ σ') → (match o' with | .ret v => K' (putd ρ o.dst v) σ' | .panic v => Q' (.panic v) ρ σ') := by
        intro o' σ' hh
        cases o' with
        | ret v => exact hk _ _ hh
        | panic v => exact hq _ _ _ hh
      generalize o.op = op at hr ⊢
      unfold runO at hr ⊢
      cases op <;> (try simp only at hr ⊢)
      case call f args => exact hr.mono hout
      case callv x args => generalize ev C ρ x = z at hr ⊢; cases z <;> (try simp only at hr ⊢) <;> first | exact hr.elim | exact hr.mono hout
      case calln f args => exact hr.mono hout
      case callm x args t =>
        generalize ev C ρ x = z at hr ⊢
        generalize get ρ t = z' at hr ⊢
        split at hr
        case h_2 => exact hr.elim
        refine hr.mono fun o' σ' hh => ?_
        cases o' with
        | ret v => exact hk _ _ hh
        | panic v => exact hq _ _ _ hh
      case new T cs => exact hk _ _ hr
      case box T x => exact ⟨hr.1, hk _ _ hr.2⟩
      case sto k x y =>
        generalize ev C ρ x = z at hr ⊢; cases z <;> (try simp only at hr ⊢) <;> first | exact hr.elim | skip
        rename_i i off
        generalize σ[i]? = z at hr ⊢; cases z <;> (try simp only at hr ⊢) <;> first | exact hr.elim | exact ⟨hr.1, hk _ _ hr.2⟩
      case stoo x t =>
        generalize ev C ρ x = z at hr ⊢; cases z <;> (try simp only at hr ⊢) <;> first | exact hr.elim | skip
        rename_i i off
        generalize get ρ t = z at hr ⊢; cases z <;> (try simp only at hr ⊢) <;> first | exact hr.elim | skip
        generalize σ[i]? = z at hr ⊢; cases z <;> (try simp only at hr ⊢) <;> first | exact hr.elim | exact ⟨hr.1, hk _ _ hr.2⟩
      case ldo x =>
        generalize ev C ρ x = z at hr ⊢; cases z <;> (try simp only at hr ⊢) <;> first | exact hr.elim | skip
        rename_i i off
        generalize σ[i]? = z at hr ⊢; cases z <;> (try simp only at hr ⊢) <;> first | exact hr.elim | skip
        rename_i cs
        generalize cs[off]? = z at hr ⊢; cases z <;> (try simp only at hr ⊢) <;> first | exact hr.elim | skip
        rename_i v
        cases v <;> (try simp only at hr ⊢) <;> first | exact hr.elim | exact hk _ _ hr
      case mvo t => generalize get ρ t = z at hr ⊢; cases z <;> (try simp only at hr ⊢) <;> first | exact hr.elim | exact hk _ _ hr
      case nilo T k => exact hk _ _ hr
      case app T k b t y =>
        generalize get ρ t = z at hr ⊢; cases z <;> (try simp only at hr ⊢) <;> first | exact hr.elim | skip
        generalize rowsV (ev C ρ y) = z at hr ⊢; cases z <;> (try simp only at hr ⊢) <;> first | exact hr.elim | exact ⟨hr.1, hk _ _ hr.2⟩
      case mks T k xs => generalize rowsOf (xs.map (ev C ρ)) = z at hr ⊢; cases z <;> (try simp only at hr ⊢) <;> first | exact hr.elim | exact ⟨hr.1, hk _ _ hr.2⟩
      case mkso T k xs => generalize rowsOf (xs.map (ev C ρ)) = z at hr ⊢; cases z <;> (try simp only at hr ⊢) <;> first | exact hr.elim | exact ⟨hr.1, hk _ _ hr.2⟩
      case mkc T k bytes x =>
        generalize ev C ρ x = z at hr ⊢
        cases z <;> (try simp only at hr ⊢) <;> first | exact hr.elim | skip
        rename_i z
        cases z <;> (try simp only at hr ⊢) <;> first | exact hr.elim | skip
        rename_i z
        cases z <;> (try simp only at hr ⊢) <;> first | exact hr.elim | exact ⟨hr.1, hk _ _ hr.2⟩
      case mkb T bytes q x =>
        generalize ev C ρ x = z at hr ⊢
        cases z <;> (try simp only at hr ⊢) <;> first | exact hr.elim | skip
        rename_i z
        cases z <;> (try simp only at hr ⊢) <;> first | exact hr.elim | skip
        rename_i z
        cases z <;> (try simp only at hr ⊢) <;> first | exact hr.elim | exact ⟨hr.1, hk _ _ hr.2⟩
      case pan x => generalize ev C ρ x = z at hr ⊢; cases z <;> (try simp only at hr ⊢) <;> first | exact hr.elim | exact hq _ _ _ hr
      all_goals (split at hr <;> first | exact hk _ _ hr | exact hr.elim)
    simp only [awpOps] at h ⊢
    cases hg : o.g with
    | none => rw [hg] at h; exact step (fun _ _ hh => awpOps_mono hq hh) h
    | some p =>
      obtain ⟨t, want⟩ := p
      rw [hg] at h
      simp only at h ⊢
      split at h
      · rename_i b hb
        exact ⟨fun e => step (fun _ _ hh => awpOps_mono hq hh) (h.1 e), fun e => awpOps_mono hq (h.2 e)⟩
      · rename_i hb
        exact awpOps_mono hq h
      · exact h.elim
theorem calmO_mono {op : OP} {k k' : V → Prop} (hk : ∀ v, k v → k' v) (h : calmO C op ρ σ k) : calmO C op ρ σ k' := by
  obtain ⟨v, h1, h2⟩ := calmO_split h
  unfold calmO at h1 ⊢
  split at h1
  · obtain ⟨u, g1, g2⟩ := h1; subst g2; exact ⟨u, g1, hk _ h2⟩
  · split at h1
    · obtain ⟨u, g1, g2⟩ := h1; subst g2; exact ⟨u, g1, hk _ h2⟩
    · exact h1.elim
  · split at h1
    · exact ⟨h1.1, hk _ (h1.2 ▸ h2)⟩
    · exact h1.elim
  · obtain ⟨u, g1, g2⟩ := h1; subst g2; exact ⟨u, g1, hk _ h2⟩
  · split at h1
    · subst h1; exact hk _ h2
    · exact h1.elim
theorem awpCalm_mono {K K' : Slots → Prop} (hk : ∀ ρ, K ρ → K' ρ) : ∀ {l : List O} {ρ : Slots}, awpCalm C l ρ σ K → awpCalm C l ρ σ K'
  | [], ρ, h => hk _ h
  | o :: r, ρ, h => by
    simp only [awpCalm] at h ⊢
    cases hg : o.g with
    | none => rw [hg] at h; exact calmO_mono (fun _ hh => awpCalm_mono hk hh) h
    | some p =>
      obtain ⟨t, want⟩ := p
      rw [hg] at h
      simp only at h ⊢
      split at h
      · rename_i b hb
        exact ⟨fun e => calmO_mono (fun _ hh => awpCalm_mono hk hh) (h.1 e), fun e => awpCalm_mono hk (h.2 e)⟩
      · rename_i hb
        exact awpCalm_mono hk h
      · exact h.elim
theorem awpS_mono {K K' : Slots → List (List V) → Prop} (hk : ∀ ρ r, K ρ r → K' ρ r) : ∀ {l : List O} {ρ : Slots} {acc : Option (List (List V))}, awpS C σ l ρ acc K → awpS C σ l ρ acc K'
  | [], ρ, acc, h => by
    cases acc with
    | none => exact h.elim
    | some r => exact hk _ _ h
  | o :: r, ρ, acc, h => by
    unfold awpS at h ⊢
    split at h
    · refine ⟨h.1, h.2.1, ?_⟩
      have h2 := h.2.2
      split at h2
      · split at h2
        · exact ⟨h2.1, awpS_mono hk h2.2⟩
        · exact h2.elim
      · exact h2.elim
    · split at h
      · exact calmO_mono (fun v hh => awpS_mono hk hh) h
      · split at h
        · exact ⟨fun e => calmO_mono (fun v hh => awpS_mono hk hh) (h.1 e), fun e => awpS_mono hk (h.2 e)⟩
        · exact awpS_mono hk h
        · exact h.elim
theorem awpG_mono {K K' : Slots → List (List V) → Prop} {P P' : V → List (List V) → Prop} (hk : ∀ ρ r, K ρ r → K' ρ r) (hp : ∀ u r, P u r → P' u r) : ∀ {l : List (O × GK)} {m : Nat} {h : List (List (List V))} {p : List PendG} {ρ : Slots} {σ : List (List V)}, awpG C P K l m h p ρ σ → awpG C P' K' l m h p ρ σ
  | [], _, _, _, _, _, hg => hk _ _ hg
  | (o, .free _) :: r, _, _, _, _, _, hg => by
    simp only [awpG] at hg ⊢
    exact awpCalm_mono (fun ρ' hh => awpG_mono hk hp hh) hg
  | (o, .calm _ _) :: r, _, _, _, _, _, hg => by
    simp only [awpG] at hg ⊢
    exact awpCalm_mono (fun ρ' hh => ⟨hh.1, awpG_mono hk hp hh.2⟩) hg
  | (o, .slot _) :: r, _, _, _, _, _, hg => by
    simp only [awpG] at hg ⊢
    exact awpOps_mono (fun e ρ' σ' hh => ⟨hh.1, awpG_mono hk hp hh.2⟩) hg
  | (⟨d, op, g⟩, .act) :: r, m, h, p, ρ, σ, hg => by
    have call : ∀ {f : FuncId} {vs : List V}, ((∃ v σ1, Fun C f vs σ (fun o σ' => o = .ret v ∧ σ' = σ1) ∧ reG C (m + 1) σ1 p ∧ awpG C P K r (m + 1) (σ :: h) p (putd ρ d v) σ1) ∨ (Fun C f vs σ (fun o σ' => ∃ u, o = .panic u ∧ P u σ') ∧ panG C r m h (putd ρ d .junk) σ)) →
        ((∃ v σ1, Fun C f vs σ (fun o σ' => o = .ret v ∧ σ' = σ1) ∧ reG C (m + 1) σ1 p ∧ awpG C P' K' r (m + 1) (σ :: h) p (putd ρ d v) σ1) ∨ (Fun C f vs σ (fun o σ' => ∃ u, o = .panic u ∧ P' u σ') ∧ panG C r m h (putd ρ d .junk) σ)) := fun {f vs} hh => by
      rcases hh with ⟨v, σ1, h1, h2, h3⟩ | ⟨h1, h2⟩
      · exact .inl ⟨v, σ1, h1, h2, awpG_mono hk hp h3⟩
      · exact .inr ⟨h1.mono fun o σ' ⟨u, e1, e2⟩ => ⟨u, e1, hp _ _ e2⟩, h2⟩
    cases op
    case call f args => simp only [awpG] at hg ⊢; exact call hg
    case callv x args =>
      simp only [awpG] at hg ⊢
      obtain ⟨f, cap, e, hh⟩ := hg
      exact ⟨f, cap, e, call hh⟩
    all_goals
      simp only [awpG] at hg ⊢
      exact awpOps_mono (fun e ρ' σ' hh => ⟨hh.1, hh.2.1, awpG_mono hk hp hh.2.2⟩) hg
theorem awp_mono : ∀ {c : Cd} {ρ : Slots} {σ : List (List V)} {Q Q' : APost}, (∀ e ρ σ, Q e ρ σ → Q' e ρ σ) → awp C n0 c ρ σ Q → awp C n0 c ρ σ Q' := by
  intro c
  induction c with
  | skip => exact fun hq h => hq _ _ _ h
  | ops l keep => exact fun hq h => awpOps_mono (fun e ρ σ => hq e _ σ) h
  | draw l keep => exact fun hq h => awpCalm_mono (fun ρ => hq _ _ _) h
  | draws l keep => exact fun hq h => awpS_mono (fun ρ r hh => hq _ _ _ hh) h
  | drawx pre d f args post kk y z keep =>
    intro ρ σ Q Q' hq h
    simp only [awp, awpX] at h ⊢
    refine awpCalm_mono (fun ρ1 hh => ?_) h
    rcases hh with ⟨v, σ1, h1, h2, h3⟩ | h1
    · exact .inl ⟨v, σ1, h1, h2, awpCalm_mono (fun ρ2 ⟨i, off, cs, k1, k2, k3, k4⟩ => ⟨i, off, cs, k1, k2, k3, hq _ _ _ k4⟩) h3⟩
    · exact .inr (h1.mono fun o σ' ⟨u, e1, e2⟩ => ⟨u, e1, fun ρ' => hq _ _ _ (e2 ρ')⟩)
  | drawg l keep =>
    intro ρ σ Q Q' hq h
    exact awpG_mono (fun ρ σ hh => hq _ _ _ hh) (fun u σ hh ρ' => hq _ _ _ (hh ρ')) h
  | drawb s d0 d1 T k bytes y l keep =>
    intro ρ σ Q Q' hq h
    simp only [awp, awpB] at h ⊢
    split at h
    · refine ⟨h.1, h.2.1, awpCalm_mono (fun ρ' hh => ?_) h.2.2⟩
      split at hh
      · exact ⟨hh.1, hq _ _ _ hh.2⟩
      · exact hh.elim
    · exact h.elim
  | seq a b iha ihb =>
    exact fun hq h => iha (fun e ρ σ hh => by
      cases e with
      | normal => exact ihb hq hh
      | ret => exact hq _ _ _ hh
      | exit i => exact hq _ _ _ hh
      | panic v => exact hq _ _ _ hh) h
  | cond x a b iha ihb =>
    intro ρ σ Q Q' hq h
    simp only [awp] at h ⊢
    generalize ev C ρ x = z at h ⊢; cases z <;> (try simp only at h ⊢) <;> first | exact h.elim | skip
    rename_i x
    cases x <;> (try simp only at h ⊢) <;> first | exact h.elim | skip
    rename_i v
    cases v <;> (try simp only at h ⊢) <;> first | exact h.elim | skip
    exact ⟨fun e => iha hq (h.1 e), fun e => ihb hq (h.2 e)⟩
  | block id a ih =>
    exact fun hq h => ih (fun e ρ σ hh => by
      cases e with
      | normal => exact hq _ _ _ hh
      | ret => exact hq _ _ _ hh
      | exit i =>
        simp only [inBlk] at hh ⊢
        split
        · rename_i e; rw [if_pos e] at hh; exact hq _ _ _ hh
        · rename_i e; rw [if_neg e] at hh; exact hq _ _ _ hh
      | panic v => exact hq _ _ _ hh) h
  | loop a ih =>
    intro ρ σ Q Q' hq h
    obtain ⟨ρ1, σ1, h0, I, h1, h2⟩ := h
    exact ⟨ρ1, σ1, h0, I, h1, fun m ρ' σ' hI => ih (fun e ρ σ hh => by
      cases e with
      | normal => exact hh
      | ret => exact hq _ _ _ hh
      | exit i => exact hq _ _ _ hh
      | panic v => exact hq _ _ _ hh) (h2 m ρ' σ' hI)⟩
  | exit id => exact fun hq h => hq _ _ _ h
  | ret => exact fun hq h => hq _ _ _ h
theorem awp_loopS {a : Cd} (I : Nat → Slots → List (List V) → Prop) (m : Nat) {ρ1 : Slots} {σ1 : List (List V)} (hu : Shift n0 ρ σ ρ1 σ1) (h0 : I m ρ1 σ1)
    (h : ∀ m ρ' σ', I m ρ' σ' → awp C n0 a ρ' σ' (andThen (fun ρ'' σ'' => ∃ m', m' < m ∧ ∃ ρ3 σ3, Shift n0 ρ'' σ'' ρ3 σ3 ∧ I m' ρ3 σ3) Q)) : awp C n0 (.loop a) ρ σ Q :=
  ⟨ρ1, σ1, hu, I, ⟨m, h0⟩, h⟩
theorem andThen_imp {R R' : Slots → List (List V) → Prop} {Q : APost} (h : ∀ ρ σ, R ρ σ → R' ρ σ) : ∀ e ρ σ, andThen R Q e ρ σ → andThen R' Q e ρ σ := fun e ρ σ hh => by
  cases e with
  | normal => exact h _ _ hh
  | ret => exact hh
  | exit i => exact hh
  | panic v => exact hh
theorem awp_loop {a : Cd} (I : Nat → Slots → List (List V) → Prop) (m : Nat) {σ1 : List (List V)} (hu : Up σ σ1) (h0 : I m ρ σ1)
    (h : ∀ m ρ' σ', I m ρ' σ' → awp C n0 a ρ' σ' (andThen (fun ρ'' σ'' => ∃ m', m' < m ∧ ∃ k, n0 ≤ k ∧ boxesBelow k (σ''.take k) = true ∧ slotsBelow k ρ'' = true ∧ I m' ρ'' (σ''.take k)) Q)) : awp C n0 (.loop a) ρ σ Q :=
  awp_loopS I m (Shift.up n0 ρ hu) h0 fun m ρ' σ' hI => awp_mono (andThen_imp fun ρ'' σ'' ⟨m', h1, k, h2, h3, h4, h5⟩ => ⟨m', h1, ρ'', σ''.take k, .cut h2 h3 h4, h5⟩) (h m ρ' σ' hI)
theorem awp_loopK {a : Cd} (ks : List Nat) (I : Nat → Slots → List (List V) → Prop) (m : Nat) {σ1 : List (List V)} (hu : Up σ σ1) (h0 : I m (keepOnly ks ρ) σ1)
    (h : ∀ m ρ' σ', I m ρ' σ' → awp C n0 a ρ' σ' (andThen (fun ρ'' σ'' => ∃ m', m' < m ∧ ∃ k, n0 ≤ k ∧ boxesBelow k (σ''.take k) = true ∧ slotsBelow k (keepOnly ks ρ'') = true ∧ I m' (keepOnly ks ρ'') (σ''.take k)) Q)) : awp C n0 (.loop a) ρ σ Q :=
  awp_loopS I m ((Shift.keep n0 ks ρ σ).trans (Shift.up n0 _ hu)) h0 fun m ρ' σ' hI => awp_mono (andThen_imp fun ρ'' σ'' ⟨m', h1, k, h2, h3, h4, h5⟩ => ⟨m', h1, _, σ''.take k, (Shift.keep n0 ks ρ'' σ'').trans (.cut h2 h3 h4), h5⟩) (h m ρ' σ' hI)
end
mutual
theorem V.under_mono {k j : Nat} (hj : k ≤ j) : ∀ v : V, V.under k v = true → V.under j v = true
  | .agg cs, h => by simp only [V.under] at h ⊢; exact V.unders_mono hj cs h
  | .tup cs, h => by simp only [V.under] at h ⊢; exact V.unders_mono hj cs h
  | .fn _ cs, h => by simp only [V.under] at h ⊢; exact V.unders_mono hj cs h
  | .iface _ v, h => by simp only [V.under] at h ⊢; exact V.under_mono hj v h
  | .ptr i o, h => by simp only [V.under, decide_eq_true_eq] at h ⊢; omega
  | .bsl i o n m, h => by simp only [V.under, decide_eq_true_eq] at h ⊢; omega
  | .d _, _ => rfl
  | .own _ _ _, _ => rfl
  | .nil, _ => rfl
  | .row _ _, _ => rfl
  | .junk, _ => rfl
theorem V.unders_mono {k j : Nat} (hj : k ≤ j) : ∀ cs : List V, V.unders k cs = true → V.unders j cs = true
  | [], _ => rfl
  | x :: r, h => by
    simp only [V.unders, Bool.and_eq_true] at h ⊢
    exact ⟨V.under_mono hj x h.1, V.unders_mono hj r h.2⟩
end
theorem boxesBelow_mono {σ : List (List V)} {k j : Nat} (h : boxesBelow k σ = true) (hj : k ≤ j) : boxesBelow j σ = true := by
  unfold boxesBelow at *
  rw [List.all_eq_true] at h ⊢
  exact fun cs hcs => V.unders_mono hj cs (h cs hcs)
theorem boxesBelow_app {σ l : List (List V)} (h : boxesBelow σ.length σ = true) (hl : l.all (fun cs => V.unders (σ ++ l).length cs) = true) : boxesBelow (σ ++ l).length (σ ++ l) = true := by
  have := boxesBelow_mono h (j := (σ ++ l).length) (by simp)
  unfold boxesBelow at *
  rw [List.all_append, this, hl]; rfl
theorem fin_ret {σ σ' : List (List V)} {ρ : Slots} {rs : List RV} {Q : Out → List (List V) → Prop} (hb : boxesBelow σ.length σ = true) {v : V} (h : resV σ' ρ rs = some v) (hv : V.under σ.length v = true) (hσ : σ'.take σ.length = σ) (hq : Q (.ret v) σ) : fin σ.length rs Q .ret ρ σ' :=
  ⟨ρ, σ', .refl _ _ _, v, h, σ.length, Nat.le_refl _, by rw [hσ]; exact hb, hv, by rw [hσ]; exact hq⟩
def Nxt (n0 : Nat) (R : Slots → List (List V) → Prop) (ρ : Slots) (σ : List (List V)) (_ : Tag R) : Prop := ∃ k, n0 ≤ k ∧ boxesBelow k (σ.take k) = true ∧ slotsBelow k ρ = true ∧ R ρ (σ.take k)
theorem Nxt.same {n0 : Nat} {R : Slots → List (List V) → Prop} {ρ : Slots} {σ : List (List V)} (hn : n0 ≤ σ.length) (hb : boxesBelow σ.length σ = true) (hs : slotsBelow σ.length ρ = true) (hR : R ρ σ) : Nxt n0 R ρ σ .mk :=
  ⟨σ.length, hn, by rw [List.take_length]; exact hb, hs, by rw [List.take_length]; exact hR⟩
theorem Nxt.drop {n0 : Nat} {R : Slots → List (List V) → Prop} {ρ : Slots} {σ l : List (List V)} (hn : n0 ≤ σ.length) (hb : boxesBelow σ.length σ = true) (hs : slotsBelow σ.length ρ = true) (hR : R ρ σ) : Nxt n0 R ρ (σ ++ l) .mk :=
  ⟨σ.length, hn, by rw [List.take_left]; exact hb, hs, by rw [List.take_left]; exact hR⟩
theorem awp_forU {C : Cx} {n0 : Nat} {ρ : Slots} {σ : List (List V)} {Q : APost} {a : Cd} (R : Nat → Slots → List (List V) → Prop) (n : Nat) {σ1 : List (List V)} (hu : Up σ σ1) (h0 : R 0 ρ σ1)
    (h : ∀ j ρ' σ', j ≤ n → R j ρ' σ' → awpT C n0 a ρ' σ' (andThen (fun ρ'' σ'' => j < n ∧ Nxt n0 (R (j + 1)) ρ'' σ'' .mk) Q) .mk) (t : Tag Q) : awpT C n0 (.loop a) ρ σ Q t :=
  awp_loop (fun m ρ σ => ∃ j, j ≤ n ∧ m = n - j ∧ R j ρ σ) n hu ⟨0, by omega, by omega, h0⟩ fun m ρ' σ' ⟨j, hj, hm, hR⟩ => by
    have hi : ∀ e ρ'' σ'', andThen (fun ρ'' σ'' => j < n ∧ Nxt n0 (R (j + 1)) ρ'' σ'' .mk) Q e ρ'' σ'' → andThen (fun ρ'' σ'' => ∃ m', m' < m ∧ ∃ k, n0 ≤ k ∧ boxesBelow k (σ''.take k) = true ∧ slotsBelow k ρ'' = true ∧ ∃ j, j ≤ n ∧ m' = n - j ∧ R j ρ'' (σ''.take k)) Q e ρ'' σ'' := by
      intro e ρ'' σ'' h
      cases e with
      | normal =>
        obtain ⟨h1, k, h2, h3, h4, h5⟩ := h
        exact ⟨n - (j + 1), by omega, k, h2, h3, h4, j + 1, by omega, rfl, h5⟩
      | ret => exact h
      | exit i => exact h
      | panic v => exact h
    exact awp_mono hi (h j ρ' σ' hj hR)
theorem awp_forKU {C : Cx} {n0 : Nat} {ρ : Slots} {σ : List (List V)} {Q : APost} {a : Cd} (ks : List Nat) (R : Nat → Slots → List (List V) → Prop) (n : Nat) {σ1 : List (List V)} (hu : Up σ σ1) (h0 : R 0 (keepOnly ks ρ) σ1)
    (h : ∀ j ρ' σ', j ≤ n → R j ρ' σ' → awpT C n0 a ρ' σ' (andThen (fun ρ'' σ'' => j < n ∧ Nxt n0 (R (j + 1)) (keepOnly ks ρ'') σ'' .mk) Q) .mk) (t : Tag Q) : awpT C n0 (.loop a) ρ σ Q t :=
  awp_loopK ks (fun m ρ σ => ∃ j, j ≤ n ∧ m = n - j ∧ R j ρ σ) n hu ⟨0, by omega, by omega, h0⟩ fun m ρ' σ' ⟨j, hj, hm, hR⟩ => by
    have hi : ∀ e ρ'' σ'', andThen (fun ρ'' σ'' => j < n ∧ Nxt n0 (R (j + 1)) (keepOnly ks ρ'') σ'' .mk) Q e ρ'' σ'' → andThen (fun ρ'' σ'' => ∃ m', m' < m ∧ ∃ k, n0 ≤ k ∧ boxesBelow k (σ''.take k) = true ∧ slotsBelow k (keepOnly ks ρ'') = true ∧ ∃ j, j ≤ n ∧ m' = n - j ∧ R j (keepOnly ks ρ'') (σ''.take k)) Q e ρ'' σ'' := by
      intro e ρ'' σ'' h
      cases e with
      | normal =>
        obtain ⟨h1, k, h2, h3, h4, h5⟩ := h
        exact ⟨n - (j + 1), by omega, k, h2, h3, h4, j + 1, by omega, rfl, h5⟩
      | ret => exact h
      | exit i => exact h
      | panic v => exact h
    exact awp_mono hi (h j ρ' σ' hj hR)
theorem awp_forK {C : Cx} {n0 : Nat} {ρ : Slots} {σ : List (List V)} {Q : APost} {a : Cd} (ks : List Nat) (R : Nat → Slots → List (List V) → Prop) (n : Nat) (h0 : R 0 (keepOnly ks ρ) σ)
    (h : ∀ j ρ' σ', j ≤ n → R j ρ' σ' → awpT C n0 a ρ' σ' (andThen (fun ρ'' σ'' => j < n ∧ Nxt n0 (R (j + 1)) (keepOnly ks ρ'') σ'' .mk) Q) .mk) (t : Tag Q) : awpT C n0 (.loop a) ρ σ Q t := awp_forKU ks R n (.refl σ) h0 h t
theorem awp_for {C : Cx} {n0 : Nat} {ρ : Slots} {σ : List (List V)} {Q : APost} {a : Cd} (R : Nat → Slots → List (List V) → Prop) (n : Nat) (h0 : R 0 ρ σ)
    (h : ∀ j ρ' σ', j ≤ n → R j ρ' σ' → awpT C n0 a ρ' σ' (andThen (fun ρ'' σ'' => j < n ∧ Nxt n0 (R (j + 1)) ρ'' σ'' .mk) Q) .mk) (t : Tag Q) : awpT C n0 (.loop a) ρ σ Q t := awp_forU R n (.refl σ) h0 h t
def RetV (v : V) (σ : List (List V)) : Out → List (List V) → Prop := fun o σ' => o = .ret v ∧ σ' = σ
theorem fun_ret {C : Cx} {f : FuncId} {args : List V} {σ : List (List V)} {v : V} {K P : V → List (List V) → Prop} {s : Tag K} {t : Tag P} (h : Fun C f args σ (RetV v σ)) (hk : K v σ) : FunT C f args σ K P s t :=
  h.mono fun o σ' ⟨e1, e2⟩ => by subst e1; subst e2; exact hk
theorem calm_ret {C : Cx} {f : FuncId} {args : List V} {σ : List (List V)} {v : V} {k : V → Prop} {t : Tag k} (h : Fun C f args σ (RetV v σ)) (hk : k v) : CallT C f args σ k t := ⟨v, h, hk⟩
theorem fun_mono {C : Cx} {f : FuncId} {args : List V} {σ : List (List V)} {K P : V → List (List V) → Prop} {s : Tag K} {t : Tag P} {Q : Out → List (List V) → Prop} (h : Fun C f args σ Q) (hk : ∀ o σ', Q o σ' → retK K P o σ') : FunT C f args σ K P s t := h.mono hk
theorem fun_code {C : Cx} {f : FuncId} {fn : Func} {c : Cd} {rs : List RV} {args : List V} {σ : List (List V)} {Q : Out → List (List V) → Prop} (hf : C.P.funcs[f]? = some fn) (hok : okFn C.tab fn args.length c rs = true) (hno : args.all (! ·.isOwn) = true)
    (h : boxesBelow σ.length σ = true → (∀ i (h : i < args.length), V.Wf args[i]) → awpT C σ.length c (slots0 0 args) σ (fin σ.length rs Q) .mk) : Fun C f args σ Q := fun_intro hf hok hno h
section
variable {σ : List (List V)}
theorem v_len_d (rows : List (List D)) : lenV false (.d (.sl rows)) = some (vint .i64 rows.length) := rfl
theorem v_len_own (T k : Nat) (rows : List (List D)) : lenV false (.own T k rows) = some (vint .i64 rows.length) := rfl
theorem v_len_nil : lenV false .nil = some (vint .i64 0) := rfl
theorem v_len_str (s : ByteArray) : lenV true (.d (.lit (.string s))) = some (vint .i64 s.size) := rfl
theorem v_rows_d (rows : List (List D)) : rowsV (.d (.sl rows)) = some rows := rfl
theorem v_rows_own (T k : Nat) (rows : List (List D)) : rowsV (.own T k rows) = some rows := rfl
theorem v_rows_nil : rowsV .nil = some [] := rfl
theorem v_add (k : IntKind) (a b : Int) : binV .add (.d (.lit (.int k a))) (.d (.lit (.int k b))) = some (vint k (k.wrap (a + b))) := by simp [binV, isShift, binI]
theorem v_sub (k : IntKind) (a b : Int) : binV .sub (.d (.lit (.int k a))) (.d (.lit (.int k b))) = some (vint k (k.wrap (a - b))) := by simp [binV, isShift, binI]
theorem v_mul (k : IntKind) (a b : Int) : binV .mul (.d (.lit (.int k a))) (.d (.lit (.int k b))) = some (vint k (k.wrap (a * b))) := by simp [binV, isShift, binI]
theorem v_quo (k : IntKind) (a b : Int) : binV .quo (.d (.lit (.int k a))) (.d (.lit (.int k b))) = if b = 0 then none else some (vint k (k.wrap (a.tdiv b))) := by simp [binV, isShift, binI]
theorem v_rem (k : IntKind) (a b : Int) : binV .rem (.d (.lit (.int k a))) (.d (.lit (.int k b))) = if b = 0 then none else some (vint k (a.tmod b)) := by simp [binV, isShift, binI]
theorem v_band (k : IntKind) (a b : Int) : binV .and (.d (.lit (.int k a))) (.d (.lit (.int k b))) = some (vint k (k.wrap (BitVec.ofInt k.bits a &&& BitVec.ofInt k.bits b).toNat)) := by simp only [binV, isShift, Bool.false_eq_true, if_false, if_true, binI]
theorem v_bor (k : IntKind) (a b : Int) : binV .or (.d (.lit (.int k a))) (.d (.lit (.int k b))) = some (vint k (k.wrap (BitVec.ofInt k.bits a ||| BitVec.ofInt k.bits b).toNat)) := by simp only [binV, isShift, Bool.false_eq_true, if_false, if_true, binI]
theorem v_bxor (k : IntKind) (a b : Int) : binV .xor (.d (.lit (.int k a))) (.d (.lit (.int k b))) = some (vint k (k.wrap (BitVec.ofInt k.bits a ^^^ BitVec.ofInt k.bits b).toNat)) := by simp only [binV, isShift, Bool.false_eq_true, if_false, if_true, binI]
theorem v_eql (k : IntKind) (a b : Int) : binV .eql (.d (.lit (.int k a))) (.d (.lit (.int k b))) = some (vbool (decide (a = b))) := by simp [binV, isShift, binI]; rfl
theorem v_neq (k : IntKind) (a b : Int) : binV .neq (.d (.lit (.int k a))) (.d (.lit (.int k b))) = some (vbool (!decide (a = b))) := by simp [binV, isShift, binI]; rfl
theorem v_lss (k : IntKind) (a b : Int) : binV .lss (.d (.lit (.int k a))) (.d (.lit (.int k b))) = some (vbool (decide (a < b))) := by simp [binV, isShift, binI]
theorem v_leq (k : IntKind) (a b : Int) : binV .leq (.d (.lit (.int k a))) (.d (.lit (.int k b))) = some (vbool (decide (a ≤ b))) := by simp [binV, isShift, binI]
theorem v_gtr (k : IntKind) (a b : Int) : binV .gtr (.d (.lit (.int k a))) (.d (.lit (.int k b))) = some (vbool (decide (b < a))) := by simp [binV, isShift, binI]
theorem v_geq (k : IntKind) (a b : Int) : binV .geq (.d (.lit (.int k a))) (.d (.lit (.int k b))) = some (vbool (decide (b ≤ a))) := by simp [binV, isShift, binI]
theorem v_shl (k k' : IntKind) (a b : Int) : binV .shl (.d (.lit (.int k a))) (.d (.lit (.int k' b))) = if b < 0 then none else some (vint k (k.wrap (a * 2 ^ (min b.toNat k.bits)))) := by simp [binV, isShift, binSh]
theorem v_shr (k k' : IntKind) (a b : Int) : binV .shr (.d (.lit (.int k a))) (.d (.lit (.int k' b))) = if b < 0 then none else some (vint k (a.fdiv (2 ^ (min b.toNat k.bits)))) := by simp [binV, isShift, binSh]
theorem bytes_eq (a b : ByteArray) : (a.toList == b.toList) = decide (a = b) := by
  rw [ByteArray.toList_eq, ByteArray.toList_eq, Bool.eq_iff_iff]
  simp only [beq_iff_eq, decide_eq_true_eq]
  constructor
  · intro h
    cases a; cases b
    simp only [ByteArray.mk.injEq]
    exact Array.toList_inj.1 h
  · intro h; rw [h]
theorem v_seql (a b : ByteArray) : binV .eql (.d (.lit (.string a))) (.d (.lit (.string b))) = some (vbool (decide (a = b))) := by simp only [binV, binS, bytes_eq]
theorem v_sneq (a b : ByteArray) : binV .neq (.d (.lit (.string a))) (.d (.lit (.string b))) = some (vbool (!decide (a = b))) := by simp only [binV, binS, bytes_eq]
theorem v_sadd (a b : ByteArray) : binV .add (.d (.lit (.string a))) (.d (.lit (.string b))) = if a.size + b.size ≤ 9223372036854775807 then some (vstr (a ++ b)) else none := rfl
theorem v_slss (a b : ByteArray) : binV .lss (.d (.lit (.string a))) (.d (.lit (.string b))) = some (vbool (Op.bytesLess a.toList b.toList)) := rfl
theorem q_nil : eqLits [] [] [] = some true := rfl
theorem q_int (k : IntKind) (ks : List Kd) (a b : Int) (r s : List V) : eqLits (.i k :: ks) (.d (.lit (.int k a)) :: r) (.d (.lit (.int k b)) :: s) = (eqLits ks r s).map fun z => decide (a = b) && z := by
  simp only [eqLits, eqLit, and_self, if_true]; cases eqLits ks r s <;> rfl
theorem q_str (ks : List Kd) (a b : ByteArray) (r s : List V) : eqLits (.s :: ks) (.d (.lit (.string a)) :: r) (.d (.lit (.string b)) :: s) = (eqLits ks r s).map fun z => decide (a = b) && z := by
  simp only [eqLits, eqLit]; cases eqLits ks r s <;> rfl
theorem q_bool (ks : List Kd) (a b : Bool) (r s : List V) : eqLits (.b :: ks) (.d (.lit (.bool a)) :: r) (.d (.lit (.bool b)) :: s) = (eqLits ks r s).map fun z => (a == b) && z := by
  simp only [eqLits, eqLit]; cases eqLits ks r s <;> rfl
theorem v_nif_nil (neq : Bool) : nifV neq (.d (.lit .nilIface)) = some (vbool (!neq)) := rfl
theorem v_nif_if (neq : Bool) (t : TypeId) (x : V) : nifV neq (.iface t x) = some (vbool neq) := rfl
theorem v_beql (a b : Bool) : binbV .eql (.d (.lit (.bool a))) (.d (.lit (.bool b))) = some (vbool (a == b)) := rfl
theorem v_bneq (a b : Bool) : binbV .neq (.d (.lit (.bool a))) (.d (.lit (.bool b))) = some (vbool (!(a == b))) := rfl
theorem v_not (b : Bool) : unV .not (.d (.lit (.bool b))) = some (vbool (!b)) := rfl
theorem v_neg (k : IntKind) (n : Int) : unV .neg (.d (.lit (.int k n))) = some (vint k (k.wrap (0 - n))) := rfl
theorem v_pick (c a b : Bool) : pickV (.d (.lit (.bool c))) (.d (.lit (.bool a))) (.d (.lit (.bool b))) = some (vbool (bif c then a else b)) := rfl
theorem v_pick_uf (b : Bool) : pickV (.d (.lit (.bool false))) (.tup []) (.d (.lit (.bool b))) = some (vbool b) := rfl
theorem v_pick_tu (a : Bool) : pickV (.d (.lit (.bool true))) (.d (.lit (.bool a))) (.tup []) = some (vbool a) := rfl
theorem v_pick_jf (b : Bool) : pickV (.d (.lit (.bool false))) .junk (.d (.lit (.bool b))) = some (vbool b) := rfl
theorem v_pick_tj (a : Bool) : pickV (.d (.lit (.bool true))) (.d (.lit (.bool a))) .junk = some (vbool a) := rfl
theorem v_fa_ptr (off i o : Nat) : faV off (.ptr i o) = some (.ptr i (o + off)) := rfl
theorem v_fa_row (off : Nat) (cs : List D) (o : Nat) : faV off (.row cs o) = some (.row cs (o + off)) := rfl
def iaK (k : Nat) (o : Option (List D)) : Option V := match o with | some r => if r.length = k then some (.row r 0) else none | none => none
theorem iaK_some (k : Nat) (r : List D) : iaK k (some r) = if r.length = k then some (.row r 0) else none := rfl
theorem v_ia_nat (k : Nat) (y : D) (kd : IntKind) (j : Nat) : iaV k (.d y) (.d (.lit (.int kd (j : Int)))) = (rowsV (.d y)).bind fun rows => iaK k rows[j]? := by
  unfold iaV
  cases h : rowsV (.d y) with
  | none => simp only [h]; rfl
  | some rows => simp only [h, Option.bind_some, Int.toNat_natCast]; rw [if_pos (by omega)]; rfl
theorem v_ia_own (k T k' : Nat) (rows : List (List D)) (kd : IntKind) (j : Nat) : iaV k (.own T k' rows) (.d (.lit (.int kd (j : Int)))) = iaK k rows[j]? := by
  unfold iaV
  simp only [rowsV, Int.toNat_natCast]; rw [if_pos (by omega)]; rfl
theorem v_ia_bsl (k b off n : Nat) (kd : IntKind) (j : Nat) : iaV k (.bsl b off n k) (.d (.lit (.int kd (j : Int)))) = if j < n then some (.ptr b (off + j * k)) else none := by
  unfold iaV
  simp only [Int.toNat_natCast, and_true]
  by_cases h : j < n
  · rw [if_pos h, if_pos (by omega)]
  · rw [if_neg h, if_neg (by omega)]
theorem v_len_bsl (b off n k : Nat) : lenV false (.bsl b off n k) = some (vint .i64 n) := rfl
def ixK (o : Option UInt8) : Option V := match o with | some b => some (vint .u8 b.toNat) | none => none
theorem ixK_some (b : UInt8) : ixK (some b) = some (vint .u8 b.toNat) := rfl
theorem v_ix_nat (s : ByteArray) (kd : IntKind) (j : Nat) : ixV (.d (.lit (.string s))) (.d (.lit (.int kd (j : Int)))) = ixK s.data.toList[j]? := by
  simp only [ixV, Int.toNat_natCast]; rw [if_pos (by omega)]; rfl
theorem v_pack1 (c : V) : packV false [c] = some c.copy := rfl
theorem v_packA (cs : List V) : packV true cs = some (.agg (cs.map V.copy)) := rfl
theorem v_ext (cs : List V) (i : Nat) : extV (.tup cs) i = (cs[i]?).map V.copy := by simp only [extV]; cases cs[i]? <;> rfl
theorem v_conv (k k' : IntKind) (n : Int) : convV k (.d (.lit (.int k' n))) = some (vint k (k.wrap n)) := rfl
theorem v_nilck_ptr (i o : Nat) : nilckV (.ptr i o) = some (.ptr i o) := rfl
theorem v_nilck_row (cs : List D) (o : Nat) : nilckV (.row cs o) = some (.row cs o) := rfl
theorem v_nilck_fn (f : FuncId) (cs : List V) : nilckV (.fn f cs) = some (.fn f cs) := rfl
theorem v_mx (g : Bool) (k : IntKind) (a b : Int) : mxV g (.d (.lit (.int k a))) (.d (.lit (.int k b))) = some (vint k (if g then max a b else min a b)) := by
  have h1 : (if b > a then b else a) = max a b := by rw [Int.max_def]; split <;> split <;> omega
  have h2 : (if b < a then b else a) = min a b := by rw [Int.min_def]; split <;> split <;> omega
  cases g
  · simp only [mxV, if_true, Bool.false_eq_true, if_false, h2]
  · simp only [mxV, if_true, h1]
theorem v_tas_if (T t : TypeId) (z u : V) : tasV T z (.iface t u) = if t = T then some (.tup [u, vbool true]) else some (.tup [z, vbool false]) := rfl
theorem v_clip (rows : List (List D)) (k1 k2 : IntKind) (a b : Int) : clipV (.d (.sl rows)) (.d (.lit (.int k1 a))) (.d (.lit (.int k2 b))) = if a = rows.length ∧ b = rows.length then some (.d (.sl rows)) else none := rfl
theorem v_tas_nil (T : TypeId) (z : V) : tasV T z (.d (.lit .nilIface)) = some (.tup [z, vbool false]) := rfl
theorem v_mki_d (t : TypeId) (x : D) : mkiV t (.d x) = some (.iface t (.d x)) := rfl
theorem v_mki_agg (t : TypeId) (cs : List V) : mkiV t (.agg cs) = some (.iface t (.agg (cs.map V.copy))) := rfl
theorem v_load_row (k : Nat) (ag : Bool) (cs : List D) (o : Nat) : loadV σ k ag (.row cs o) = (if o + k ≤ cs.length then some (((cs.drop o).take k).map V.d) else none).bind (packV ag) := rfl
def ldK (k : Nat) (ag : Bool) (o : Nat) (b : Option (List V)) : Option V := match b with | some cs => if o + k ≤ cs.length then packV ag ((cs.drop o).take k) else none | none => none
theorem ldK_some (k : Nat) (ag : Bool) (o : Nat) (cs : List V) : ldK k ag o (some cs) = if o + k ≤ cs.length then packV ag ((cs.drop o).take k) else none := rfl
theorem v_load_ptr (k : Nat) (ag : Bool) (i o : Nat) : loadV σ k ag (.ptr i o) = ldK k ag o σ[i]? := by
  unfold loadV cellsV ldK
  simp only
  cases σ[i]? with
  | none => rfl
  | some cs => simp only; split <;> rfl
theorem box_at (l : List (List V)) (j : Nat) : (σ ++ l)[σ.length + j]? = l[j]? := by rw [List.getElem?_append_right (by omega)]; congr 1; omega
theorem box_at0 (l : List (List V)) : (σ ++ l)[σ.length]? = l[0]? := box_at l 0
theorem box_old {i : Nat} {cs : List V} (h : σ[i]? = some cs) (l : List (List V)) : (σ ++ l)[i]? = some cs := by rw [List.getElem?_append_left (List.getElem?_eq_some_iff.1 h).1]; exact h
theorem set_at (l : List (List V)) (j : Nat) (x : List V) : (σ ++ l).set (σ.length + j) x = σ ++ l.set j x := by rw [List.set_append_right _ _ (by omega)]; congr 2; omega
theorem set_at0 (l : List (List V)) (x : List V) : (σ ++ l).set σ.length x = σ ++ l.set 0 x := set_at l 0 x
theorem set_old {i : Nat} {cs : List V} (h : σ[i]? = some cs) (l : List (List V)) (x : List V) : (σ ++ l).set i x = σ.set i x ++ l := by rw [List.set_append_left _ _ (List.getElem?_eq_some_iff.1 h).1]
theorem wrap_i64 {a : Int} (h1 : -9223372036854775808 ≤ a) (h2 : a ≤ 9223372036854775807) : IntKind.i64.wrap a = a := by
  simp [IntKind.wrap, IntKind.bits, IntKind.signed]
  split <;> omega
end
theorem wf_len {rows : List (List D)} (h : V.Wf (.d (.sl rows))) : rows.length ≤ 9223372036854775807 := by
  cases h with | d h => cases h with | sl _ h _ => exact h
theorem wf_int {k : IntKind} {n : Int} (h : V.Wf (.d (.lit (.int k n)))) : k.min ≤ n ∧ n ≤ k.max := by
  cases h with | d h => cases h with | lit _ h => exact h
theorem wf_cell {cs : List V} (h : V.Wf (.agg cs)) (i : Nat) (hi : i < cs.length) : V.Wf cs[i] := by
  cases h with | agg h => exact h i hi
theorem wrap_nat {j n : Nat} (h : j < n) (hn : n ≤ 9223372036854775807) : IntKind.i64.wrap ((j : Int) + 1) = ((j + 1 : Nat) : Int) := by
  rw [wrap_i64 (by omega) (by omega)]; rfl
set_option linter.defProp false in
def aw := And.intro (And.intro (And.intro (And.intro (And.intro (And.intro (And.intro @s_mv (And.intro @s_bin @s_nilck)) (And.intro (And.intro @s_fa @s_ia) (And.intro @s_load @s_call))) (And.intro (And.intro @s_mks (And.intro @s_sto @s_nil)) (And.intro (And.intro @w_draws @w_drawb) (And.intro @w_drawx @g_nil)))) (And.intro (And.intro (And.intro @g_free (And.intro @g_calm @g_slot)) (And.intro (And.intro @g_call @g_sto) (And.intro @gnx_normal @w_drawg))) (And.intro (And.intro (And.intro @re_nil @re_cons) (And.intro @back_zero @back_succ)) (And.intro (And.intro @push_if @p_nil) (And.intro @p_free @p_calm))))) (And.intro (And.intro (And.intro (And.intro @p_slot (And.intro @p_act @t_tas)) (And.intro (And.intro @t_clip @v_clip) (And.intro @v_tas_if @v_tas_nil))) (And.intro (And.intro (And.intro @ev_t @ev_k) (And.intro @get_cons @get_nil)) (And.intro (And.intro @put_cons @put_nil) (And.intro @putd_some @putd_none)))) (And.intro (And.intro (And.intro @keepOnly_nil (And.intro @keepOnly_cons @optT_some)) (And.intro (And.intro @fnT_fn @ptrT_ptr) (And.intro @ownT_own @ifT_iface))) (And.intro (And.intro (And.intro @bxT_some @rwT_some) (And.intro @boolT_bool @iteT_true)) (And.intro (And.intro @iteT_false @onT_true) (And.intro @t_mv @c_mv)))))) (And.intro (And.intro (And.intro (And.intro (And.intro @t_pick (And.intro @c_pick @t_bin)) (And.intro (And.intro @c_bin @t_nif) (And.intro @q_nil @q_int))) (And.intro (And.intro (And.intro @q_str @q_bool) (And.intro @v_nif_nil @v_nif_if)) (And.intro (And.intro @t_un @c_un) (And.intro @t_conv @c_conv)))) (And.intro (And.intro (And.intro @t_cbs (And.intro @c_cbs @t_nilck)) (And.intro (And.intro @c_nilck @t_fa) (And.intro @c_fa @t_ia))) (And.intro (And.intro (And.intro @c_ia @t_ix) (And.intro @t_len @c_len)) (And.intro (And.intro @t_ext @t_load) (And.intro @c_load @t_bld))))) (And.intro (And.intro (And.intro (And.intro @c_bld (And.intro @t_sub @c_sub)) (And.intro (And.intro @t_mki @t_mx) (And.intro @t_call @t_new))) (And.intro (And.intro (And.intro @t_box @t_sto) (And.intro @t_mvo @t_nilo)) (And.intro (And.intro @t_app @t_mks) (And.intro @t_mkso @t_mkc)))) (And.intro (And.intro (And.intro @intT_int (And.intro @t_pan @t_guard)) (And.intro (And.intro @t_nil @c_call) (And.intro @c_mks @c_guard))) (And.intro (And.intro (And.intro @c_nil @w_skip) (And.intro @w_ops @w_draw)) (And.intro (And.intro @w_seq @w_cond) (And.intro @w_block @w_exit))))))) (And.intro (And.intro (And.intro (And.intro (And.intro (And.intro @w_ret (And.intro @then_normal @then_ret)) (And.intro (And.intro @then_exit @then_panic) (And.intro @blk_normal @blk_ret))) (And.intro (And.intro (And.intro @blk_exit @blk_panic) (And.intro @v_len_d @v_len_own)) (And.intro (And.intro @v_len_nil @v_len_bsl) (And.intro @v_ia_own @v_ia_bsl)))) (And.intro (And.intro (And.intro @v_len_str (And.intro @v_rows_d @v_rows_own)) (And.intro (And.intro @v_rows_nil @v_add) (And.intro @v_sub @v_mul))) (And.intro (And.intro (And.intro @v_quo @v_rem) (And.intro @v_band @v_bor)) (And.intro (And.intro @v_bxor @v_eql) (And.intro @v_neq @v_lss))))) (And.intro (And.intro (And.intro (And.intro @v_leq (And.intro @v_gtr @v_geq)) (And.intro (And.intro @v_shl @v_shr) (And.intro @v_seql @v_sneq))) (And.intro (And.intro (And.intro @v_sadd @v_slss) (And.intro @v_beql @v_bneq)) (And.intro (And.intro @v_not @v_neg) (And.intro @v_pick @v_pick_uf)))) (And.intro (And.intro (And.intro @v_pick_tu (And.intro @boolU_bool @boolU_un)) (And.intro (And.intro @v_pick_jf @v_pick_tj) (And.intro @v_fa_ptr @v_fa_row))) (And.intro (And.intro (And.intro @iaK_some @v_ia_nat) (And.intro @ixK_some @v_ix_nat)) (And.intro (And.intro @v_pack1 @v_packA) (And.intro @v_ext @v_conv)))))) (And.intro (And.intro (And.intro (And.intro (And.intro @v_nilck_ptr (And.intro @v_nilck_row @v_nilck_fn)) (And.intro (And.intro @v_mx @v_mki_d) (And.intro @v_mki_agg @v_load_row))) (And.intro (And.intro (And.intro @ldK_some @v_load_ptr) (And.intro @box_at @box_at0)) (And.intro (And.intro @set_at @set_at0) (And.intro @Option.bind_some.{0,0} @Option.map_some.{0,0})))) (And.intro (And.intro (And.intro @Option.map_none.{0,0} (And.intro @List.getElem?_map.{0,0} @List.length_map.{0,0})) (And.intro (And.intro @List.length_append.{0} @List.append_assoc.{0}) (And.intro @List.cons_append.{0} @List.nil_append.{0}))) (And.intro (And.intro (And.intro @List.drop_succ_cons.{0} @List.drop_zero.{0}) (And.intro @List.take_succ_cons.{0} @List.take_zero.{0})) (And.intro (And.intro @List.length_cons.{0} @List.length_nil.{0}) (And.intro @List.getElem?_cons_zero.{0} @List.getElem?_cons_succ.{0}))))) (And.intro (And.intro (And.intro (And.intro @List.set_cons_zero.{0} (And.intro @List.set_cons_succ.{0} @Nat.zero_add)) (And.intro (And.intro @and_true @true_and) (And.intro @true_implies @not_true_eq_false))) (And.intro (And.intro (And.intro @not_false_eq_true @false_implies) (And.intro @Bool.not_true @Bool.not_false)) (And.intro (And.intro @List.contains_cons.{0} @List.contains_nil.{0}) (And.intro @List.map_cons.{0,0} @List.map_nil.{0,0})))) (And.intro (And.intro (And.intro @Bool.or_false (And.intro @Bool.false_or @Bool.or_true)) (And.intro (And.intro @Bool.true_or @Bool.false_eq_true) (And.intro @Bool.true_eq_false @bq_true))) (And.intro (And.intro (And.intro @bq_false @Bool.not_not) (And.intro @decide_not @List.all_cons.{0})) (And.intro (And.intro @List.all_nil.{0} @Bool.and_true) (And.intro @List.getD_cons_zero.{0} @List.getD_cons_succ.{0})))))))
end Go.Proofs.YteopfpebdalcoaaGreatDoor
namespace Go.Proofs.YteopfpebdalcoaaGreatDoor
open Go.RowKit
inductive CdD where
  | seq (a : Cd) (b : CdD)
  | dfr (s : Nat) (g : FuncId) (cap : List X) (rest : Cd)
def okDfr (tab : Tab) (n : Nat) (s : Nat) (g : FuncId) (cap : List X) : List Oper → Bool
  | [⟨d1, .makeFunc (.func g') first cap', _, _, _, none⟩, ⟨d2, .defer { callee := .value y, args := args, argTypes := _ }, _, _, _, none⟩] => d1 == some s && decide (s < n) && g == g' && first.isEmpty && okXs cap cap'.toList && d2 == none && okX (.t s) y && args.isEmpty
  | _ => false
def okD (tab : Tab) (n : Nat) : CdD → Code → Bool
  | .seq a b, .seq a' b' => okC tab n a a' && okD tab n b b'
  | .dfr s g cap rest, .seq (.region _ ops false) r => okDfr tab n s g cap ops.toList && okC tab n rest r
  | _, _ => false
abbrev DPost := FuncId → List V → APost
def awpD (C : Cx) (n0 : Nat) : CdD → Slots → List (List V) → APost → DPost → Prop
  | .seq a b, ρ, σ, Q, QD => awp C n0 a ρ σ (andThen (fun ρ' σ' => awpD C n0 b ρ' σ' Q QD) Q)
  | .dfr s g cap rest, ρ, σ, _, QD => awp C σ.length rest (put ρ s (.fn g (cap.map (ev C ρ)))) σ (QD g (cap.map (ev C ρ)))
section
variable {C : Cx} {pr : Prot} {n n0 : Nat}
def DX (M0 : Facts) (bm0 : List Nat) (p : Nat → Prop) (w0 : World) (n : Nat) (QD : DPost) (e : Exit) (a' : Act) (w' : World) : Prop :=
  ∃ (M1 : Facts) (bm1 : List Nat) (w1 : World) (g : FuncId) (caps : List V) (vs : List Value), Later M0 bm0 p w0 M1 bm1 w1 ∧ vs.length = caps.length ∧ (∀ i (h : i < caps.length) (h' : i < vs.length), Rep M1 bm1 caps[i] vs[i]) ∧
    LiftX M1 bm1 ⟨p, [{ target := .fn (.func g) vs.toArray, args := #[] }]⟩ w1 n (QD g caps) e a' w'
theorem awpD_sound {M0 : Facts} {bm0 : List Nat} {w0 : World} (hG : C.glob M0 pr w0) (hn0 : bm0.length = n0) (hds : pr.ds = []) : ∀ {c : CdD} {c' : Code} {M : Facts} {bm : List Nat} {tk : Toks} {ρ : Slots} {σ : List (List V)} {a : Act} {w : World} {Q : APost} {QD : DPost}, okD C.tab n c c' = true → Later M0 bm0 pr w0 M bm w → SRel M bm tk pr ρ σ n a w →
    awpD C n0 c ρ σ Q QD → c'.wp C.P (fun e a' w' => LiftX M0 bm0 pr w0 n Q e a' w' ∨ DX M0 bm0 pr w0 n QD e a' w') a w := by
  intro c
  induction c with
  | seq x y ih =>
    intro c' M bm tk ρ σ a w Q QD hok hl h hq
    obtain ⟨a', b', rfl, ok2⟩ : ∃ a' b', c' = .seq a' b' ∧ okC C.tab n x a' = true ∧ okD C.tab n y b' = true := by
      cases c' with
      | seq a' b' =>
        have hok : (okC C.tab n x a' && okD C.tab n y b') = true := hok
        rw [Bool.and_eq_true] at hok
        exact ⟨_, _, rfl, hok⟩
      | _ => cases hok
    refine wp_seq (wp_mono (awp_sound hG hn0 ok2.1 hl h hq) (fun e a' w' hL => ?_))
    obtain ⟨M', bm', tk', ρ', σ', x, k1, k2, k3, k4⟩ := hL
    cases k2 with
    | normal => exact ih ok2.2 k4 k3 k1
    | ret => exact .inl ⟨M', bm', tk', ρ', σ', _, k1, .ret, k3, k4⟩
    | exit id => exact .inl ⟨M', bm', tk', ρ', σ', _, k1, .exit id, k3, k4⟩
    | panic hp => exact .inl ⟨M', bm', tk', ρ', σ', _, k1, .panic hp, k3, k4⟩
  | dfr s g cap rest =>
    intro c' M bm tk ρ σ a w Q QD hok hl h hq
    obtain ⟨id, ops, r, rfl, hok1, hok2⟩ : ∃ id ops r, c' = .seq (.region id ops false) r ∧ okDfr C.tab n s g cap ops.toList = true ∧ okC C.tab n rest r = true := by
      cases c' with
      | seq a' r =>
        cases a' with
        | region id ops draw =>
          cases draw with
          | false =>
            have hok : (okDfr C.tab n s g cap ops.toList && okC C.tab n rest r) = true := hok
            rw [Bool.and_eq_true] at hok
            exact ⟨_, _, _, rfl, hok⟩
          | true => cases hok
        | _ => cases hok
      | _ => cases hok
    unfold okDfr at hok1
    split at hok1
    · rename_i d1 g' first cap' ty1 po1 af1 d2 y args at_ ty2 po2 af2 hops
      simp only [Bool.and_eq_true, beq_iff_eq, decide_eq_true_eq] at hok1
      obtain ⟨⟨⟨⟨⟨⟨⟨rfl, hs⟩, rfl⟩, h1⟩, h2⟩, rfl⟩, h4⟩, h5⟩ := hok1
      have hf : first = #[] := by simpa using h1
      have ha : args = #[] := by simpa using h5
      subst hf; subst ha
      obtain ⟨l1, l2⟩ := okXs_sound (hG.mono hl) h h2
      have hr := Rep.fn (f := g) l1 l2
      have e9 : (cap'.toList.map a.eval).toArray = cap'.map a.eval := by rw [← Array.toList_map]
      refine wp_seq (wp_region_list ?_)
      rw [hops]
      have w1 : ∀ (a : Act) (d : Option Tmp) (o : Op) (t : TypeId) (p : String) (af : Array Edge), Region.wanted ⟨d, o, t, p, af, none⟩ (yielded ops a.tmps) = true := fun _ _ _ _ _ _ => rfl
      simp only [wpList]
      rw [if_pos (w1 _ _ _ _ _ _)]
      left
      unfold Oper.wp
      have run1 : (execOp a.eval ⟨some s, .makeFunc (.func g) #[] cap', ty1, po1, af1, none⟩).run C.P w = .ok (.value (.func (.func g) #[] (cap'.map a.eval))) w := by
        simp [execOp, Instr.makeFunc]
      rw [run1]
      simp only [Oper.upon_value]
      rw [if_pos (w1 _ _ _ _ _ _)]
      left
      rw [e9] at hr
      have h6 := h.puts hs hr (by simp)
      have hy : (a.put (some s) (.func (.func g) #[] (cap'.map a.eval))).eval y = .func (.func g) #[] (cap'.map a.eval) := by
        unfold okX at h4
        split at h4
        · rename_i m m' e
          cases e
          simp only [beq_iff_eq] at h4
          subst h4
          simp only [Act.eval]
          have := getD_put a s s (.func (.func g) #[] (cap'.map a.eval)) (by rw [h.size]; exact hs)
          rw [if_pos rfl] at this
          exact this
        · rename_i e; cases e
        · rename_i e; cases e
        · rename_i e; cases e
        · cases h4
      have run2 : (execOp (a.put (some s) (.func (.func g) #[] (cap'.map a.eval))).eval ⟨none, .defer { callee := .value y, args := #[], argTypes := at_ }, ty2, po2, af2, none⟩).run C.P w = .ok (.defer { target := .fn (.func g) (cap'.map a.eval), args := #[] }) w := by
        simp [execOp, resolve, hy, Deferred.ofValue]
      rw [run2]
      simp only [Oper.upon_defer]
      have h7 : SRel M bm tk ⟨pr.p, [{ target := .fn (.func g) (cap'.map a.eval), args := #[] }]⟩ (put ρ s (.fn g (cap.map (ev C ρ)))) σ n ({ (a.put (some s) (.func (.func g) #[] (cap'.map a.eval))) with defers := { target := .fn (.func g) (cap'.map a.eval), args := #[] } :: (a.put (some s) (.func (.func g) #[] (cap'.map a.eval))).defers }.put none undef) w :=
        ⟨h6.inv, by show _ :: _ = _; rw [h6.defers, hds], h6.size, h6.slots⟩
      refine wp_mono (awp_sound (pr := ⟨pr.p, [{ target := .fn (.func g) (cap'.map a.eval), args := #[] }]⟩) (hG.mono hl) (n0 := σ.length) h.inv.len hok2 (Later.refl _ _ _ _) h7 hq) (fun e a' w' hL => .inr ⟨M, bm, w, g, cap.map (ev C ρ), cap'.toList.map a.eval, hl, l1, l2, ?_⟩)
      rw [e9]
      exact hL
    · cases hok1
def FunRec (C : Cx) (g : FuncId) (caps : List V) (σ : List (List V)) (x : Option V) (R : List (List V) → Prop) : Prop :=
  (∀ as w, (callFunc g as).run C.P w = .ok (.enter g as) w) ∧
  ∀ (M : Facts) (bm : List Nat) (tk : Toks) (pr : Nat → Prop) (w : World) (vs : List Value) (u : FrameMode), C.glob M pr w → Inv M bm σ tk pr w → (∀ t, tk none t = none) → vs.length = caps.length → (∀ i (h : i < caps.length) (h' : i < vs.length), Rep M bm caps[i] vs[i]) →
    (match x with | none => u = .returning | some v => ∃ y, u = .panicking [{ v := y, recovered := false }] ∧ Rep M bm v y) →
    CallsD C.P g vs.toArray u w fun e u' w' => (∃ y, e = .returned y) ∧ settle u' = .returning ∧ ∃ M' bm' tk' σ', R σ' ∧ Inv M' bm' σ' tk' pr w' ∧ Later M bm pr w M' bm' w'
theorem inv_cut {M' : Facts} {bm' : List Nat} {tk' : Toks} {ρ' : Slots} {σ' : List (List V)} {a' : Act} {w' : World} {k : Nat} (o : Option Nat) (k3 : SRel M' bm' tk' pr ρ' σ' n a' w') (hbk : boxesBelow k (σ'.take k) = true) (ho : o = none ∨ ∃ s, o = tk' none s) :
    Inv M' (bm'.take k) (σ'.take k) (fun i j => match i with | none => if j = 0 then o else none | some i => tk' (some i) j) pr w' := by
  have hd := k3.inv.drop hbk
  refine ⟨hd.facts, hd.len, hd.box, hd.free, hd.bmnd, fun i j g hg => ?_, fun i j i' j' g g1 g2 => ?_, hd.prlt⟩
  · cases i with
    | some i => exact hd.tok _ _ _ hg
    | none =>
      simp only at hg
      split at hg
      · rcases ho with rfl | ⟨s, rfl⟩
        · cases hg
        · exact hd.tok _ _ _ hg
      · cases hg
  · cases i with
    | some i => cases i' with
      | some i' => exact hd.inj _ _ _ _ _ g1 g2
      | none =>
        simp only at g2
        split at g2
        · rcases ho with rfl | ⟨s, rfl⟩
          · cases g2
          · have := hd.inj _ _ _ _ _ g1 g2; simp at this
        · cases g2
    | none => cases i' with
      | some i' =>
        simp only at g1
        split at g1
        · rcases ho with rfl | ⟨s, rfl⟩
          · cases g1
          · have := hd.inj _ _ _ _ _ g1 g2; simp at this
        · cases g1
      | none =>
        simp only at g1 g2
        split at g1
        · split at g2
          · exact ⟨rfl, by omega⟩
          · cases g2
        · cases g1
def finL (n0 : Nat) (rs : List RV) (Q : Out → List (List V) → Prop) (ρ : Slots) (σ2 : List (List V)) : Prop :=
  ∃ v, resV σ2 ρ rs = some v ∧ ∃ k, n0 ≤ k ∧ boxesBelow k (σ2.take k) = true ∧ V.under k v = true ∧ Q (.ret v) (σ2.take k)
def finD (C : Cx) (n0 : Nat) (rs : List RV) (Q : Out → List (List V) → Prop) : DPost := fun g caps e ρ σ' => match e with
  | .normal => FunRec C g caps σ' none (finL n0 rs Q ρ)
  | .ret => FunRec C g caps σ' none (finL n0 rs Q ρ)
  | .panic v => FunRec C g caps σ' (some v) (finL n0 rs Q ρ)
  | .exit _ => False
def okFnD (tab : Tab) (fn : Func) (m : Nat) (c : CdD) (rs : List RV) : Bool :=
  (match fn.body with | some b => okD tab fn.ntmps c b | none => false) && okRVs tab rs fn.results.toList && decide (m ≤ fn.ntmps) && !(fn.name == "runtime.NumGoroutine")
theorem fun_defer {f : FuncId} {fn : Func} {c : CdD} {rs : List RV} {args : List V} {σ : List (List V)} {Q : Out → List (List V) → Prop} (hf : C.P.funcs[f]? = some fn) (hok : okFnD C.tab fn args.length c rs = true) (hno : args.all (! ·.isOwn) = true)
    (h : boxesBelow σ.length σ = true → (∀ i (h : i < args.length), V.Wf args[i]) → awpD C σ.length c (slots0 0 args) σ (fin σ.length rs Q) (finD C σ.length rs Q)) : Fun C f args σ Q := by
  unfold okFnD at hok
  simp only [Bool.and_eq_true, decide_eq_true_eq, Bool.not_eq_true'] at hok
  obtain ⟨⟨⟨h1, h2⟩, h3⟩, h4⟩ := hok
  cases hb : fn.body with
  | none => rw [hb] at h1; cases h1
  | some body =>
  rw [hb] at h1
  refine ⟨callFunc_enters hf h4 (by rw [hb]; rfl), fun M bm tk pr0 w vs hG hI htk hl hr => ?_⟩
  obtain ⟨pr, rfl, hds⟩ : ∃ pr : Prot, pr.p = pr0 ∧ pr.ds = [] := ⟨⟨pr0, []⟩, rfl, rfl⟩
  have hq := h hI.under (fun i hi => (hr i hi (by omega)).wf)
  refine calls_of_wp_defers hf hb ?_
  have hs : SRel M bm tk pr (slots0 0 args) σ fn.ntmps { tmps := vs.toArray ++ Array.replicate (fn.ntmps - vs.toArray.size) undef, defers := [] } w := by
    refine ⟨hI, hds.symm, by simp; omega, fun t => ?_⟩
    rw [get_slots0, if_pos (Nat.zero_le _), Nat.sub_zero]
    by_cases hlt : t < args.length
    · rw [List.getElem?_eq_getElem hlt, Option.getD_some]
      have hv : (vs.toArray ++ Array.replicate (fn.ntmps - vs.toArray.size) undef).getD t undef = vs[t]'(by omega) := by
        rw [Array.getD_eq_getD_getElem?, Array.getElem?_append_left (by simp; omega)]
        simp [show t < vs.length by omega]
      rw [hv]
      refine ⟨hr t hlt (by omega), fun T k rows e => ?_⟩
      have := List.all_eq_true.1 hno args[t] (List.getElem_mem hlt)
      rw [e] at this
      cases this
    · rw [List.getElem?_eq_none (by omega), Option.getD_none]
      exact CellOK.junk ..
  refine wp_mono (awpD_sound hG hI.len hds h1 (Later.refl M bm pr w) hs hq) (fun e a' w' hL => ?_)
  -- the results
  have ret : ∀ {p2 : Prot} {M2 : Facts} {bm2 : List Nat} {tk2 : Toks} {ρ2 : Slots} {σ2 : List (List V)} {w2 : World}, p2.p = pr.p → SRel M2 bm2 tk2 p2 ρ2 σ2 fn.ntmps a' w2 → Later M bm pr w M2 bm2 w2 → ∀ v, resV σ2 ρ2 rs = some v → (∃ k, σ.length ≤ k ∧ boxesBelow k (σ2.take k) = true ∧ V.under k v = true ∧ Q (.ret v) (σ2.take k)) →
      ∃ u, (results fn a'.tmps).run C.P w2 = .ok u w2 ∧ ∃ M' bm' tk' σ' o, Q o σ' ∧ Inv M' bm' σ' tk' pr w2 ∧ Later M bm pr w M' bm' w2 ∧ OutOK M' bm' w2 tk' o (.returned u) := by
    rintro p2 M2 bm2 tk2 ρ2 σ2 w2 hp s1 s2 v hv ⟨k, g1, g2, g3, g4⟩
    obtain ⟨u, r1, t, r2, r3⟩ := resV_sound s1 h2 hv
    have c1 := inv_cut t s1 g2 r3
    rw [hp] at c1
    refine ⟨u, r1, M2, bm2.take k, _, σ2.take k, .ret v, g4, c1, s2.drop (by rw [hI.len]; exact g1), fun v' e => ?_, fun v' e => by cases e⟩
    cases e
    exact ⟨u, rfl, r2.rep.drop g3, by simpa using r2.own⟩
  rcases hL with ⟨M', bm', tk', ρ', σ', x, k1, k2, k3, k4⟩ | ⟨M1, bm1, w1, g, caps, us, d1, d2, d3, M', bm', tk', ρ', σ', x, k1, k2, k3, k4⟩
  · have hnil : a'.defers = [] := k3.defers.trans hds
    have plain : (∃ ρ2 σ2, Shift σ.length ρ' σ' ρ2 σ2 ∧ ∃ v, resV σ2 ρ2 rs = some v ∧ ∃ k, σ.length ≤ k ∧ boxesBelow k (σ2.take k) = true ∧ V.under k v = true ∧ Q (.ret v) (σ2.take k)) → Leaves C.P fn a'.tmps (fun e w' => ∃ M' bm' tk' σ' o, Q o σ' ∧ Inv M' bm' σ' tk' pr w' ∧ Later M bm pr w M' bm' w' ∧ OutOK M' bm' w' tk' o e) a'.defers .returning w' := by
      rintro ⟨ρ2, σ2, g0, v, g1, g2⟩
      obtain ⟨M2, bm2, s1, s2⟩ := g0 M' bm' tk' pr fn.ntmps a' w' k3
      rw [hnil]
      exact ret rfl s1 (s2 M bm w hI.len k4) v g1 g2
    cases k2 with
    | normal => exact plain k1
    | ret => exact plain k1
    | exit id => exact k1.elim
    | panic hp =>
      obtain ⟨k, g1, g2, g3, g4⟩ := k1
      have c1 := inv_cut none k3 g2 (.inl rfl)
      show Leaves C.P fn a'.tmps _ a'.defers (.panicking _) w'
      rw [hnil]
      exact ⟨M', bm'.take k, _, σ'.take k, _, g4, c1, k4.drop (by rw [hI.len]; exact g1), (fun v' e => by cases e), fun v' e => by cases e; exact ⟨_, rfl, hp.drop g3⟩⟩
  · have hdl : Later M bm pr.p w M' bm' w' := d1.trans k4 (fun _ h => h)
    have hrc : ∀ i (h : i < caps.length) (h' : i < us.length), Rep M' bm' caps[i] us[i] := fun i g1 g2 => k4.rep (d3 i g1 g2)
    have late : ∀ (x : Option V) (u : FrameMode), u ≠ .run → (match x with | none => u = .returning | some v => ∃ y, u = .panicking [{ v := y, recovered := false }] ∧ Rep M' bm' v y) → FunRec C g caps σ' x (finL σ.length rs Q ρ') →
        Leaves C.P fn a'.tmps (fun e w' => ∃ M' bm' tk' σ' o, Q o σ' ∧ Inv M' bm' σ' tk' pr w' ∧ Later M bm pr w M' bm' w' ∧ OutOK M' bm' w' tk' o e) a'.defers u w' := fun x u hu hx hF => by
      rw [k3.defers]
      refine leaves_cons hu ?_ ((hF.2 M' bm' (noSlots tk') (prot tk' pr.p) w' us u ((hG.mono hdl).prot fun _ hb => .inl hb) k3.callee (fun _ => rfl) d2 hrc hx).mono ?_)
      · have := hF.1 us.toArray w'
        simpa [invoke] using this
      · rintro e u' w2 ⟨⟨y, rfl⟩, hset, M2, bm2, tk2, σ2, hfin, hi2, hl2⟩
        obtain ⟨⟨tk3, s1⟩, -, s2⟩ := k3.called hi2 hl2
        obtain ⟨v, hv, hk⟩ := hfin
        show Leaves C.P fn a'.tmps _ [] (settle u') w2
        rw [hset]
        exact ret (by exact rfl) s1 (hdl.trans s2 (fun _ h => h)) v hv hk
    cases k2 with
    | normal => exact late none .returning (by simp) rfl k1
    | ret => exact late none .returning (by simp) rfl k1
    | exit id => exact k1.elim
    | panic hp => exact late (some _) (.panicking _) (by simp) ⟨_, rfl, hp⟩ k1
inductive CdR where
  | reg (s : Nat) (l : List O) (keep : List Nat)
  | seq (a : CdR) (b : Cd)
def okRec0 (n s : Nat) : List Oper → Bool
  | ⟨d, .call { callee := .builtin .recover, args := args, argTypes := _ }, _, _, _, none⟩ :: _ => d == some s && decide (s < n) && args.isEmpty
  | _ => false
def okR (tab : Tab) (n : Nat) : CdR → Code → Bool
  | .reg s l _, .region _ ops false => okRec0 n s ops.toList && okOs tab n ops l ops.toList.tail
  | .seq a b, .seq a' b' => okR tab n a a' && okC tab n b b'
  | _, _ => false
def awpR (C : Cx) (n0 : Nat) (x : V) : CdR → Slots → List (List V) → APost → Prop
  | .reg s l keep, ρ, σ, Q => awpOps C l (put ρ s x) σ fun e ρ' σ' => Q e (keepOnly keep ρ') σ'
  | .seq a b, ρ, σ, Q => awpR C n0 x a ρ σ (andThen (fun ρ' σ' => awp C n0 b ρ' σ' Q) Q)
theorem wpList_imp {P : Program} {ops : Array Oper} {Q Q' : Exit → Act → World → Prop} (hq : ∀ e a w, Q e a w → Q' e a w) : ∀ (l : List Oper) (a : Act) (w : World), wpList P ops Q l a w → wpList P ops Q' l a w
  | [], _, _, h => hq _ _ _ h
  | o :: l, a, w, h => by
    simp only [wpList] at h ⊢
    split
    · rename_i hw
      rw [if_pos hw] at h
      rcases h with h | ⟨h1, a', w', h2⟩
      · exact .inl (Oper.wp_mono2 (fun a' w' hh => wpList_imp hq l a' w' hh) hq h)
      · exact .inr ⟨h1, a', w', hq _ _ _ h2⟩
    · rename_i hw
      rw [if_neg hw] at h
      exact wpList_imp hq l _ w h
theorem wpS_imp {P : Program} {c : Code} {Q Q' : Exit → Act → List Frame → World → Prop} {a : Act} {cs : List Frame} {w : World} (h : c.wpS P Q a cs w) (hq : ∀ e a cs w, Q e a cs w → Q' e a cs w) : c.wpS P Q' a cs w :=
  fun b k hb hr => let ⟨e, a', cs', w', q, r⟩ := h b k hb hr; ⟨e, a', cs', w', hq _ _ _ _ q, r⟩
theorem wpOpsS_of_list {P : Program} {ops : Array Oper} {Q : Exit → Act → World → Prop} {cs : List Frame} (hno : ¬ LetsOut Q) : ∀ (l : List Oper) (k : Nat) (a : Act) (w : World), (∀ j, l[j]? = ops[k + j]?) → wpList P ops Q l a w → wpOpsS P ops (fun e a cs' w => cs' = cs ∧ Q e a w) (List.range' k l.length) a cs w
  | [], _, _, _, _, h => ⟨rfl, h⟩
  | o :: l, k, a, w, hj, h => by
    have h0 : ops[k]? = some o := by simpa using (hj 0).symm
    have hj' : ∀ j, l[j]? = ops[k + 1 + j]? := fun j => by have := hj (j + 1); simpa [Nat.add_assoc, Nat.add_comm 1 j] using this
    simp only [List.length_cons, List.range'_succ, wpOpsS, h0]
    simp only [wpList] at h
    split
    · rename_i hw
      rw [if_pos hw] at h
      have h := h.resolve_right fun hh => hno hh.2
      have h2 : o.wp P a w (fun a' w' => wpOpsS P ops (fun e a cs' w => cs' = cs ∧ Q e a w) (List.range' (k + 1) l.length) a' cs w') (fun e a' w' => True ∧ Q e a' w') := Oper.wp_mono2 (fun a' w' hh => wpOpsS_of_list hno l (k + 1) a' w' hj' hh) (fun e a' w' hh => ⟨trivial, hh⟩) h
      unfold Oper.wp at h2
      generalize (execOp a.eval o).run P w = r at h2
      split
      · exact h2.elim
      · exact h2
    · rename_i hw
      rw [if_neg hw] at h
      exact wpOpsS_of_list hno l (k + 1) _ w hj' h
theorem LiftX.noOut {M : Facts} {bm : List Nat} {w : World} {Q : APost} : ¬ LetsOut (LiftX M bm pr w n Q) := by
  rintro ⟨a, w', M', bm', tk', ρ', σ', x, h1, h2, h3⟩
  cases h2
theorem awpR_sound {M0 : Facts} {bm0 : List Nat} {w0 : World} (hG : C.glob M0 pr w0) (hn0 : bm0.length = n0) {x : V} {cs cs2 : List Frame} {y : Value} (hrec : recoverD cs = some (y, cs2) ∨ (recoverD cs = none ∧ cs2 = cs ∧ y = .nilIface)) (hx : Rep M0 bm0 x y) (hxo : ∀ T k rows, x ≠ .own T k rows) :
    ∀ {c : CdR} {c' : Code} {tk : Toks} {ρ : Slots} {σ : List (List V)} {a : Act} {Q : APost}, okR C.tab n c c' = true → SRel M0 bm0 tk pr ρ σ n a w0 →
    awpR C n0 x c ρ σ Q → c'.wpS C.P (fun e a' cs' w' => cs' = cs2 ∧ LiftX M0 bm0 pr w0 n Q e a' w') a cs w0 := by
  intro c
  induction c with
  | reg s l keep =>
    intro c' tk ρ σ a Q hok h hq
    obtain ⟨id, ops, rfl, hok1, hok2⟩ : ∃ id ops, c' = .region id ops false ∧ okRec0 n s ops.toList = true ∧ okOs C.tab n ops l ops.toList.tail = true := by
      cases c' with
      | region id ops draw =>
        cases draw with
        | false =>
          have hok : (okRec0 n s ops.toList && okOs C.tab n ops l ops.toList.tail) = true := hok
          rw [Bool.and_eq_true] at hok
          exact ⟨_, _, rfl, hok⟩
        | true => cases hok
      | _ => cases hok
    unfold okRec0 at hok1
    split at hok1
    · rename_i d args at_ ty po af r hops
      simp only [Bool.and_eq_true, beq_iff_eq, decide_eq_true_eq] at hok1
      obtain ⟨⟨rfl, hs⟩, h5⟩ := hok1
      have ha : args = #[] := by simpa using h5
      subst ha
      rw [hops, List.tail_cons] at hok2
      refine wpS_region ?_
      have hsz : ops.size = r.length + 1 := by rw [← Array.length_toList, hops]; rfl
      have h0 : ops[0]? = some ⟨some s, .call { callee := .builtin .recover, args := #[], argTypes := at_ }, ty, po, af, none⟩ := by rw [← Array.getElem?_toList, hops]; rfl
      have hj : ∀ j, r[j]? = ops[0 + 1 + j]? := fun j => by rw [← Array.getElem?_toList, hops, show 0 + 1 + j = j + 1 by omega]; rfl
      rw [hsz, List.range_eq_range', List.range'_succ]
      simp only [wpOpsS, h0]
      rw [if_pos (show Region.wanted ⟨some s, .call { callee := .builtin .recover, args := #[], argTypes := at_ }, ty, po, af, none⟩ (yielded ops a.tmps) = true from rfl)]
      have run1 : (execOp a.eval ⟨some s, .call { callee := .builtin .recover, args := #[], argTypes := at_ }, ty, po, af, none⟩).run C.P w0 = .ok .recover w0 := by
        simp [execOp, resolve, invoke, builtin]
      rw [run1]
      have go : wpOpsS C.P ops (fun e a' cs' w' => cs' = cs2 ∧ LiftX M0 bm0 pr w0 n Q e a' w') (List.range' (0 + 1) r.length) (a.put (some s) y) cs2 w0 := by
        refine wpOpsS_of_list LiftX.noOut r (0 + 1) _ _ hj ?_
        have h6 := h.puts hs hx hxo
        exact wpList_imp (fun e a w hL => LiftX.keep (l := keep) hL) _ _ _ (awpOps_sound (Q := fun e ρ' σ' => Q e (keepOnly keep ρ') σ') hG hok2 (Later.refl _ _ _ _) h6 hq)
      rcases hrec with hrec | ⟨hrec, rfl, rfl⟩
      · rw [hrec]; exact go
      · rw [hrec]; exact go
    · cases hok1
  | seq x1 b ih =>
    intro c' tk ρ σ a Q hok h hq
    obtain ⟨a', b', rfl, ok2⟩ : ∃ a' b', c' = .seq a' b' ∧ okR C.tab n x1 a' = true ∧ okC C.tab n b b' = true := by
      cases c' with
      | seq a' b' =>
        have hok : (okR C.tab n x1 a' && okC C.tab n b b') = true := hok
        rw [Bool.and_eq_true] at hok
        exact ⟨_, _, rfl, hok⟩
      | _ => cases hok
    refine wpS_seq (wpS_imp (ih ok2.1 h hq) (fun e a' cs' w' ⟨hcs, hL⟩ => ?_))
    subst hcs
    obtain ⟨M', bm', tk', ρ', σ', z, k1, k2, k3, k4⟩ := hL
    cases k2 with
    | normal => exact wpS_of_wp (wp_mono (awp_sound hG hn0 ok2.2 k4 k3 k1) fun e a w hh => ⟨rfl, hh⟩)
    | ret => exact ⟨rfl, M', bm', tk', ρ', σ', _, k1, .ret, k3, k4⟩
    | exit id => exact ⟨rfl, M', bm', tk', ρ', σ', _, k1, .exit id, k3, k4⟩
    | panic hp => exact ⟨rfl, M', bm', tk', ρ', σ', _, k1, .panic hp, k3, k4⟩
def finR (n0 : Nat) (R : List (List V) → Prop) : APost := fun e _ σ' => match e with
  | .normal => ∃ k, n0 ≤ k ∧ boxesBelow k (σ'.take k) = true ∧ R (σ'.take k)
  | .ret => ∃ k, n0 ≤ k ∧ boxesBelow k (σ'.take k) = true ∧ R (σ'.take k)
  | _ => False
def okFnR (tab : Tab) (fn : Func) (m : Nat) (c : CdR) : Bool :=
  (match fn.body with | some b => okR tab fn.ntmps c b | none => false) && fn.results.isEmpty && decide (m ≤ fn.ntmps) && !(fn.name == "runtime.NumGoroutine")
theorem rec_code {g : FuncId} {fn : Func} {c : CdR} {caps : List V} {σ : List (List V)} {x : Option V} {R : List (List V) → Prop} (hf : C.P.funcs[g]? = some fn) (hok : okFnR C.tab fn caps.length c = true) (hno : caps.all (! ·.isOwn) = true) (hx : ∀ v, x = some v → v.isOwn = false)
    (h : boxesBelow σ.length σ = true → awpR C σ.length (x.getD (.d (.lit .nilIface))) c (slots0 0 caps) σ (finR σ.length R)) : FunRec C g caps σ x R := by
  unfold okFnR at hok
  simp only [Bool.and_eq_true, decide_eq_true_eq, Bool.not_eq_true'] at hok
  obtain ⟨⟨⟨h1, h2⟩, h3⟩, h4⟩ := hok
  have hres : fn.results = #[] := by simpa using h2
  cases hb : fn.body with
  | none => rw [hb] at h1; cases h1
  | some body =>
  rw [hb] at h1
  refine ⟨callFunc_enters hf h4 (by rw [hb]; rfl), fun M bm tk pr0 w vs u hG hI htk hl hr hu => ?_⟩
  obtain ⟨pr, rfl, hds⟩ : ∃ pr : Prot, pr.p = pr0 ∧ pr.ds = [] := ⟨⟨pr0, []⟩, rfl, rfl⟩
  have hq := h hI.under
  refine callsD_of_wpS hf hb fun c₀ cs hc => ?_
  have hs : SRel M bm tk pr (slots0 0 caps) σ fn.ntmps { tmps := vs.toArray ++ Array.replicate (fn.ntmps - vs.toArray.size) undef, defers := [] } w := by
    refine ⟨hI, hds.symm, by simp; omega, fun t => ?_⟩
    rw [get_slots0, if_pos (Nat.zero_le _), Nat.sub_zero]
    by_cases hlt : t < caps.length
    · rw [List.getElem?_eq_getElem hlt, Option.getD_some]
      have hv : (vs.toArray ++ Array.replicate (fn.ntmps - vs.toArray.size) undef).getD t undef = vs[t]'(by omega) := by
        rw [Array.getD_eq_getD_getElem?, Array.getElem?_append_left (by simp; omega)]
        simp [show t < vs.length by omega]
      rw [hv]
      refine ⟨hr t hlt (by omega), fun T k rows e => ?_⟩
      have := List.all_eq_true.1 hno caps[t] (List.getElem_mem hlt)
      rw [e] at this
      cases this
    · rw [List.getElem?_eq_none (by omega), Option.getD_none]
      exact CellOK.junk ..
  have key : ∀ (y : Value) (cs2 : List Frame), (recoverD (c₀ :: cs) = some (y, cs2) ∨ (recoverD (c₀ :: cs) = none ∧ cs2 = c₀ :: cs ∧ y = .nilIface)) → Rep M bm (x.getD (.d (.lit .nilIface))) y → (∃ u', cs2 = { c₀ with mode := u' } :: cs ∧ settle u' = .returning) →
      body.wpS C.P (bodyPostS C.P fn c₀ cs fun e u' w' => (∃ y, e = .returned y) ∧ settle u' = .returning ∧ ∃ M' bm' tk' σ', R σ' ∧ Inv M' bm' σ' tk' pr w' ∧ Later M bm pr w M' bm' w') { tmps := vs.toArray ++ Array.replicate (fn.ntmps - vs.toArray.size) undef, defers := [] } (c₀ :: cs) w := by
    rintro y cs2 hrec hy ⟨u', rfl, hset⟩
    refine wpS_imp (awpR_sound hG hI.len hrec hy ?_ h1 hs hq) (fun e a' cs' w' ⟨hcs, hL⟩ => ?_)
    · intro T k rows e
      cases x with
      | none => cases e
      | some v => have := hx v rfl; rw [Option.getD_some] at e; rw [e] at this; cases this
    subst hcs
    obtain ⟨M', bm', tk', ρ', σ', z, k1, k2, k3, k4⟩ := hL
    have fin : (∃ k, σ.length ≤ k ∧ boxesBelow k (σ'.take k) = true ∧ R (σ'.take k)) → a'.defers = [] ∧ ∃ u'', ({ c₀ with mode := u' } :: cs : List Frame) = { c₀ with mode := u'' } :: cs ∧ ∃ v, (results fn a'.tmps).run C.P w' = .ok v w' ∧ ((∃ y, Ending.returned v = .returned y) ∧ settle u'' = .returning ∧ ∃ M' bm' tk' σ', R σ' ∧ Inv M' bm' σ' tk' pr w' ∧ Later M bm pr w M' bm' w') := by
      rintro ⟨k, g1, g2, g3⟩
      have c1 := inv_cut none k3 g2 (.inl rfl)
      refine ⟨k3.defers.trans hds, u', rfl, .tuple #[], ?_, ⟨_, rfl⟩, hset, M', bm'.take k, _, σ'.take k, g3, c1, k4.drop (by rw [hI.len]; exact g1)⟩
      rw [results_eq, hres]
      simp
    cases k2 with
    | normal => exact fin k1
    | ret => exact fin k1
    | exit id => exact k1.elim
    | panic hp => exact k1.elim
  cases x with
  | none =>
    simp only at hu
    subst hu
    exact key .nilIface (c₀ :: cs) (.inr ⟨by simp [recoverD, hc], rfl, rfl⟩) (.d (.lit _ trivial)) ⟨.returning, by rw [← hc], rfl⟩
  | some v =>
    simp only at hu
    obtain ⟨y, rfl, hy⟩ := hu
    exact key y ({ c₀ with mode := .panicking [{ v := y, recovered := true }] } :: cs) (.inl (by simp [recoverD, hc])) hy ⟨_, rfl, rfl⟩
def dT (C : Cx) (n0 : Nat) (c : CdD) (ρ : Slots) (σ : List (List V)) (Q : APost) (QD : DPost) (_ : Tag Q) (_ : Tag QD) : Prop := awpD C n0 c ρ σ Q QD
theorem d_seq {ρ : Slots} {σ : List (List V)} {Q : APost} {QD : DPost} (a : Cd) (b : CdD) (s : Tag Q) (t : Tag QD) : dT C n0 (.seq a b) ρ σ Q QD s t = awpT C n0 a ρ σ (andThen (fun ρ' σ' => dT C n0 b ρ' σ' Q QD .mk .mk) Q) .mk := rfl
theorem d_dfr {ρ : Slots} {σ : List (List V)} {Q : APost} {QD : DPost} (i : Nat) (g : FuncId) (cap : List X) (rest : Cd) (s : Tag Q) (t : Tag QD) : dT C n0 (.dfr i g cap rest) ρ σ Q QD s t = awpT C σ.length rest (put ρ i (.fn g (cap.map (ev C ρ)))) σ (QD g (cap.map (ev C ρ))) .mk := rfl
def rT (C : Cx) (n0 : Nat) (x : V) (c : CdR) (ρ : Slots) (σ : List (List V)) (Q : APost) (_ : Tag Q) : Prop := awpR C n0 x c ρ σ Q
theorem r_reg {x : V} {ρ : Slots} {σ : List (List V)} {Q : APost} (i : Nat) (l : List O) (keep : List Nat) (t : Tag Q) : rT C n0 x (.reg i l keep) ρ σ Q t = opsT C l (put ρ i x) σ (fun e ρ' σ' => Q e (keepOnly keep ρ') σ') .mk := rfl
theorem r_seq {x : V} {ρ : Slots} {σ : List (List V)} {Q : APost} (a : CdR) (b : Cd) (t : Tag Q) : rT C n0 x (.seq a b) ρ σ Q t = rT C n0 x a ρ σ (andThen (fun ρ' σ' => awpT C n0 b ρ' σ' Q .mk) Q) .mk := rfl
theorem defer_code {f : FuncId} {fn : Func} {c : CdD} {rs : List RV} {args : List V} {σ : List (List V)} {Q : Out → List (List V) → Prop} (hf : C.P.funcs[f]? = some fn) (hok : okFnD C.tab fn args.length c rs = true) (hno : args.all (! ·.isOwn) = true)
    (h : boxesBelow σ.length σ = true → (∀ i (h : i < args.length), V.Wf args[i]) → dT C σ.length c (slots0 0 args) σ (fin σ.length rs Q) (finD C σ.length rs Q) .mk .mk) : Fun C f args σ Q := fun_defer hf hok hno h
theorem recover_code {g : FuncId} {fn : Func} {c : CdR} {caps : List V} {σ : List (List V)} {x : Option V} {R : List (List V) → Prop} (hf : C.P.funcs[g]? = some fn) (hok : okFnR C.tab fn caps.length c = true) (hno : caps.all (! ·.isOwn) = true) (hx : ∀ v, x = some v → v.isOwn = false)
    (h : boxesBelow σ.length σ = true → rT C σ.length (x.getD (.d (.lit .nilIface))) c (slots0 0 caps) σ (finR σ.length R) .mk) : FunRec C g caps σ x R := rec_code hf hok hno hx h
theorem FunRec.mono {g : FuncId} {caps : List V} {σ : List (List V)} {x : Option V} {R R' : List (List V) → Prop} (h : FunRec C g caps σ x R) (hr : ∀ σ', R σ' → R' σ') : FunRec C g caps σ x R' :=
  ⟨h.1, fun M bm tk pr w vs u hG hI ht hl hrep hu => (h.2 M bm tk pr w vs u hG hI ht hl hrep hu).mono fun e u' w' ⟨h1, h2, M', bm', tk', σ', h3, h4⟩ => ⟨h1, h2, M', bm', tk', σ', hr _ h3, h4⟩⟩
end
end Go.Proofs.YteopfpebdalcoaaGreatDoor
