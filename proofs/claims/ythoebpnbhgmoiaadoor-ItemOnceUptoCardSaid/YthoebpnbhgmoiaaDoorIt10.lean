/-
  What is unrolled: it holds as the constraints do; it is unrolled to itself. No program is in sight here.
-/
import Derived.Test.YthoebpnbhgmoiaaDoorIt9
import Derived.Test.YthoebpnbhgmoiaaDoorIe3
set_option linter.unusedVariables false
set_option linter.unusedSimpArgs false
set_option linter.unusedSectionVars false
namespace Go.Proofs.YthoebpnbhgmoiaaDoor
open Go.RowKit
mutual
def noD : List It → Prop
  | [] => True
  | x :: r => noD1 x ∧ noD r
def noD1 : It → Prop
  | .mk k _ _ _ _ l m _ _ => (k ≠ 3 ∧ k ≠ 6) ∧ noD l ∧ noD m
end
theorem noD1_eq (x : It) : noD1 x ↔ (x.kind ≠ 3 ∧ x.kind ≠ 6) ∧ noD x.items ∧ noD x.els := by cases x; rw [noD1]; rfl
theorem noD_mem {l : List It} (h : noD l) {x : It} (hx : x ∈ l) : noD1 x := by
  induction l with
  | nil => cases hx
  | cons a r ih =>
    rw [noD] at h
    rcases List.mem_cons.1 hx with rfl | hx
    · exact h.1
    · exact ih h.2 hx
theorem noD_sub (nm : ByteArray) (b : Ex) : ∀ l : List It, noD l → noD (subIs nm b l) := by
  refine its_ind (fun h => by rw [subIs]; exact h) fun x r h1 h2 h3 h => ?_
  rw [noD, noD1_eq] at h
  rw [subIs, noD, noD1_eq, subI_eq]
  exact ⟨⟨h.1.1, h1 h.1.2.1, h2 h.1.2.2⟩, h3 h.2⟩
theorem rvl_tail {x : It} {r : List It} {d : Nat} (h : rvl (x :: r) d = 0) : rvl r d = 0 := by
  rw [rvl] at h
  split at h
  · exact h
  · rename_i hn; exact absurd h hn
theorem noD_valid : ∀ (l : List It) (d : Nat), 0 < d → rvl l d = 0 → noD l := by
  refine its_ind (fun d _ h => by rw [noD]; trivial) fun x r h1 h2 h3 d hd h => ?_
  obtain ⟨g1, g2, g3⟩ := vldX_mem h (List.mem_cons_self ..)
  rw [noD, noD1_eq]
  refine ⟨⟨?_, h1 _ (by omega) g2, h2 _ (by omega) g3⟩, h3 d hd (rvl_tail h)⟩
  unfold shapeE at g1
  split at g1
  · cases g1
  · rename_i hn
    have : ¬ (0 < d ∧ (x.kind = 3 ∨ x.kind = 6)) := fun hh => hn (.inr (.inr (.inr hh)))
    exact ⟨fun hh => this ⟨hd, .inl hh⟩, fun hh => this ⟨hd, .inr hh⟩⟩
theorem exps_noD (fs : List (ByteArray × Int)) : ∀ (k : Nat) (l : List It) (d : Nat) (q : Option Ex), frm l d → noD l → ∀ y, y ∈ exps fs k l q → ∃ e, y = itE y.kind e ∧ (y.kind = 1 ∨ y.kind = 2) := by
  intro k
  induction k with
  | zero => intro l d q _ _ y hy; cases hy
  | succ k ih =>
    intro l d q hf hn y hy
    rw [exps_eq] at hy
    obtain ⟨x, hx, hy⟩ := List.mem_flatMap.1 hy
    obtain ⟨hk6, -, -, hf1, hf2⟩ := (frm1_eq x d).1 (frm_mem hf hx)
    obtain ⟨⟨n3, n6⟩, n1, n2⟩ := (noD1_eq x).1 (noD_mem hn hx)
    unfold exp1 at hy
    split at hy
    · rename_i hk
      rw [List.mem_singleton.1 hy]
      exact ⟨_, rfl, hk⟩
    · split at hy
      · rcases List.mem_append.1 hy with hy | hy
        · exact ih _ _ _ hf1 n1 y hy
        · exact ih _ _ _ hf2 n2 y hy
      · split at hy
        · obtain ⟨j, -, hy⟩ := List.mem_flatMap.1 hy
          exact ih _ _ _ (frm_sub _ _ _ _ hf1) (noD_sub _ _ _ n1) y hy
        · omega
theorem exps_top (fs : List (ByteArray × Int)) (k : Nat) (l : List It) (q : Option Ex) (hv : rvl l 0 = 0) : ∀ y, y ∈ exps fs k l q → (∃ e, y = itE y.kind e ∧ (y.kind = 1 ∨ y.kind = 2)) ∨ y ∈ l ∧ (y.kind = 3 ∨ y.kind = 6) := by
  intro y hy
  cases k with
  | zero => cases hy
  | succ k =>
  have hf := frm_valid l 0 hv
  rw [exps_eq] at hy
  obtain ⟨x, hx, hy⟩ := List.mem_flatMap.1 hy
  obtain ⟨hk6, hp, -, hf1, hf2⟩ := (frm1_eq x 0).1 (frm_mem hf hx)
  obtain ⟨s1, s2, s3⟩ := vldX_mem hv hx
  have n1 := noD_valid _ _ (by omega) s2
  have n2 := noD_valid _ _ (by omega) s3
  unfold exp1 at hy
  split at hy
  · rename_i hk
    rw [List.mem_singleton.1 hy]
    exact .inl ⟨_, rfl, hk⟩
  · split at hy
    · rcases List.mem_append.1 hy with hy | hy
      · exact .inl (exps_noD fs k _ _ _ hf1 n1 y hy)
      · exact .inl (exps_noD fs k _ _ _ hf2 n2 y hy)
    · split at hy
      · obtain ⟨j, -, hy⟩ := List.mem_flatMap.1 hy
        exact .inl (exps_noD fs k _ _ _ (frm_sub _ _ _ _ hf1) (noD_sub _ _ _ n1) y hy)
      · split at hy
        · rename_i h3
          have e := List.mem_singleton.1 hy
          rw [plain_d hp h3] at e
          subst e
          exact .inr ⟨hx, .inl h3⟩
        · rename_i h1 h4 h5 h3
          have h6 : x.kind = 6 := by omega
          have e := List.mem_singleton.1 hy
          rw [plain_s hp h6] at e
          subst e
          exact .inr ⟨hx, .inr h6⟩
theorem plain_itE {k : Int} (e : Ex) (hk : k = 1 ∨ k = 2) : plainB (itE k e) = true := by
  rcases hk with rfl | rfl <;> rfl
section
variable (spl : ByteArray → Option (ByteArray × Int)) (fs : List (ByteArray × Int))
structure Unr (l X : List It) : Prop where
  val : rvl l 0 = 0
  chk : wkE (oneE spl fs) l 0 [] = 0
  eq : X = exps fs (iszs l) l none
  len : X.length ≤ 400
  vld : X.all vldB = true
theorem unr_of {l : List It} (h : (expandI spl fs l).2 = 0) : Unr spl fs l (expandI spl fs l).1 := by
  unfold expandI at h ⊢
  by_cases h0 : checkI spl fs l ≠ 0
  · rw [if_pos h0] at h; exact absurd h h0
  rw [if_neg h0] at h ⊢
  by_cases h4 : 400 < (exps fs (iszs l) l none).length
  · rw [if_pos h4] at h; cases h
  rw [if_neg h4] at h ⊢
  by_cases hv : (exps fs (iszs l) l none).all vldB = true
  · rw [if_pos hv]
    have h0 : checkI spl fs l = 0 := by simpa using h0
    unfold checkI at h0
    by_cases h1 : validI l ≠ 0
    · rw [if_pos h1] at h0; exact absurd h0 h1
    · rw [if_neg h1] at h0
      have h1 : validI l = 0 := by simpa using h1
      unfold validI at h1
      split at h1
      · cases h1
      · exact ⟨h1, h0, rfl, by show (exps fs (iszs l) l none).length ≤ 400; omega, hv⟩
  · rw [if_neg hv] at h; cases h
variable {spl fs}
theorem Unr.flat {l X : List It} (h : Unr spl fs l X) : ∀ y, y ∈ X → Flat spl fs y := by
  rw [h.eq]
  exact exps_flat spl fs _ l 0 none (frm_valid l 0 h.val) h.chk (fun c hc => by cases hc)
theorem Unr.top {l X : List It} (h : Unr spl fs l X) : ∀ y, y ∈ X → (∃ e, y = itE y.kind e ∧ (y.kind = 1 ∨ y.kind = 2)) ∨ y ∈ l ∧ (y.kind = 3 ∨ y.kind = 6) := by
  rw [h.eq]; exact exps_top fs _ l none h.val
theorem Unr.valid {l X : List It} (h : Unr spl fs l X) {y : It} (hy : y ∈ X) (hk : y.kind = 1 ∨ y.kind = 2) : validE y.ex = 0 := by
  have := List.all_eq_true.1 h.vld y hy
  unfold vldB at this
  rcases hk with k | k <;> simpa [k] using this
theorem Unr.shape {l X : List It} (h : Unr spl fs l X) {y : It} (hy : y ∈ X) : shapeE y 0 = 0 := by
  rcases h.top y hy with ⟨e, he, hk⟩ | ⟨hl, -⟩
  · have hv := h.valid hy hk
    have hp : plainB y = true := by rw [he]; exact plain_itE e hk
    unfold shapeE
    rw [if_neg, if_neg (by omega), if_neg (by omega), if_neg (by omega)]
    · exact hv
    · rintro (g | g | g | g)
      · omega
      · rw [hp] at g; cases g
      · omega
      · omega
  · exact (vldX_mem h.val hl).1
theorem rvl_flat {l : List It} (h : ∀ y, y ∈ l → shapeE y 0 = 0 ∧ y.items = [] ∧ y.els = []) : rvl l 0 = 0 := by
  induction l with
  | nil => rfl
  | cons a r ih =>
    obtain ⟨h1, h2, h3⟩ := h a (List.mem_cons_self ..)
    rw [rvl, rv1_eq, h1, h2, h3, if_pos rfl, rvl, if_pos rfl, if_pos rfl]
    exact ih fun y hy => h y (List.mem_cons_of_mem _ hy)
theorem iszs_flat {l : List It} (h : ∀ y, y ∈ l → y.items = [] ∧ y.els = []) : iszs l = l.length := by
  induction l with
  | nil => rfl
  | cons a r ih =>
    obtain ⟨h2, h3⟩ := h a (List.mem_cons_self ..)
    rw [iszs, isz_eq, h2, h3, ih fun y hy => h y (List.mem_cons_of_mem _ hy), List.length_cons]
    simp [iszs]; omega
theorem Unr.size {l X : List It} (h : Unr spl fs l X) : iszs X = X.length := iszs_flat fun y hy => (h.flat y hy).leaf
theorem Unr.once {l X : List It} (h : Unr spl fs l X) (hz : iszs X ≤ 64) : checkI spl fs X = 0 ∧ expandI spl fs X = (X, 0) := by
  have hv : validI X = 0 := by
    unfold validI
    rw [if_neg (by omega)]
    exact rvl_flat fun y hy => ⟨h.shape hy, (h.flat y hy).leaf⟩
  have hc : checkI spl fs X = 0 := by
    unfold checkI
    rw [if_neg (by simp [hv])]
    exact flat_check spl fs h.flat
  have he : exps fs (iszs X) X none = X := by
    cases hX : iszs X with
    | zero =>
      rw [h.size] at hX
      rw [List.length_eq_zero_iff.1 hX]; rfl
    | succ k => exact flat_exps spl fs k h.flat
  refine ⟨hc, ?_⟩
  have := h.len
  unfold expandI
  rw [if_neg (by simp [hc]), he, if_neg (by omega), if_pos h.vld]
theorem Unr.big {l X : List It} (h : Unr spl fs l X) (B : Nat) (hB : ibigs l ≤ B) (h4 : 401 ≤ B) : ibigs X ≤ X.length * B := by
  have H : ∀ r : List It, (∀ y, y ∈ r → y ∈ X) → ibigs r ≤ r.length * B := by
    intro r
    induction r with
    | nil => intro _; exact Nat.zero_le _
    | cons a r ih =>
      intro hm
      have ha := hm a (List.mem_cons_self ..)
      have hr := ih fun y hy => hm y (List.mem_cons_of_mem _ hy)
      have : ibig a ≤ B := by
        rcases h.top a ha with ⟨e, he, hk⟩ | ⟨hl, -⟩
        · have hv := (valid_size (h.valid ha hk)).1
          have : ibig a = 1 + esize a.ex := by
            rw [ibig_eq]
            rw [he]; simp [itE, It.ws, It.bef, It.aft, It.items, It.els, ibigs]
          omega
        · exact Nat.le_trans (ibigs_mem hl) hB
      rw [ibigs, List.length_cons, Nat.add_mul]
      omega
  exact H X fun y hy => hy
end
end Go.Proofs.YthoebpnbhgmoiaaDoor
