/-
  Lists of signals in the plain world, and the program's Eval; small expressions.
-/
import Derived.Test.YtibfoafepjggjaaGreatDoorNew8
import Derived.Test.YtibfoafepjggjaaGreatDoorEval
set_option linter.unusedVariables false
set_option linter.unusedSimpArgs false
namespace Go.Proofs.YtibfoafepjggjaaGreatDoor
open Go.RowKit

theorem few_of {e : Ex} {n : Nat} (hn : n ≤ 450) (h : cnt e n ≤ n) : esize e ≤ 450 ∧ edepth e ≤ 450 := by
  have h1 := few_size (by omega) h
  have h2 := depth_le e
  omega
def dsigs (l : List Sig) : D := .sl (l.map fun s => [dstr s.name, dint s.val])
theorem sigsval_of {M : Facts} {w : World} {bm : List Nat} (hM : M.hold w) {l : List Sig} {v : Value} (h : Rep M bm (.d (dsigs l)) v) : SigsVal w l v := by
  cases h with
  | d h =>
  unfold dsigs at h
  generalize hrs : (l.map fun s => [dstr s.name, dint s.val]) = rows at h
  have hlen : rows.length = l.length := by rw [← hrs]; simp
  cases h with
  | sl _ k p cap val hk hd hf hc hm =>
  rw [hlen]
  refine ⟨p, cap, rfl, by omega, hm, fun i s hi => ?_⟩
  have hil := (List.getElem?_eq_some_iff.1 hi).1
  have hir : i < rows.length := by omega
  obtain ⟨b, off, rfl, h6⟩ := hf i hir
  have hri : rows[i] = [dstr s.name, dint s.val] := by subst hrs; simp [(List.getElem?_eq_some_iff.1 hi).2]
  have hk1 : k = 2 := by rw [← hk _ (List.getElem_mem hir), hri]; rfl
  subst hk1
  refine ⟨b, off, rfl, ?_, ?_⟩
  · have h7 := h6 0 (by omega)
    have h8 := hd i 0 hir (by rw [hri]; simp)
    simp only [hri, List.getElem_cons_zero, dstr] at h8
    generalize val i 0 = u at h7 h8
    cases h8 with | lit _ _ =>
    have := hM _ _ _ h7
    simpa using this
  · have h7 := h6 1 (by omega)
    have h8 := hd i 1 hir (by rw [hri]; simp)
    simp only [hri, List.getElem_cons_zero, List.getElem_cons_succ, dint] at h8
    generalize val i 1 = u at h7 h8
    cases h8 with | lit _ _ =>
    have := hM _ _ _ h7
    simpa using this
theorem eval_fits (e : Ex) (env : List Sig) : Fits (.int .i64 (evalE e env).1) ∧ Fits (.int .i64 (evalE e env).2) := by
  have hb : Wd (evalE e env).1 := by
    unfold evalE
    split
    · rename_i h
      split
      · exact valE_bd env e (validE_err h)
      · exact ⟨by simp, by simp⟩
    · exact ⟨by simp, by simp⟩
  have h2 : 0 ≤ (evalE e env).2 ∧ (evalE e env).2 ≤ 7 := by
    unfold evalE
    split
    · split <;> simp
    · simp
  unfold Wd at hb
  generalize (evalE e env).1 = x at hb ⊢
  generalize (evalE e env).2 = y at h2 ⊢
  simp only [Fits, IntKind.min, IntKind.max, IntKind.signed, IntKind.bits, if_true]
  omega
theorem fun_eval (e : Ex) (env : List Sig) (hs : esize e ≤ 1000000) (hd : edepth e ≤ 1000000) (σ : List (List V)) :
    Fun G 8 [vex e, .d (dsigs env)] σ (RetV (.tup [.d (dint (evalE e env).1), .d (dint (evalE e env).2)]) σ) :=
  fun_of_new Tryz.func8 (by kernel_rfl) (by kernel_rfl) (fun _ _ _ h => by cases h) fun M bm w vs hG hM hl hr => match vs, hl with
    | [v, v'], _ => by
      have a0 := exval_of hM (hr 0 (by simp) (by simp))
      have a1 := sigsval_of hM (hr 1 (by simp) (by simp))
      refine (eval_any e env v v' w a0 a1 (keys_of hG hM) hd hs).mono fun en w' ⟨g1, g2⟩ => ⟨_, g1, g2, ?_⟩
      exact .tup (vs := [.int .i64 (evalE e env).1, .int .i64 (evalE e env).2]) rfl fun i g g' => by
        match i, g with
        | 0, _ => exact .d (.lit _ (eval_fits e env).1)
        | 1, _ => exact .d (.lit _ (eval_fits e env).2)
theorem nodeErr_bd (o m : Int) (s : ByteArray) (k : Nat) : 0 ≤ nodeErr o m s k ∧ nodeErr o m s k ≤ 7 := by
  unfold nodeErr
  repeat' split
  all_goals omega
theorem errE_bd (e : Ex) : 0 ≤ errE e ∧ errE e ≤ 7 := by
  induction e using Ex.ind with
  | h o m s l ih =>
  have hL : ∀ (r : List Ex), (∀ a, a ∈ r → a ∈ l) → 0 ≤ errL r ∧ errL r ≤ 7 := by
    intro r
    induction r with
    | nil => intro _; simp [errL]
    | cons a r ihr =>
      intro hm
      have h1 := ih a (hm a (by simp))
      have h2 := ihr (fun x hx => hm x (by simp [hx]))
      simp only [errL]
      split <;> omega
  have h1 := nodeErr_bd o m s l.length
  have h2 := hL l (fun _ h => h)
  simp only [errE]
  split <;> omega
theorem valid_fits (e : Ex) : Fits (.int .i64 (validE e)) := by
  have h : 0 ≤ validE e ∧ validE e ≤ 7 := by
    have := errE_bd e
    unfold validE
    split <;> omega
  generalize validE e = y at h
  simp only [Fits, IntKind.min, IntKind.max, IntKind.signed, IntKind.bits, if_true]
  omega
theorem fun_rvalid (e : Ex) (hs : esize e ≤ 1000000) (hd : edepth e ≤ 999999) (σ : List (List V)) : Fun G 23 [vex e] σ (RetV (.d (dint (validE e))) σ) :=
  fun_of1 Tryz.func23 (by kernel_rfl) (by kernel_rfl) (valid_fits e) fun M bm w v hG hM hr => by
    have := rvalid_any e w v (exval_of hM hr) hs hd
    rwa [rvalid_eq e hs] at this
end Go.Proofs.YtibfoafepjggjaaGreatDoor
