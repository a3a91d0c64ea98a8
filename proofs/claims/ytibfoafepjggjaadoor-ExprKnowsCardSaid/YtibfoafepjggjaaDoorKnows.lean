/-
  The law ExprKnows: its walk.
-/
import Derived.Test.YtibfoafepjggjaaDoorNew8
import Derived.Test.YtibfoafepjggjaaDoorShapes
import Derived.Test.YtibfoafepjggjaaDoorK
namespace Go.Proofs.YtibfoafepjggjaaDoor
open Go.RowKit

theorem digit0_fun (σ : List (List V)) : Fun G 42 [.d (dint 0)] σ (RetV (.d (dstr ⟨#[48]⟩)) σ) := by
  refine fun_code Tryd.func42 k42 rfl fun hb hw => ?_
  unfold c42
  have hsub : subV true 0 (V.d (D.lit (Value.string ⟨#[48, 49, 50, 51, 52, 53, 54, 55, 56, 57]⟩))) (some (V.d (dint 0))) (some (vint .i64 (IntKind.i64.wrap (0 + 1)))) = some (.d (dstr ⟨#[48]⟩)) := by rfl
  simp -dsimp -implicitDefEqProofs only [ev_t, ev_k, get_cons, get_nil, put_cons, put_nil, putd_some, keepOnly_nil, keepOnly_cons, optT_some, t_mv, t_bin, t_sub, t_nil, w_ops, w_seq, then_normal, slots0, V.copy, v_add, Option.map_some, eq_self, reduceIte, reduceCtorEq, List.contains_cons, List.contains_nil, Nat.reduceBEq, Nat.reduceLT, Nat.reduceEqDiff, Bool.or_false, Bool.false_eq_true]
  rw [hsub]
  simp -dsimp -implicitDefEqProofs only [ev_t, get_cons, get_nil, put_cons, put_nil, putd_some, keepOnly_nil, keepOnly_cons, optT_some, t_mv, t_nil, w_ret, then_normal, V.copy, eq_self, reduceIte, reduceCtorEq, List.contains_cons, List.contains_nil, Nat.reduceBEq, Nat.reduceLT, Nat.reduceEqDiff, Bool.or_false, Bool.false_eq_true]
  exact fin_ret hb rfl rfl List.take_length ⟨rfl, rfl⟩
theorem element0_fun (a : ByteArray) (h : a.size ≤ 1000) (σ : List (List V)) : Fun G 24 [.d (dstr a), .d (dint 0)] σ (RetV (.d (dstr (elemName a 0))) σ) := by
  refine fun_code Tryd.func24 k24 rfl fun hb hw => ?_
  unfold c24
  simp -dsimp -implicitDefEqProofs only [ev_t, ev_k, get_cons, get_nil, put_cons, put_nil, putd_some, keepOnly_nil, keepOnly_cons, t_mv, t_bin, t_nil, w_ops, w_seq, then_normal, slots0, V.copy, v_sadd, Nat.zero_add, eq_self, reduceIte, reduceCtorEq, List.contains_cons, List.contains_nil, Nat.reduceBEq, Nat.reduceLT, Nat.reduceEqDiff, Bool.or_false, Bool.or_true, Bool.false_eq_true]
  rw [if_pos (by simp only [ByteArray.size, List.size_toArray, List.length_cons, List.length_nil] at h ⊢; omega)]
  simp -dsimp -implicitDefEqProofs only [ev_t, get_cons, get_nil, put_cons, put_nil, putd_some, optT_some, t_mv, t_call, V.copy, V.lend, eq_self, reduceIte, reduceCtorEq, List.map_cons, List.map_nil, Nat.reduceLT, Nat.reduceEqDiff]
  refine fun_ret (digit0_fun _) ?_
  simp -dsimp -implicitDefEqProofs only [ev_t, get_cons, get_nil, put_cons, put_nil, putd_some, t_bin, v_sadd, eq_self, reduceIte, reduceCtorEq, Nat.reduceLT, Nat.reduceEqDiff]
  have e1 : (a ++ ⟨#[91]⟩ : ByteArray).size = a.size + 1 := by rw [ByteArray.size_append]; rfl
  have e2 : (a ++ ⟨#[91]⟩ ++ ⟨#[48]⟩ : ByteArray).size = a.size + 2 := by rw [ByteArray.size_append, e1]; rfl
  have e3 : (⟨#[48]⟩ : ByteArray).size = 1 := rfl
  have e4 : (⟨#[93]⟩ : ByteArray).size = 1 := rfl
  rw [if_pos (by rw [e1, e3]; omega)]
  simp -dsimp -implicitDefEqProofs only [ev_t, ev_k, get_cons, get_nil, put_cons, put_nil, putd_some, optT_some, t_bin, v_sadd, eq_self, reduceIte, reduceCtorEq, Nat.reduceLT, Nat.reduceEqDiff]
  rw [if_pos (by rw [e2, e4]; omega)]
  simp -dsimp -implicitDefEqProofs only [ev_t, get_cons, get_nil, put_cons, put_nil, putd_some, keepOnly_nil, keepOnly_cons, optT_some, t_mv, t_nil, w_ret, then_normal, V.copy, eq_self, reduceIte, reduceCtorEq, List.contains_cons, List.contains_nil, Nat.reduceBEq, Nat.reduceLT, Nat.reduceEqDiff, Bool.or_false, Bool.false_eq_true]
  exact fin_ret hb rfl rfl List.take_length ⟨by
    have : a ++ ⟨#[91]⟩ ++ ⟨#[48]⟩ ++ ⟨#[93]⟩ = elemName a 0 := by
      unfold elemName
      apply ByteArray.ext
      apply Array.ext'
      simp
    rw [← this]; rfl, rfl⟩
def dsigs (l : List Sig) : D := .sl (l.map fun s => [dstr s.name, dint s.val])
theorem sigsval_of {M : Facts} {w : World} {bm : List Nat} (hM : M.hold w) {l : List Sig} {v : Value} (h : Rep M bm (.d (dsigs l)) v) : SigsVal w l v := by
  cases h with
  | d h =>
  unfold dsigs at h
  generalize hrs : (l.map fun s => [dstr s.name, dint s.val]) = rows at h
  have hlen : rows.length = l.length := by rw [← hrs]; simp
  cases h with
  | sl _ k p cap val hk hd hf hc hm =>
  rw [hlen]
  refine ⟨p, cap, rfl, by omega, hm, fun i s hi => ?_⟩
  have hil := (List.getElem?_eq_some_iff.1 hi).1
  have hir : i < rows.length := by omega
  obtain ⟨b, off, rfl, h6⟩ := hf i hir
  have hri : rows[i] = [dstr s.name, dint s.val] := by subst hrs; simp [(List.getElem?_eq_some_iff.1 hi).2]
  have hk1 : k = 2 := by rw [← hk _ (List.getElem_mem hir), hri]; rfl
  subst hk1
  refine ⟨b, off, rfl, ?_, ?_⟩
  · have h7 := h6 0 (by omega)
    have h8 := hd i 0 hir (by rw [hri]; simp)
    simp only [hri, List.getElem_cons_zero, dstr] at h8
    generalize val i 0 = u at h7 h8
    cases h8 with | lit _ _ =>
    have := hM _ _ _ h7
    simpa using this
  · have h7 := h6 1 (by omega)
    have h8 := hd i 1 hir (by rw [hri]; simp)
    simp only [hri, List.getElem_cons_zero, List.getElem_cons_succ, dint] at h8
    generalize val i 1 = u at h7 h8
    cases h8 with | lit _ _ =>
    have := hM _ _ _ h7
    simpa using this
theorem eval_fits (e : Ex) (env : List Sig) : Fits (.int .i64 (evalE e env).1) ∧ Fits (.int .i64 (evalE e env).2) := by
  have hb : Wd (evalE e env).1 := by
    unfold evalE
    split
    · rename_i h
      split
      · exact valE_bd env e (validE_err h)
      · exact ⟨by simp, by simp⟩
    · exact ⟨by simp, by simp⟩
  have h2 : 0 ≤ (evalE e env).2 ∧ (evalE e env).2 ≤ 7 := by
    unfold evalE
    split
    · split <;> simp
    · simp
  unfold Wd at hb
  generalize (evalE e env).1 = x at hb ⊢
  generalize (evalE e env).2 = y at h2 ⊢
  simp only [Fits, IntKind.min, IntKind.max, IntKind.signed, IntKind.bits, if_true]
  omega
theorem fun_eval (e : Ex) (env : List Sig) (hs : esize e ≤ 1000000) (hd : edepth e ≤ 1000000) (σ : List (List V)) :
    Fun G 25 [vex e, .d (dsigs env)] σ (RetV (.tup [.d (dint (evalE e env).1), .d (dint (evalE e env).2)]) σ) :=
  fun_of_new Tryd.func25 (by kernel_rfl) (by kernel_rfl) (fun _ _ _ h => by cases h) fun M bm w vs hG hM hl hr => match vs, hl with
    | [v, v'], _ => by
      have a0 := exval_of hM (hr 0 (by simp) (by simp))
      have a1 := sigsval_of hM (hr 1 (by simp) (by simp))
      refine (eval_any e env v v' w a0 a1 (keys_of hG hM) hd hs).mono fun en w' ⟨g1, g2⟩ => ⟨_, g1, g2, ?_⟩
      exact .tup (vs := [.int .i64 (evalE e env).1, .int .i64 (evalE e env).2]) rfl fun i g g' => by
        match i, g with
        | 0, _ => exact .d (.lit _ (eval_fits e env).1)
        | 1, _ => exact .d (.lit _ (eval_fits e env).2)
end Go.Proofs.YtibfoafepjggjaaDoor
