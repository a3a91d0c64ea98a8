/-
  Contracts that were proved over memory, in the plain world.
-/
import Derived.Test.YtdglhbelfjcffaaDoorK
import Derived.Test.YtdglhbelfjcffaaDoorData
import Derived.Test.YtdglhbelfjcffaaDoorNames
import Derived.Test.YtdglhbelfjcffaaDoorSpan
set_option linter.unusedVariables false
set_option linter.unusedSimpArgs false
namespace Go.Proofs.YtdglhbelfjcffaaDoor
open Go.RowKit

abbrev dint (n : Int) : D := .lit (.int .i64 n)
abbrev dstr (s : ByteArray) : D := .lit (.string s)
def dstrs (l : List ByteArray) : D := .sl (l.map fun s => [dstr s])
section
variable {M : Facts} {w : World}
theorem strsval_of {bm : List Nat} (hM : M.hold w) {l : List ByteArray} {v : Value} (h : Rep M bm (.d (dstrs l)) v) : StrsVal w l v := by
  cases h with
  | d h =>
  unfold dstrs at h
  generalize hrs : (l.map fun s => [dstr s]) = rows at h
  have hlen : rows.length = l.length := by rw [← hrs]; simp
  cases h with
  | sl _ k p cap val hk hd hf hc hm =>
  rw [hlen]
  refine ⟨p, cap, rfl, by omega, hm, fun i s hi => ?_⟩
  have hil := (List.getElem?_eq_some_iff.1 hi).1
  have hir : i < rows.length := by omega
  obtain ⟨b, off, rfl, h6⟩ := hf i hir
  have hri : rows[i] = [dstr s] := by subst hrs; simp [(List.getElem?_eq_some_iff.1 hi).2]
  have hk1 : k = 1 := by rw [← hk _ (List.getElem_mem hir), hri]; rfl
  subst hk1
  refine ⟨b, off, rfl, ?_⟩
  have h7 := h6 0 (by omega)
  have h8 := hd i 0 hir (by rw [hri]; simp)
  simp only [hri, List.getElem_cons_zero, dstr] at h8
  generalize hv : val i 0 = u at h7 h8
  cases h8 with | lit _ _ =>
  have := hM _ _ _ h7
  simpa using this
theorem keys_of (hG : G.cells M) (hM : M.hold w) : Keys w := by
  obtain ⟨val, h1, h2⟩ := hG 0 [dstrs kwList] (by rfl)
  have h3 := h2 0 (by simp)
  have h4 := h1 0 (by simp)
  simp only [List.getElem_cons_zero] at h3
  exact ⟨val 0, hM _ _ _ h4, strsval_of (bm := []) hM (.d h3)⟩
end
theorem Ext.later {M : Facts} {bm : List Nat} {σ : List (List V)} {tk : Toks} {pr : Nat → Prop} {w w' : World} (h : Inv M bm σ tk pr w) (hx : Ext w w') : Inv M bm σ tk pr w' ∧ Later M bm pr w M bm w' := h.ext hx
/-- A contract over memory, of a function that returns a value of one cell, is one of the plain world. -/
theorem fun_of {f : FuncId} {fn : Func} {args : List V} {u : Value} {σ : List (List V)} (hf : Tryd.prog.funcs[f]? = some fn) (hn : (fn.name == "runtime.NumGoroutine") = false) (hb : fn.body.isNone = false) (hu : Fits u)
    (h : ∀ (M : Facts) (bm : List Nat) (pr : Nat → Prop) (w : World) (vs : List Value), G.glob M pr w → M.hold w → vs.length = args.length → (∀ i (h : i < args.length) (h' : i < vs.length), Rep M bm args[i] vs[i]) → Calls Tryd.prog f vs.toArray w fun e w' => e = .returned u ∧ Ext w w') :
    Fun G f args σ (RetV (.d (.lit u)) σ) := by
  refine ⟨callFunc_enters (P := Tryd.prog) hf hn hb, fun M bm tk pr w vs hG hI ht hl hr => (h M bm pr w vs hG hI.facts hl hr).mono fun e w' ⟨he, hx⟩ => ?_⟩
  obtain ⟨h1, h2⟩ := hI.ext hx
  refine ⟨M, bm, tk, σ, .ret (.d (.lit u)), ⟨rfl, rfl⟩, h1, h2, fun v e => ?_, fun v e => by cases e⟩
  cases e
  exact ⟨u, he, .d (.lit u hu), fun _ _ _ e => by cases e⟩
theorem fun_of1 {f : FuncId} {fn : Func} {a : V} {u : Value} {σ : List (List V)} (hf : Tryd.prog.funcs[f]? = some fn) (hn : (fn.name == "runtime.NumGoroutine") = false) (hb : fn.body.isNone = false) (hu : Fits u)
    (h : ∀ (M : Facts) (bm : List Nat) (pr : Nat → Prop) (w : World) (v : Value), G.glob M pr w → M.hold w → Rep M bm a v → Calls Tryd.prog f #[v] w fun e w' => e = .returned u ∧ Ext w w') : Fun G f [a] σ (RetV (.d (.lit u)) σ) :=
  fun_of hf hn hb hu fun M bm pr w vs hG hM hl hr => match vs, hl with
    | [v], _ => h M bm pr w v hG hM (hr 0 (by simp) (by simp))
theorem fun_of2 {f : FuncId} {fn : Func} {a b : V} {u : Value} {σ : List (List V)} (hf : Tryd.prog.funcs[f]? = some fn) (hn : (fn.name == "runtime.NumGoroutine") = false) (hb : fn.body.isNone = false) (hu : Fits u)
    (h : ∀ (M : Facts) (bm : List Nat) (pr : Nat → Prop) (w : World) (v v' : Value), G.glob M pr w → M.hold w → Rep M bm a v → Rep M bm b v' → Calls Tryd.prog f #[v, v'] w fun e w' => e = .returned u ∧ Ext w w') : Fun G f [a, b] σ (RetV (.d (.lit u)) σ) :=
  fun_of hf hn hb hu fun M bm pr w vs hG hM hl hr => match vs, hl with
    | [v, v'], _ => h M bm pr w v v' hG hM (hr 0 (by simp) (by simp)) (hr 1 (by simp) (by simp))
/-- What has been laid anew. -/
def newer (w w' : World) : Facts := fun b o => if w.heap.size ≤ b then w'.cell? ⟨b, o, none⟩ else none
theorem fun_of_new {f : FuncId} {fn : Func} {args : List V} {x : V} {σ : List (List V)} (hf : Tryd.prog.funcs[f]? = some fn) (hn : (fn.name == "runtime.NumGoroutine") = false) (hb : fn.body.isNone = false) (hx : ∀ T k rows, x ≠ .own T k rows)
    (h : ∀ (M : Facts) (bm : List Nat) (pr : Nat → Prop) (w : World) (vs : List Value), G.glob M pr w → M.hold w → vs.length = args.length → (∀ i (h : i < args.length) (h' : i < vs.length), Rep M bm args[i] vs[i]) →
      Calls Tryd.prog f vs.toArray w fun e w' => ∃ u, e = .returned u ∧ Ext w w' ∧ Rep (newer w w') [] x u) : Fun G f args σ (RetV x σ) := by
  refine ⟨callFunc_enters (P := Tryd.prog) hf hn hb, fun M bm tk pr w vs hG hI ht hl hr => (h M bm pr w vs hG hI.facts hl hr).mono fun e w' ⟨u, he, hx', hu⟩ => ?_⟩
  have hlt : ∀ b, b < w.heap.size → ∀ o, (if w.heap.size ≤ b then w'.cell? ⟨b, o, none⟩ else M b o) = M b o := fun b hb o => if_neg (by omega)
  have hle : M.le fun b o => if w.heap.size ≤ b then w'.cell? ⟨b, o, none⟩ else M b o := fun b o x hm => by
    have hb := hI.facts.lt hm
    show (if w.heap.size ≤ b then w'.cell? ⟨b, o, none⟩ else M b o) = some x
    rw [hlt b hb o]
    exact hm
  obtain ⟨h1, h2⟩ := hI.grow (M' := fun b o => if w.heap.size ≤ b then w'.cell? ⟨b, o, none⟩ else M b o) hx' hle (fun b o x hm => by
    by_cases hb : w.heap.size ≤ b
    · simpa only [if_pos hb] using hm
    · simp only [if_neg hb] at hm
      exact hx'.cell (hI.facts b o x hm)) hlt
  refine ⟨_, bm, tk, σ, .ret x, ⟨rfl, rfl⟩, h1, h2, fun v e => ?_, fun v e => by cases e⟩
  cases e
  refine ⟨u, he, hu.mono (fun b o x hm => ?_) (fun i b h => by simp at h), fun T k rows e => absurd e (hx T k rows)⟩
  unfold newer at hm
  split at hm
  · rename_i hb; simp only [if_pos hb]; exact hm
  · cases hm

/-- Below the heap's end nothing has turned. -/
theorem ext_below {w w' : World} (h : Below w.heap.size w w') : Ext w w' := ⟨h.os, h.tape, h.output, h.size, h.block⟩
end Go.Proofs.YtdglhbelfjcffaaDoor
