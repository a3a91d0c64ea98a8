/-
  Walks: walk, and the functions that use it.
-/
import Derived.Test.YtibfoafepjggjaaDoorWalk
import Derived.Laws.EntriesVeiled
namespace Go.Proofs.YtibfoafepjggjaaDoor
open Go.RowKit

def WalkPost {σ : Type} (I : (Nat → Prop) → σ → World → Prop) (O : Nat → Prop) (s : σ) (w : World) (e : Ending) (w' : World) : Prop :=
  e = .returned (.tuple #[]) ∧ ∃ O', I O' s w' ∧ (∀ k, O' k → O k ∨ w.heap.size ≤ k) ∧ Keep O w w'

set_option maxRecDepth 100000 in
theorem walk_any {σ : Type} {next : σ → Ex → σ × Bool} {I : (Nat → Prop) → σ → World → Prop} {Q : Ex → Prop} {w0 : World} {F : FuncId} {cap : Array Value}
    (hF : ∀ args w, (callFunc F args).run Tryd.prog w = .ok (.enter F args) w) (H : Visits Tryd.prog w0 F cap next I Q)
    (e : Ex) (O : Nat → Prop) (s : σ) (w : World) (v : Value) (hq : Q e) (h0 : Ext w0 w) (hv : ExVal w0 e v) (hI : I O s w) :
      Calls Tryd.prog 36 #[v, .func (.func F) #[] cap] w (WalkPost I O (walkE next e s).1 w) := by
  obtain ⟨p, cp, rfl, hl, h1, h2, -, -, -⟩ := ex_open hv
  have HV := Lib.hid hv; clear hv
  have HI := Lib.hid hI; clear hI
  have H0 := Lib.hid h0; clear h0
  have HH := Lib.hid H; clear H
  clear hl
  go_enter Tryd.func36, Tryd.ntmps36
  go_wp2_with fail
  have hl0 : ∀ k, O k → k < w.heap.size := fun k hk => (HH.out.lt HI.out k hk).2
  have e1 := ((Ext.refl w).alloc (.cells #[.int .i64 e.op, .int .i64 e.num, .string e.name, .slice p e.args.length cp] 24)).alloc (.cells #[.func (.func F) #[] cap] 34)
  have o3 : One (w.heap.size + 1) 34 (.func (.func F) #[] cap) ((w.alloc (.cells #[.int .i64 e.op, .int .i64 e.num, .string e.name, .slice p e.args.length cp] 24)).alloc (.cells #[.func (.func F) #[] cap] 34)) := by
    have := One.new (w.alloc (.cells #[.int .i64 e.op, .int .i64 e.num, .string e.name, .slice p e.args.length cp] 24)) 34 (.func (.func F) #[] cap)
    simpa using this
  have o4 := fun u => One.new ((w.alloc (.cells #[.int .i64 e.op, .int .i64 e.num, .string e.name, .slice p e.args.length cp] 24)).alloc (.cells #[.func (.func F) #[] cap] 34)) 34 u
  simp only [World.size_alloc] at o4
  refine (down_any hF HH.out (w.heap.size + 1) (w.heap.size + 1 + 1) e O s _ _ hq (H0.out.trans (e1.alloc _)) HV.out (HH.out.stays HI.out (fun k hk => (e1.alloc _).block k (hl0 k hk))) (fun hx => by have := hl0 _ hx; omega) (fun hx => by have := hl0 _ hx; omega) (o3.alloc _) (o4 _)).mono ?_
  rintro en w1 ⟨rfl, O1, hI1, hO1, hk1⟩
  have hk : Keep O w w1 := (Keep.of_ext (e1.alloc _)).trans hk1 (fun x hx => .inl hx)
  have hO : ∀ k, O1 k → O k ∨ w.heap.size ≤ k := fun k hk => (hO1 k hk).imp id (fun h => by simp at h; omega)
  clear hk1 hO1 e1 o3 o4
  go_wp2_with fail
  go_end0
  exact ⟨rfl, O1, hI1, hO, hk⟩

theorem callFunc_enter {P : Program} {f : FuncId} {fn : Func} (hf : P.funcs[f]? = some fn) (hn : (fn.name == "runtime.NumGoroutine") = false) (hb : fn.body.isNone = false) :
    ∀ args w, (callFunc f args).run P w = .ok (.enter f args) w := fun args w => by
  have h1 : fn.name ≠ "runtime.NumGoroutine" := by simpa using hn
  have h2 : fn.body ≠ none := fun h => by rw [h] at hb; cases hb
  simp [callFunc, hf, h1, h2]

/-! ### Size -/
mutual
def esize : Ex → Nat
  | .mk _ _ _ l => esizes l + 1
def esizes : List Ex → Nat
  | [] => 0
  | a :: r => esize a + esizes r
end
def nextSize (n : Int) (_ : Ex) : Int × Bool := (wrap64 (n + 1), true)
def SizeI (b : Nat) (O : Nat → Prop) (n : Int) (w : World) : Prop := (∀ k, O k ↔ k = b) ∧ One b 3 (.int .i64 n) w

theorem size_visits (w0 : World) (b : Nat) (hb : w0.heap.size ≤ b) : Visits Tryd.prog w0 37 #[.pointer (some ⟨b, 0, none⟩)] nextSize (SizeI b) (fun _ => True) where
  sub := fun _ _ _ => trivial
  stays := fun h hs => ⟨h.1, by unfold One; rw [hs b ((h.1 b).2 rfl)]; exact h.2⟩
  lt := fun h k hk => by have := (h.1 k).1 hk; subst this; exact ⟨hb, h.2.lt⟩
  call := by
    intro O s w e v _ h0 hI hv
    obtain ⟨p, cp, rfl, hl, h1, h2, -, -, -⟩ := ex_open hv
    have c0 := hI.2.cell
    have f0 := hI.2.frozen
    have l0 := hI.2.lt
    have HI := Lib.hid hI; clear hI
    clear hv hl
    go_enter Tryd.func37, Tryd.ntmps37
    go_wp2_with fail
    go_ret
    exact ⟨rfl, O, ⟨HI.out.1, (HI.out.2.set _).alloc _⟩, fun k hk => .inl hk, ((Keep.refl O w).setCell (.inl ((HI.out.1 b).2 rfl)) _).alloc _⟩

theorem wrap64_wrap64 (a b : Int) : wrap64 (wrap64 a + b) = wrap64 (a + b) := by unfold wrap64; omega
theorem wrap64_of (a : Int) (h1 : -9223372036854775808 ≤ a) (h2 : a ≤ 9223372036854775807) : wrap64 a = a := by unfold wrap64; omega
theorem size_walk (e : Ex) : ∀ n, (walkE nextSize e n) = (wrap64 (n + esize e), true) := by
  induction e using Ex.ind with
  | h o m s l ih =>
    intro n
    suffices H : ∀ (r : List Ex), (∀ a, a ∈ r → a ∈ l) → ∀ n, walkL nextSize r (wrap64 n) = (wrap64 (n + esizes r), true) by
      simp only [walkE, nextSize, if_true, esize]
      rw [H l (fun _ h => h)]
      congr 2; omega
    intro r
    induction r with
    | nil => intro _ n; simp [walkL, esizes]
    | cons a r ihr =>
      intro hm n
      simp only [walkL, ih a (hm a (by simp)), if_true, esizes]
      rw [wrap64_wrap64, ihr (fun x hx => hm x (by simp [hx]))]
      congr 2; omega

set_option maxRecDepth 100000 in
theorem size_any (e : Ex) (w : World) (v : Value) (hv : ExVal w e v) :
    Calls Tryd.prog 13 #[v] w fun en w' => en = .returned (.int .i64 (wrap64 (esize e))) ∧ Ext w w' := by
  obtain ⟨p, cp, rfl, hl, h1, h2, -, -, -⟩ := ex_open hv
  have HV := Lib.hid hv; clear hv
  clear hl
  have hW := walk_any (σ := Int) (Q := fun _ => True) (F := 37) (next := nextSize) (callFunc_enter Tryd.func37 (by kernel_rfl) (by kernel_rfl)) (size_visits (w.alloc (.cells #[.int .i64 e.op, .int .i64 e.num, .string e.name, .slice p e.args.length cp] 24)) (w.heap.size + 1) (by simp)) e
    (fun k => k = w.heap.size + 1) 0 ((w.alloc (.cells #[.int .i64 e.op, .int .i64 e.num, .string e.name, .slice p e.args.length cp] 24)).alloc (.cells #[.int .i64 0] 3)) _ trivial ((Ext.refl _).alloc _) (HV.out.ext ((Ext.refl w).alloc _)) ⟨fun k => Iff.rfl, by simpa using One.new (w.alloc (.cells #[.int .i64 e.op, .int .i64 e.num, .string e.name, .slice p e.args.length cp] 24)) 3 (.int .i64 0)⟩
  rw [size_walk] at hW
  have HW := Lib.hid hW; clear hW
  go_enter Tryd.func13, Tryd.ntmps13
  go_wp2_with fail
  refine HW.out.mono ?_
  rintro en w1 ⟨rfl, O1, hI1, hO1, hk1⟩
  have c0 := hI1.2.cell
  have hx : Ext w w1 := by
    have h := hk1.ext (w0 := w) (((Ext.refl w).alloc _).alloc _) (fun x hx => by omega)
    exact h
  clear hI1 hO1 hk1
  go_wp2_with fail
  go_ret
  exact ⟨ret_int (by simp), hx⟩
end Go.Proofs.YtibfoafepjggjaaDoor
