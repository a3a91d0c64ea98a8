/-
  The keys of a map in ascending order: slices.Sorted(maps.Keys(m)), over memory and in the plain world.
-/
import Derived.Test.YtinenohgemndiaaGv8
import Derived.Test.YtinenohgemndiaaShelf
import Derived.Maps.RangeWalk
import Derived.Shelf.SlIterI.Sorted
import Derived.Shelf.SortM.Plain
import Derived.Shelf.SortM.SortNone
import Derived.WalkKit
import Derived.OwnWalk
set_option linter.unusedVariables false
set_option linter.unusedSimpArgs false
set_option linter.unusedSectionVars false
namespace Go.Proofs.Ytinenohgemndiaa
open Go.RowKit Go.Maps Go.Sort Go.Shelf
def newer (w w' : World) : Facts := fun b o => if w.heap.size ≤ b then w'.cell? ⟨b, o, none⟩ else none
theorem fun_of_inv {f : FuncId} {fn : Func} {args : List V} {x : V} {σ : List (List V)} (hf : Try.prog.funcs[f]? = some fn) (hn : (fn.name == "runtime.NumGoroutine") = false) (hb : fn.body.isNone = false) (hx : ∀ T k rows, x ≠ .own T k rows)
    (h : ∀ (M : Facts) (bm : List Nat) (tk : Toks) (pr : Nat → Prop) (w : World) (vs : List Value), Inv M bm σ tk pr w → vs.length = args.length → (∀ i (h : i < args.length) (h' : i < vs.length), Rep M bm args[i] vs[i]) →
      Calls Try.prog f vs.toArray w fun e w' => ∃ u, e = .returned u ∧ Grows w w' ∧ Rep (newer w w') [] x u) : Fun G f args σ (RetV x σ) := by
  refine ⟨callFunc_enters (P := Try.prog) hf hn hb, fun M bm tk pr w vs hG hI ht hl hr => (h M bm tk pr w vs hI hl hr).mono fun e w' ⟨u, he, hx', hu⟩ => ?_⟩
  have hlt : ∀ b, b < w.heap.size → ∀ o, (if w.heap.size ≤ b then w'.cell? ⟨b, o, none⟩ else M b o) = M b o := fun b hb o => if_neg (by omega)
  have hle : M.le fun b o => if w.heap.size ≤ b then w'.cell? ⟨b, o, none⟩ else M b o := fun b o x hm => by
    have hb := hI.facts.lt hm
    show (if w.heap.size ≤ b then w'.cell? ⟨b, o, none⟩ else M b o) = some x
    rw [hlt b hb o]
    exact hm
  obtain ⟨h1, h2⟩ := hI.grow (M' := fun b o => if w.heap.size ≤ b then w'.cell? ⟨b, o, none⟩ else M b o) hx' hle (fun b o x hm => by
    by_cases hb : w.heap.size ≤ b
    · simpa only [if_pos hb] using hm
    · simp only [if_neg hb] at hm
      have h1 := hI.facts b o x hm
      rw [World.cell?_of_block (w := w) (hx'.block b (cell_below h1))]; exact h1) hlt
  refine ⟨_, bm, tk, σ, .ret x, ⟨rfl, rfl⟩, h1, h2, fun v e => ?_, fun v e => by cases e⟩
  cases e
  refine ⟨u, he, hu.mono (fun b o x hm => ?_) (fun i b h => by simp at h), fun T k rows e => absurd e (hx T k rows)⟩
  unfold newer at hm
  split at hm
  · rename_i hb; simp only [if_pos hb]; exact hm
  · cases hm
def R0 : Value → Option (DataW Unit × List MemPlace) := fun _ => some (.lit (.bool true), [])
def kint : Key → Int
  | .i n => n
  | .s _ => 0
def KeyIn (k : Key) : Prop := ∃ n : Nat, k = .i (n : Int) ∧ n ≤ 1000000
theorem mr_keys {M : Facts} {bm : List Nat} {k : TypeId} (hk : Try.prog.underlying k = some (.int .i64)) {kv : List (Key × V)} {es : List MapEntry} (h : MR M bm false kv es) : (∀ p ∈ kv, KeyIn p.1) →
    (∀ x ∈ es, ∃ y, WideElems.rd Try.prog k R0 x = some y) ∧ es.map (fun x => Go.intOf (WideElems.rg Try.prog k R0 x).1) = kv.map fun p => kint p.1 := by
  induction h with
  | nil => intro _; exact ⟨by simp, rfl⟩
  | @cons k' x e kv es h1 h2 h3 h4 h5 ih =>
    intro hin
    obtain ⟨g1, g2⟩ := ih fun p hp => hin p (List.mem_cons_of_mem _ hp)
    obtain ⟨n, hn, hle⟩ := hin _ (List.mem_cons_self ..)
    simp only at hn
    subst hn
    have hkey : keyOf Try.prog k e.key = some (.int .i64 n) := by
      rw [h1]
      exact Maps.keyOf_int_mk hk (by simp [Lit.wf, Key.v, IntKind.min, IntKind.max, IntKind.signed, IntKind.bits]; omega)
    have hrd : WideElems.rd Try.prog k R0 e = some (.int .i64 n, .lit (.bool true)) := by unfold WideElems.rd; rw [hkey]; rfl
    refine ⟨fun y hy => ?_, ?_⟩
    · rcases List.mem_cons.1 hy with rfl | hy
      · exact ⟨_, hrd⟩
      · exact g1 y hy
    · rw [List.map_cons, List.map_cons, g2, WideElems.rg_of hrd]
      rfl
theorem owns_of {M : Facts} {bm : List Nat} {w : World} {b : Nat} {k : TypeId} {kv : List (Key × V)} (hk : Try.prog.underlying k = some (.int .i64)) (h : MapBox M bm w b [.mapc false kv]) (hin : ∀ p ∈ kv, KeyIn p.1) (hl : kv.length ≤ 1000000) :
    ∃ D : DataW Unit, w.ownsMap Try.prog k R0 b kv.length D ∧ (intKeys D).Perm (kv.map fun p => kint p.1) ∧ Maps.size D = kv.length := by
  obtain ⟨st, kv', es, clock, h0, h1, h2, h3⟩ := h
  simp only [List.cons.injEq, V.mapc.injEq, and_true] at h0
  obtain ⟨rfl, rfl⟩ := h0
  obtain ⟨g1, g2⟩ := mr_keys hk h3 hin
  have hle := h3.length
  rw [Array.length_toList] at hle
  have hm : maxLen = 9223372036854775807 := rfl
  refine ⟨_, ⟨es, clock, h1, ⟨by rw [hle]; omega, h2, g1⟩, by omega, rfl⟩, ?_, ?_⟩
  · have hp := (WideShapes.sorted_perm (es.toList.map (WideElems.rg Try.prog k R0))).map fun p : Lit × DataW Unit => Go.intOf p.1
    rw [List.map_map] at hp
    show ((List.foldr DataW.insert [] (es.toList.map (WideElems.rg Try.prog k R0))).map fun p => Go.intOf p.1).Perm _
    rw [← g2]
    exact hp
  · simp [Maps.size, length_sorted, hle]
theorem sorted_one {ss ks L : List Int} (h : ss.Perm ks) (hs : L.Perm ks) (hL : L.Pairwise fun x y => x ≤ y) : (ss.mergeSort fun x y => decide (x ≤ y)) = L := by
  have h1 : (ss.mergeSort fun x y => decide (x ≤ y)).Pairwise fun x y => decide (x ≤ y) = true := List.pairwise_mergeSort (fun a b c h1 h2 => by simp at *; omega) (fun a b => by simp; omega) _
  refine List.Perm.eq_of_pairwise (le := fun x y : Int => x ≤ y) (fun a b _ _ h1 h2 => by omega) (h1.imp fun h => of_decide_eq_true h) hL (((List.mergeSort_perm _ _).trans h).trans hs.symm)
theorem drep_ints {w w' : World} {T : TypeId} {v : Value} {l : List Int} (h : w'.ownsRow w.heap.size T 1 v l.length (l.map encZ)) (hs : ∀ x ∈ l, Fits (.int .i64 x)) : DRep (newer w w') (dints l) v := by
  obtain ⟨h0, ⟨rfl, hn⟩ | ⟨g, cap, cur, rfl, h2, h3, h4, h5, h6, h7⟩⟩ := h
  · have : l = [] := List.eq_nil_of_length_eq_zero hn
    subst this; exact DRep.nil _
  · have hlen : l.length = (l.map fun x => [dint x]).length := by simp
    unfold dints
    rw [hlen]
    refine .sl _ 1 _ cap (fun i _ => .int .i64 (l[i]?.getD 0)) (fun r hr => ?_) (fun i j hi hj => ?_) (fun i hi => ?_) (by omega) h5
    · obtain ⟨s, -, rfl⟩ := List.mem_map.1 hr
      rfl
    · have hi' : i < l.length := by simpa using hi
      have hj0 : j = 0 := by simpa using hj
      subst hj0
      simp only [List.getElem_map, List.getElem_cons_zero, List.getElem?_eq_getElem hi', Option.getD_some]
      exact .lit _ (hs _ (List.getElem_mem hi'))
    · have hi' : i < l.length := by simpa using hi
      refine ⟨g, 0, rfl, fun j hj => ?_⟩
      have hj0 : j = 0 := by omega
      subst hj0
      unfold newer
      rw [if_pos h2]
      have h8 : cur[i]? = some (.int .i64 l[i]) := by
        have := congrArg (·[i]?) h7
        simp only [Nat.mul_one, List.getElem?_take, hi', if_true, List.getElem?_map, List.getElem?_eq_getElem hi', Option.map_some] at this
        simpa [encZ] using this
      simp [World.cell?, h3, h8, List.getElem?_eq_getElem hi']
theorem sortsA (m : Nat) : AnyZI.SortsIn Try.prog Try.sortedA_ren Fence.wide m :=
  ⟨fun blk off cap ss W hH hblk hsz => callsIn_wide.2 (AnyM.slices_Sort_int Try.sortA blk off cap ss W hH hblk hsz),
   fun p cap W => callsIn_wide.2 (AnyM.slices_Sort_int_none Try.sortA p cap W)⟩
theorem box_ptr {M : Facts} {bm : List Nat} {σ : List (List V)} {tk : Toks} {pr : Nat → Prop} {w : World} (hI : Inv M bm σ tk pr w) {i j : Nat} (hi : σ[i]? = some [.mp j]) {v : Value} (hv : Rep M bm (.ptr i 0) v) :
    ∃ b c : Nat, v = .pointer (some ⟨b, 0, none⟩) ∧ b < w.heap.size ∧ w.cell? ⟨b, 0, none⟩ = some (.map (some c)) ∧ bm[j]? = some c := by
  cases hv with
  | ptr h =>
  rename_i b
  rcases hI.box i b _ h hi with ⟨vs, T, h1, h2, h3⟩ | h1
  · have h0 := (h3 0 (by simp) (by rw [h2]; simp)).1.rep
    simp only [List.getElem_cons_zero] at h0
    generalize hu : vs[0]'(by rw [h2]; simp) = u at h0
    cases h0 with
    | mp h0 =>
    rename_i c
    refine ⟨b, c, rfl, (Array.getElem?_eq_some_iff.1 h1).1, ?_, h0⟩
    have h4 : vs[0]? = some (.map (some c)) := by rw [Array.getElem?_eq_getElem (by rw [h2]; simp), hu]
    simp [World.cell?, h1, h4]
  · exact (h1.not rfl).elim
theorem sorted_fun (i j : Nat) (kv : List (Key × V)) (L : List Int) (σ : List (List V)) (hi : σ[i]? = some [.mp j]) (hj : σ[j]? = some [.mapc false kv]) (hin : ∀ p ∈ kv, KeyIn p.1) (hl : kv.length ≤ 1000000) (hL : L.Perm (kv.map fun p => kint p.1)) (hs : L.Pairwise fun x y => x ≤ y) :
    Fun G 24 [.fn 38 [.ptr i 0]] σ (RetV (.d (dints L)) σ) :=
  fun_of_inv Try.func24 (by kernel_rfl) (by kernel_rfl) (fun _ _ _ h => by cases h) fun M bm tk pr w vs hI hlen hr => match vs, hlen with
    | [v], _ => by
      have h0 := hr 0 (by simp) (by simp)
      simp only [List.getElem_cons_zero] at h0
      cases h0 with
      | @fn _ _ vs hl1 h0 =>
      match vs, hl1 with
      | [u], _ =>
      have h1 := h0 0 (by simp) (by simp)
      simp only [List.getElem_cons_zero] at h1
      obtain ⟨B, b, rfl, hB, hcell, hb⟩ := box_ptr hI hi h1
      have hM : MapBox M bm w b [.mapc false kv] := by
        rcases hI.box j b _ hb hj with ⟨vs, T, h1, h2, h3⟩ | h1
        · have := (h3 0 (by simp) (by rw [h2]; simp)).1.rep
          simp only [List.getElem_cons_zero] at this
          cases this
        · exact h1
      obtain ⟨D, hown, hperm, hsz⟩ := owns_of Try.underlying3 hM hin hl
      have hseq : SeqGives Fence.wide 2 Try.prog 38 #[.pointer (some ⟨B, 0, none⟩)] encZ (fun ss => ss.Perm (intKeys D)) (Maps.size D) w :=
        AnyZI.keys_gives (ρ := Try.keysA_ren) { Try.keysA with } Fence.wide _ trivial rfl (by omega) B b kv.length D w hB hcell hown
      have hm : maxLen = 9223372036854775807 := rfl
      have cS := AnyZI.sorted_in Try.sortedA Fence.wide 5 trivial trivial trivial trivial rfl (by omega) (sortsA _) (enters_of Try.func37 (by kernel_rfl) rfl) 38 #[.pointer (some ⟨B, 0, none⟩)] trivial (enters_of Try.func38 (by kernel_rfl) rfl) _ _ (by rw [hsz]; omega) (by rw [hsz]; omega) _ hseq
      change CallsIn _ _ Try.prog 24 _ _ _ at cS
      refine (callsIn_wide.1 cS).mono fun e w' ⟨v, ss, he, hS, hrow, hnil, hbl⟩ => ⟨v, he, hbl, .d ?_⟩
      have e1 := sorted_one (hS.trans hperm) hL hs
      rw [e1] at hrow
      have e2 : ss.length = L.length := ((hS.trans hperm).trans hL.symm).length_eq
      rw [e2] at hrow
      refine drep_ints hrow fun x hx => ?_
      have hx2 := hL.mem_iff.1 hx
      obtain ⟨p, hp, rfl⟩ := List.mem_map.1 hx2
      obtain ⟨n, hn, hn2⟩ := hin p hp
      rw [hn]
      simp only [kint, Fits, IntKind.min, IntKind.max, IntKind.signed, IntKind.bits]; omega
end Go.Proofs.Ytinenohgemndiaa
