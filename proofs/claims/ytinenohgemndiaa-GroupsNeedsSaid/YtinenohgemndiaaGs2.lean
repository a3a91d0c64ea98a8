/-
  The keys of a map in ascending order: the program's own way, over memory and in the plain world.
-/
import Derived.Test.YtinenohgemndiaaGs1
import Derived.Shelf.SlIter.Collect
import Derived.Deep.RegionWith
import Derived.Deep.Cut
set_option linter.unusedVariables false
set_option linter.unusedSimpArgs false
set_option linter.unusedSectionVars false
namespace Go.Proofs.Ytinenohgemndiaa
open Go.RowKit Go.Maps Go.Sort Go.Shelf Go.Deep
theorem info_int : (Try.prog.info? 3).map (fun i => (i.zero, i.size, i.bytes)) = some (some (.int .i64 0), 1, 8) := by kernel_rfl
def RetSorted (D : DataW Unit) (W : World) : Ending → World → Prop := fun e w' => ∃ (v : Value) (ss : List Int), e = .returned v ∧ ss.Perm (intKeys D) ∧ w'.ownsRow W.heap.size 3 1 v ss.length ((ss.mergeSort fun x y => decide (x ≤ y)).map encZ) ∧ Below W.heap.size W w'
set_option maxRecDepth 1000000 in
set_option maxHeartbeats 3200000 in
theorem sorted_mem (b n : Nat) (D : DataW Unit) (W : World) (hown : W.ownsMap Try.prog 3 R0 b n D) (hn : Maps.size D ≤ 1000000) :
    Calls Try.prog 26 #[.map (some b)] W (RetSorted D W) := by
  obtain ⟨i0, hi, hz0, hz1, hz2⟩ := info_parts info_int
  have hbl := hown.lt
  have HO := Lib.hid hown
  have HN := Lib.hid hn
  clear hn
  go_enter Try.func26, Try.ntmps26
  go_wp2_with (first
    | (at_range; refine wpList_range_own _ rfl _ 39 rfl 3 _ (int_keyed Try.underlying3) Try.underlying39 _ b n _ rfl hown ?_; intro w0 hrg0 hg0 hs0)
    | go_in)
  go_frame
  go_loopw [3] (fun v wr => ∃ (left : Lit → Bool) (cnt : Nat) (ks : List Int), wr.ranges Try.prog 3 R0 b W.heap.size n D left cnt ∧ wr.ownsRow W.heap.size 3 1 v ks.length (ks.map encZ) ∧ RowKit.Hid (CollectedI D left ks) ∧ ks.length + cnt ≤ Maps.size D ∧ RowKit.Hid (Below W.heap.size W wr))
    (fun _ wr => wr.rangeLeft b W.heap.size)
  case atStart =>
    exact ⟨_, _, [], hrg0, World.ownsRow_nil _ _ _ _, Lib.hid (CollectedI.start D), by simp, Lib.hid ((Below.refl _ W).grown hg0 (Nat.le_refl _) (fun k e => by cases e))⟩
  case round =>
    obtain ⟨left, cnt, ks, hrg, hrow, HC, hlen, HB⟩ := hrel
    go_wp2_with (first
      | (at_next; refine wpList_next_ranges _ rfl _ rfl 3 (int_keyed Try.underlying3) R0 encZ id (fun key kl hk => by obtain ⟨x, hx, _⟩ := Maps.keyOf_i64 Try.underlying3 hk; exact ⟨x, hx⟩) (fun v _ _ => ⟨v, rfl⟩) b W.heap.size n _ _ _ rfl hrg ?_ ?_)
      | go_in)
    · intro hc0 hl0
      have hperm := HC.out.perm HO.out (int_keyed Try.underlying3) Try.underlying3 hl0
      have hlen2 : ks.length ≤ 1000000 := by have := HN.out; omega
      have HP := Lib.hid hperm
      clear hperm hlen
      rcases hrow.2 with ⟨hnil, hk0⟩ | ⟨g, cap, cur, hv, hbase, hb, h1, h2, h3, h4⟩
      · subst hnil
        obtain rfl : ks = [] := List.eq_nil_of_length_eq_zero hk0
        have HR := Lib.hid hrow
        clear hrg hrow hown hc0 hl0
        go_wp2_with (go_at_call 37; refine (AnyM.slices_Sort_int_none Try.sortA none 0 _).mono ?_; rintro e w' ⟨rfl, rfl⟩)
        go_ret
        exact ⟨_, [], rfl, HP.out, by simpa using HR.out, HB.out⟩
      · subst hv
        have hH : Holds encZ wr g 0 ks.toArray := holds_of_block_i hb (by simpa using h4)
        have hgl : g < wr.heap.size := (Array.getElem?_eq_some_iff.1 hb).1
        have hsort := AnyM.slices_Sort_int Try.sortA g 0 cap ks wr hH hgl (by omega)
        have hl2 : (ks.mergeSort fun x y => decide (x ≤ y)).length = ks.length := List.length_mergeSort ks
        clear hrg hrow hown hc0 hl0 hH
        go_wp2_with (go_at_call 37; refine hsort.mono ?_; rintro e w' ⟨rfl, nn, os, rfl⟩)
        go_ret
        exact ⟨_, ks, rfl, HP.out, ownsRow_sorted_i hl2 hbase hb h1 h2 h3, HB.out.grown (grownBy_sorted_i _) HB.out.size (fun j hj => by cases hj; exact hbase)⟩
    · intro x c kl yd yp w1 cnt1 hkey hlk hv hat hrg1 hlt hg1 hs1 hen
      obtain ⟨x', ex, rfl, _⟩ := Maps.keyOf_i64 Try.underlying3 hkey
      obtain rfl : x = x' := encZ_inj ex
      have hm0 : wr.rangeLeft b W.heap.size = cnt := hrg.left_eq
      have hit : ∃ o : Obj, wr.heap[W.heap.size]? = some o ∧ ∀ cur, o ≠ .cells cur 3 (0, 0) := by
        obtain ⟨_, _, _, _, _, _, _, _, _, h, _⟩ := hrg
        exact ⟨_, h, fun cur e => by cases e⟩
      obtain ⟨o, ho1, ho2⟩ := hit
      have hrow1 := hrow.kept hg1 (ownsRow_ne_a hrow ho1 ho2)
      have HB1 := Lib.hid (HB.out.grown hg1 HB.out.size (fun k e => by cases e; exact Nat.le_refl _))
      have HC1 := Lib.hid (HC.out.step hlk hat)
      have HLT := Lib.hid hlt
      have HM0 := Lib.hid hm0
      have hit1 : ∃ o : Obj, w1.heap[W.heap.size]? = some o ∧ ∀ cur, o ≠ .cells cur 3 (0, 0) := by
        obtain ⟨_, _, _, _, _, _, _, _, _, h, _⟩ := hrg1
        exact ⟨_, h, fun cur e => by cases e⟩
      have hlen3 : ks.length ≤ 1000000 := by have := HN.out; omega
      have hmx : maxLen = 9223372036854775807 := rfl
      clear hrow hrg HB HC hg1 hs1 hkey hlk hv hat hown ho1 ho2 hlt hm0 ex
      go_wp2_with (first
        | (at_builtin; refine wpList_append_own _ rfl _ _ 30 rfl W.heap.size 3 i0 (.int .i64 0) 1 8 Try.underlying30 hi hz0 hz1 hz2 rfl (by decide) _ _ _ rfl (hrow1.alloc _) ⟨w1.heap.size, 0, none⟩ 1 1 [encZ x] rfl rfl (cell_one_new _ _ _) (by simp [Value.oneCell', encZ]) (by omega) (by omega) (by have := HB1.out.size; simp; omega) ?_; intro v' w3 hown' hg3 hnil3; go_frame)
        | go_in)
      have hg3' : (w1.alloc (.cells #[encZ x] 3)).grownBy w3 u3.ownBlock := hg3
      have hrowa := hrow1.alloc (.cells #[encZ x] 3)
      obtain ⟨o2, ho1, ho2⟩ := hit1
      have hra := hrg1.alloc (.cells #[encZ x] 3)
      have hita : (w1.alloc (.cells #[encZ x] 3)).heap[W.heap.size]? = some o2 := (Below.heap_alloc _ _ _ (Array.getElem?_eq_some_iff.1 ho1).1).trans ho1
      have hrg3 := hra.kept hg3' (fun e => by have := (hrowa.lt b e.symm).1; omega) (fun e => by
        rcases ownsRow_ne_a hrowa hita ho2 with h | h
        · rw [h] at e; cases e
        · exact h e.symm)
      have hb3 := (HB1.out.alloc HB1.out.size (.cells #[encZ x] 3)).grown hg3' (by have := HB1.out.size; simp; omega) (fun k e => (hrowa.lt k e).1)
      have hlt := HLT.out
      refine ⟨⟨_, cnt1, ks ++ [x], hrg3, by simpa using hown', HC1, by simp; omega, Lib.hid hb3⟩, ?_⟩
      rw [hrg3.left_eq, HM0.out]; exact hlt
theorem grsorted_fun (j : Nat) (kv : List (Key × V)) (L : List Int) (σ : List (List V)) (hj : σ[j]? = some [.mapc false kv]) (hin : ∀ p ∈ kv, KeyIn p.1) (hl : kv.length ≤ 1000000) (hL : L.Perm (kv.map fun p => kint p.1)) (hs : L.Pairwise fun x y => x ≤ y) :
    Fun G 26 [.mp j] σ (RetV (.d (dints L)) σ) :=
  fun_of_inv Try.func26 (by kernel_rfl) (by kernel_rfl) (fun _ _ _ h => by cases h) fun M bm tk pr w vs hI hlen hr => match vs, hlen with
    | [v], _ => by
      have h0 := hr 0 (by simp) (by simp)
      simp only [List.getElem_cons_zero] at h0
      cases h0 with
      | @mp _ b hb =>
      have hM : MapBox M bm w b [.mapc false kv] := by
        rcases hI.box j b _ hb hj with ⟨vs, T, h1, h2, h3⟩ | h1
        · have := (h3 0 (by simp) (by rw [h2]; simp)).1.rep
          simp only [List.getElem_cons_zero] at this
          cases this
        · exact h1
      obtain ⟨D, hown, hperm, hsz⟩ := owns_of Try.underlying3 hM hin hl
      refine (sorted_mem b _ D w hown (by omega)).mono fun e w' ⟨v, ss, he, hS, hrow, hbl⟩ => ⟨v, he, hbl, .d ?_⟩
      have e1 := sorted_one (hS.trans hperm) hL hs
      rw [e1] at hrow
      have e2 : ss.length = L.length := ((hS.trans hperm).trans hL.symm).length_eq
      rw [e2] at hrow
      refine drep_ints hrow fun x hx => ?_
      have hx2 := hL.mem_iff.1 hx
      obtain ⟨p, hp, rfl⟩ := List.mem_map.1 hx2
      obtain ⟨n, hn, hn2⟩ := hin p hp
      rw [hn]
      simp only [kint, Fits, IntKind.min, IntKind.max, IntKind.signed, IntKind.bits]; omega
end Go.Proofs.Ytinenohgemndiaa
