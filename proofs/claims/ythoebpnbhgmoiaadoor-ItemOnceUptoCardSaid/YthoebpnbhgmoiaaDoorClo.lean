/-
  Contracts of library functions: the kit proves them once over any program; here they are laid at this one (printed by the kit's own tools). slices.Clone of strings and of ranges, in the plain world.
-/
import Derived.Shelf.SlicesE.Clone
import Derived.Shelf.SlicesG.Clone
import Derived.Test.YthoebpnbhgmoiaaDoorChecked
import Derived.Test.YthoebpnbhgmoiaaDoorItv
import Derived.Test.YthoebpnbhgmoiaaDoorBrief
namespace Go.Proofs.YthoebpnbhgmoiaaDoor
set_option linter.unusedVariables false
open Go.Shelf
def Tryd.cloneSA_ren : Go.Shelf.Ren := ⟨fun | 41 => 39 | n => n, fun | 22 => 45 | 23 => 9 | 4 => 4 | n => n, fun | n => n⟩
theorem Tryd.cloneSA : Go.Proofs.SlLaysE0.n41 Tryd.prog Tryd.cloneSA_ren := {
  mixed := by kernel_rfl
  f41 := ⟨Tryd.f39.name, by decide, Tryd.func39.trans (congrArg some (by kernel_rfl))⟩
  t4 := Tryd.underlying4
  a4 := Tryd.isAgg4
  z4 := Tryd.sizeOf4
  v4 := Tryd.zeroValue4
  t22 := Tryd.underlying45
  a22 := Tryd.isAgg45
  z22 := Tryd.sizeOf45
  v22 := Tryd.zeroValue45 }
def Tryd.cloneZA_ren : Go.Shelf.Ren := ⟨fun | 42 => 39 | n => n, fun | 25 => 45 | 26 => 9 | 4 => 4 | n => n, fun | n => n⟩
theorem Tryd.cloneZA : Go.Proofs.SlLaysN.n42 Tryd.prog Tryd.cloneZA_ren := {
  mixed := by kernel_rfl
  f42 := ⟨Tryd.f39.name, by decide, Tryd.func39.trans (congrArg some (by kernel_rfl))⟩
  t4 := Tryd.underlying4
  a4 := Tryd.isAgg4
  z4 := Tryd.sizeOf4
  v4 := Tryd.zeroValue4
  t25 := Tryd.underlying45
  a25 := Tryd.isAgg45
  z25 := Tryd.sizeOf45
  v25 := Tryd.zeroValue45
  t26 := Tryd.underlying9
  a26 := Tryd.isAgg9
  z26 := Tryd.sizeOf9
  v26 := Tryd.zeroValue9
  i26 := by kernel_rfl }
def Tryd.cloneWA_ren : Go.Shelf.Ren := ⟨fun | 41 => 57 | n => n, fun | 22 => 44 | 23 => 82 | 4 => 4 | n => n, fun | n => n⟩
theorem Tryd.cloneWA : Go.Proofs.SlLaysE0.n41 Tryd.prog Tryd.cloneWA_ren := {
  mixed := by kernel_rfl
  f41 := ⟨Tryd.f57.name, by decide, Tryd.func57.trans (congrArg some (by kernel_rfl))⟩
  t4 := Tryd.underlying4
  a4 := Tryd.isAgg4
  z4 := Tryd.sizeOf4
  v4 := Tryd.zeroValue4
  t22 := Tryd.underlying44
  a22 := Tryd.isAgg44
  z22 := Tryd.sizeOf44
  v22 := Tryd.zeroValue44 }
end Go.Proofs.YthoebpnbhgmoiaaDoor
set_option linter.unusedSimpArgs false
set_option linter.unusedSectionVars false
namespace Go.Proofs.YthoebpnbhgmoiaaDoor
open Go.RowKit Go.Shelf
theorem ownsRow_low {w : World} {base T k n : Nat} {v : Value} {xs : List Value} (h : w.ownsRow base T k v n xs) : w.ownsRow 0 T k v n xs :=
  ⟨h.1, h.2.imp id fun ⟨g, cap, cur, a, b, c⟩ => ⟨g, cap, cur, a, Nat.zero_le _, c⟩⟩
theorem infoStr : ∃ i0, Tryd.prog.info? 9 = some i0 ∧ i0.zero = some (.string ⟨#[]⟩) ∧ i0.size = 1 ∧ i0.bytes = 16 := by
  have h : (Tryd.prog.info? 9).map (fun i => (i.zero, i.size, i.bytes)) = some (some (.string ⟨#[]⟩), 1, 16) := by kernel_rfl
  cases hi : Tryd.prog.info? 9 with
  | none => rw [hi] at h; cases h
  | some i0 => rw [hi] at h; simp only [Option.map_some, Option.some.injEq, Prod.mk.injEq] at h; exact ⟨i0, rfl, h.1, h.2.1, h.2.2⟩
theorem infoWt : ∃ i0, Tryd.prog.info? 82 = some i0 ∧ i0.zero = some (.agg #[.int .i64 0, .int .i64 0, .int .i64 0, .bool false]) ∧ i0.size = 4 ∧ i0.bytes = 32 := by
  have h : (Tryd.prog.info? 82).map (fun i => (i.zero, i.size, i.bytes)) = some (some (.agg #[.int .i64 0, .int .i64 0, .int .i64 0, .bool false]), 4, 32) := by kernel_rfl
  cases hi : Tryd.prog.info? 82 with
  | none => rw [hi] at h; cases h
  | some i0 => rw [hi] at h; simp only [Option.map_some, Option.some.injEq, Prod.mk.injEq] at h; exact ⟨i0, rfl, h.1, h.2.1, h.2.2⟩
theorem clone_mem (l : List ByteArray) (hl : l.length ≤ 1000000) (v : Value) (w : World) (hv : StrsVal w l v) : Calls Tryd.prog 39 #[v] w (RetOwnS l w) := by
  obtain ⟨p, cap, rfl, h1, h2, h3⟩ := hv
  have fin : ∀ e w', (∃ v', e = Ending.returned v' ∧ w'.ownsRow w.heap.size 9 1 v' l.length (l.map Value.string) ∧ v' ≠ .slice none 0 0 ∧ Below w.heap.size w w') → RetOwnS l w e w' := fun e w' ⟨v', g1, g2, _, g4⟩ =>
    ⟨v', g1, ownsRow_low g2, (fun k hk => (g2.lt k hk).1), g4⟩
  cases p with
  | none =>
    have hl0 : l = [] := by
      cases l with
      | nil => rfl
      | cons a r => obtain ⟨b, off, e, -⟩ := h3 0 a rfl; cases e
    subst hl0
    refine (AnyE.slices_Clone_nil (ρ := Tryd.cloneSA_ren) Tryd.cloneSA 0 cap w).mono fun e w' ⟨g1, g2⟩ => ?_
    subst g2
    exact ⟨_, g1, ⟨rfl, .inl ⟨rfl, rfl⟩⟩, (fun k hk => by cases hk), Ext.refl _⟩
  | some a =>
    by_cases hl0 : l = []
    · subst hl0
      exact (AnyG.slices_Clone_string_zero (ρ := Tryd.cloneZA_ren) Tryd.cloneZA a cap w).mono fin
    · obtain ⟨x, r, rfl⟩ := List.exists_cons_of_ne_nil hl0
      obtain ⟨b, off, e, -⟩ := h3 0 x rfl
      cases e
      obtain ⟨i0, hi, z0, z1, z2⟩ := infoStr
      refine (AnyE.slices_Clone (ρ := Tryd.cloneSA_ren) Tryd.cloneSA i0 _ 1 16 hi z0 z1 z2 rfl (by decide) (fun w => Tryd.sizeOf9 w) b off (x :: r).length cap ((x :: r).map Value.string) w (by simp) (by unfold maxLen; omega) (by omega) (fun j u hu => ?_) (fun u hu => ?_)).mono fin
      · rw [List.getElem?_map] at hu
        obtain ⟨s, hs, rfl⟩ := Option.map_eq_some_iff.1 hu
        obtain ⟨b', off', e, hc⟩ := h3 j s hs
        cases e
        exact hc
      · obtain ⟨s, -, rfl⟩ := List.mem_map.1 hu; rfl
theorem strs_size {M : Facts} {bm : List Nat} {l : List ByteArray} {v : Value} (h : Rep M bm (.d (dstrs l)) v) : ∀ s, s ∈ l → s.size ≤ maxLen := by
  intro s hs
  cases h with
  | d h =>
  unfold dstrs at h
  generalize hr : (l.map fun s => [dstr s]) = rows at h
  cases h with
  | sl _ k p cap val hk hd hf hc hm =>
  obtain ⟨i, hi, rfl⟩ := List.getElem_of_mem hs
  have hir : i < rows.length := by rw [← hr]; simpa using hi
  have e : rows[i] = [dstr l[i]] := by subst hr; simp
  have := hd i 0 hir (by rw [e]; simp)
  simp only [e, List.getElem_cons_zero, dstr] at this
  generalize val i 0 = u at this
  cases this with | lit _ hf => exact hf
theorem clone_own (l : List ByteArray) (hl : l.length ≤ 1000000) (σ : List (List V)) : Fun G 39 [.d (dstrs l)] σ (RetV (.own 9 1 (l.map fun s => [dstr s])) σ) :=
  fun_own_strs Tryd.func39 (by kernel_rfl) (by kernel_rfl) fun M bm w vs hG hM hn hr => match vs, hn with
    | [v], _ => by
      have h1 : Rep M bm (.d (dstrs l)) v := hr 0 (by simp) (by simp)
      exact ⟨strs_size h1, clone_mem l hl v w (strsval_of hM h1)⟩
theorem clone_strs (l : List ByteArray) (hl : l.length ≤ 1000000) (σ : List (List V)) : Fun G 39 [.d (dstrs l)] σ (RetV (.d (dstrs l)) σ) :=
  fun_of_new Tryd.func39 (by kernel_rfl) (by kernel_rfl) (fun _ _ _ h => by cases h) fun M bm w vs hG hM hn hr => match vs, hn with
    | [v], _ => by
      have h1 : Rep M bm (.d (dstrs l)) v := hr 0 (by simp) (by simp)
      refine (clone_mem l hl v w (strsval_of hM h1)).mono fun e w' ⟨u, g1, g2, g3, g4⟩ => ⟨u, g1, g4, .d (drep_own g2 g3 (strs_size h1))⟩
theorem lit_any {M M' : Facts} {u v : Value} (h : DRep M (.lit u) v) : DRep M' (.lit u) v := by
  cases h with | lit _ h => exact .lit _ h
theorem clone_wts (ws : List Wt) (h0 : ws ≠ []) (hl : ws.length ≤ 1000000) (σ : List (List V)) : Fun G 57 [.d (.sl (ws.map dwt))] σ (RetV (.d (.sl (ws.map dwt))) σ) :=
  fun_of_new Tryd.func57 (by kernel_rfl) (by kernel_rfl) (fun _ _ _ h => by cases h) fun M bm w vs hG hM hn hr => match vs, hn with
    | [v], _ => by
      have h1 : Rep M bm (.d (.sl (ws.map dwt))) v := hr 0 (by simp) (by simp)
      cases h1 with
      | d h1 =>
      obtain ⟨p, cap, rfl, hle, hcm⟩ := slice_shape h1
      have hk : ∀ r, r ∈ ws.map dwt → r.length = 4 := fun r hr => by obtain ⟨x, -, rfl⟩ := List.mem_map.1 hr; rfl
      have hpos : 0 < (ws.map dwt).length := by rw [List.length_map]; exact List.length_pos_iff.2 h0
      obtain ⟨b, off, news, rfl, -, hnl, hnews, hnd⟩ := flat_rows hM h1 hk hpos
      obtain ⟨i0, hi, z0, z1, z2⟩ := infoWt
      refine (AnyE.slices_Clone (ρ := Tryd.cloneWA_ren) Tryd.cloneWA i0 _ 4 32 hi z0 z1 z2 rfl (by decide) (fun w => Tryd.sizeOf82 w) b off (ws.map dwt).length cap news w hnl (by unfold maxLen; rw [List.length_map]; omega) (by rw [List.length_map]; omega) (fun j u hu => ?_) (fun u hu => ?_)).mono ?_
      · have := (hnews j u hu).2.1
        rwa [addr_add] at this
      · obtain ⟨j, hj, rfl⟩ := List.getElem_of_mem hu
        exact (hnews j _ (List.getElem?_eq_getElem hj)).2.2
      · rintro e w' ⟨v', g1, g2, -, g4⟩
        refine ⟨v', g1, g4, ?_⟩
        rcases g2.2 with ⟨rfl, e0⟩ | ⟨g, cap', cur, rfl, hb, hh, h5, h6, h7, h8⟩
        · omega
        · refine .d (rows_rep (k := 4) hk news hnl (fun j u hu => ?_) (fun i j hi hj hv => ?_) h5 h6)
          · have := g2.cells (g := g) rfl j u hu
            rw [addr_add] at this
            unfold newer
            rw [if_pos hb]; exact this
          · have h9 := hnd i j hi hj hv
            have e1 : (ws.map dwt)[i] = dwt (ws[i]'(by simpa using hi)) := by simp
            simp only [e1] at h9 ⊢
            have hj4 : j < 4 := by rw [e1] at hj; exact hj
            match j, hj4 with
            | 0, _ => exact lit_any h9
            | 1, _ => exact lit_any h9
            | 2, _ => exact lit_any h9
            | 3, _ => exact lit_any h9
end Go.Proofs.YthoebpnbhgmoiaaDoor
