/-
  Sorted, without doubles; the names of a sequence in preorder. No program is in sight here.
-/
import Derived.Test.YtbhippphcmkjnaaGreatDoorTLoc
set_option linter.unusedVariables false
set_option linter.unusedSimpArgs false
namespace Go.Proofs.YtbhippphcmkjnaaGreatDoor
open Go.RowKit

theorem compUp (d : Array (List UInt8)) (hs : ∀ i j, i ≤ j → j < d.size → d[i]! ≤ d[j]!) : ∀ m, m ≤ d.size →
    (Lib.compactUpTo d m).Pairwise (· < ·) ∧ (∀ x, x ∈ Lib.compactUpTo d m → 0 < m ∧ x ≤ d[m - 1]!) ∧ (∀ j, j < m → d[j]! ∈ Lib.compactUpTo d m)
  | 0, _ => by simp [Lib.compactUpTo]
  | m + 1, hm => by
    obtain ⟨h1, h2, h3⟩ := compUp d hs m (by omega)
    rw [Lib.compactUpTo_succ]
    by_cases hk : Lib.keeps d m = true
    · rw [if_pos hk]
      have hlt : ∀ x, x ∈ Lib.compactUpTo d m → x < d[m]! := fun x hx => by
        obtain ⟨h0, hle⟩ := h2 x hx
        have h4 := hs (m - 1) m (by omega) (by omega)
        have h5 : d[m]! ≠ d[m - 1]! := by
          simp only [Lib.keeps, decide_eq_true_eq] at hk
          rcases hk with e | e
          · omega
          · exact e
        have h6 : x ≤ d[m]! := List.le_trans hle h4
        refine Decidable.byContradiction fun hn => h5 ?_
        have h7 : d[m]! ≤ x := hn
        exact List.le_antisymm (List.le_trans h7 hle) h4
      refine ⟨List.pairwise_append.2 ⟨h1, List.pairwise_singleton _ _, fun a ha b hb => ?_⟩, fun x hx => ⟨by omega, ?_⟩, fun j hj => ?_⟩
      · rw [List.mem_singleton.1 hb]; exact hlt a ha
      · rw [Nat.add_sub_cancel]
        rcases List.mem_append.1 hx with hx | hx
        · exact List.le_of_lt (hlt x hx)
        · rw [List.mem_singleton.1 hx]; exact List.le_refl _
      · rcases Nat.lt_or_ge j m with h | h
        · exact List.mem_append_left _ (h3 j h)
        · have : j = m := by omega
          subst this; simp
    · rw [if_neg hk, List.append_nil]
      have he : 0 < m ∧ d[m]! = d[m - 1]! := by
        simp only [Lib.keeps, decide_eq_true_eq, not_or, Decidable.not_not] at hk
        exact ⟨by omega, hk.2⟩
      refine ⟨h1, fun x hx => ⟨by omega, ?_⟩, fun j hj => ?_⟩
      · rw [Nat.add_sub_cancel, he.2]; exact (h2 x hx).2
      · rcases Nat.lt_or_ge j m with h | h
        · exact h3 j h
        · have : j = m := by omega
          subst this
          rw [he.2]; exact h3 _ (by omega)
/-- The strings in ascending order, each once. -/
def srtS (l : List ByteArray) : List ByteArray := compS (sortS l)
theorem byts_ofB (b : List UInt8) : byts (ofB b) = b := by simp [byts, ofB]
theorem compS_byts (l : List ByteArray) : (compS l).map byts = compB l := by
  unfold compS
  rw [List.map_map]
  conv => rhs; rw [← List.map_id (compB l)]
  exact List.map_congr_left fun b _ => byts_ofB b
theorem sortS_byts (l : List ByteArray) : (sortS l).map byts = sortB l := by
  unfold sortS
  rw [List.map_map]
  conv => rhs; rw [← List.map_id (sortB l)]
  exact List.map_congr_left fun b _ => byts_ofB b
theorem srt_all (l : List ByteArray) : ((srtS l).map byts).Pairwise (· < ·) ∧ ∀ b, b ∈ (srtS l).map byts ↔ b ∈ l.map byts := by
  unfold srtS
  rw [compS_byts]
  unfold compB
  rw [sortS_byts]
  have hp : (sortB l).Pairwise (fun a b => decide (a ≤ b) = true) := by
    unfold sortB
    have htr : ∀ a b c : List UInt8, decide (a ≤ b) = true → decide (b ≤ c) = true → decide (a ≤ c) = true := fun a b c h1 h2 => decide_eq_true (List.le_trans (of_decide_eq_true h1) (of_decide_eq_true h2))
    have hto : ∀ a b : List UInt8, (decide (a ≤ b) || decide (b ≤ a)) = true := fun a b => by
      rcases List.le_total a b with h | h
      · simp [h]
      · simp [h]
    exact List.pairwise_mergeSort htr hto _
  have hs : ∀ i j, i ≤ j → j < (sortB l).toArray.size → (sortB l).toArray[i]! ≤ (sortB l).toArray[j]! := fun i j hij hj => by
    have hj' : j < (sortB l).length := by simpa using hj
    have hi' : i < (sortB l).length := by omega
    have e1 : (sortB l).toArray[i]! = (sortB l)[i] := by simp [hi']
    have e2 : (sortB l).toArray[j]! = (sortB l)[j] := by simp [hj']
    rw [e1, e2]
    rcases Nat.lt_or_ge i j with h | h
    · exact of_decide_eq_true (List.pairwise_iff_getElem.1 hp i j hi' hj' h)
    · have : i = j := by omega
      subst this; exact List.le_refl _
  obtain ⟨h1, -, h3⟩ := compUp (sortB l).toArray hs (sortB l).length (by simp)
  refine ⟨h1, fun b => ⟨fun hb => ?_, fun hb => ?_⟩⟩
  · have := compact_mem hb
    unfold sortB at this
    simpa using this
  · have hm : b ∈ sortB l := by unfold sortB; simpa using hb
    obtain ⟨j, hj, rfl⟩ := List.getElem_of_mem hm
    have e1 : (sortB l).toArray[j]! = (sortB l)[j] := by simp [hj]
    rw [← e1]
    exact h3 j hj
theorem srt_mem (l : List ByteArray) (s : ByteArray) : s ∈ srtS l ↔ s ∈ l := by
  have h := (srt_all l).2 (byts s)
  have inj : ∀ (m : List ByteArray), byts s ∈ m.map byts ↔ s ∈ m := fun m => by
    constructor
    · intro h
      obtain ⟨t, ht, e⟩ := List.mem_map.1 h
      rw [← ofB_byts s, ← e, ofB_byts]; exact ht
    · exact fun h => List.mem_map_of_mem h
  rw [inj, inj] at h
  exact h
theorem srt_lt (l : List ByteArray) {i j : Nat} (h : i < j) (hj : j < (srtS l).length) : byts (srtS l)[i] < byts (srtS l)[j] := by
  have := List.pairwise_iff_getElem.1 (srt_all l).1 i j (by simp; omega) (by simpa using hj) h
  simpa using this
theorem srt_len (l : List ByteArray) : (srtS l).length ≤ l.length := by
  unfold srtS compS
  rw [List.length_map]
  have h1 := compB_len (sortS l)
  have h2 := sortS_len l
  omega

mutual
/-- The names that are set, in preorder. -/
def tpre : Ts → List ByteArray
  | .mk o _ _ _ s l => (if o = 6 then [s] else []) ++ tpres l
def tpres : List Ts → List ByteArray
  | [] => []
  | a :: r => tpre a ++ tpres r
end
theorem tpre_eq (s : Ts) : tpre s = (if s.op = 6 then [s.name] else []) ++ tpres s.args := by cases s; rfl
theorem tpres_flat (l : List Ts) : tpres l = (l.map tpre).flatten := by
  induction l with
  | nil => rfl
  | cons a r ih => simp only [tpres, ih, List.map_cons, List.flatten_cons]
theorem tpre_perm (s : Ts) : (tpre s).length = (tnm s).length ∧ ∀ x, x ∈ tpre s ↔ x ∈ tnm s := by
  induction s using Ts.ind with
  | h s ih =>
  rw [tpre_eq, tnm_eq, tpres_flat]
  have H : ∀ l : List Ts, (∀ a, a ∈ l → (tpre a).length = (tnm a).length ∧ ∀ x, x ∈ tpre a ↔ x ∈ tnm a) → ((l.map tpre).flatten.length = (l.map tnm).flatten.length ∧ ∀ x, x ∈ (l.map tpre).flatten ↔ x ∈ (l.map tnm).flatten) := by
    intro l
    induction l with
    | nil => intro _; exact ⟨rfl, fun x => Iff.rfl⟩
    | cons a r ihr =>
      intro h
      obtain ⟨h1, h2⟩ := h a (by simp)
      obtain ⟨h3, h4⟩ := ihr (fun x hx => h x (by simp [hx]))
      refine ⟨by simp only [List.map_cons, List.flatten_cons, List.length_append, h1, h3], fun x => ?_⟩
      simp only [List.map_cons, List.flatten_cons, List.mem_append, h2 x, h4 x]
  obtain ⟨h1, h2⟩ := H s.args ih
  refine ⟨by simp only [List.length_append, h1]; omega, fun x => ?_⟩
  simp only [List.mem_append, h2 x]
  exact Or.comm
/-- The names of the local variables. -/
def locT (s : Ts) : List ByteArray := if validT s = 0 then srtS (tnm s) else []
end Go.Proofs.YtbhippphcmkjnaaGreatDoor
