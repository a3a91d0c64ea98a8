/-
  slices.Sort and slices.Compact of a row of strings of one's own; tseq.Locals.
-/
import Derived.Test.YtbhippphcmkjnaaGreatDoorShelf
import Derived.Test.YtbhippphcmkjnaaGreatDoorTCheck
import Derived.Test.YtbhippphcmkjnaaGreatDoorIn8
set_option linter.unusedVariables false
set_option linter.unusedSimpArgs false
namespace Go.Proofs.YtbhippphcmkjnaaGreatDoor
open Go.RowKit

theorem put_own {w w' : World} {g n : Nat} {T : TypeId} {cur : Array Value} {d : Array (List UInt8)} {os : Array Obj} (hg : w.heap[g]? = some (.cells cur T (0, 0))) (hw' : w' = Sort.grow (Sort.putRow encStr (Sort.ahead w n) g 0 d) os) :
    w'.heap[g]? = some (.cells (Sort.putCells encStr 0 d cur) T (0, 0)) ∧ (∀ b, b ≠ g → b < w.heap.size → w'.heap[b]? = w.heap[b]?) ∧ w.heap.size ≤ w'.heap.size ∧ w'.os = w.os ∧ w'.tape = w.tape ∧ w'.output = w.output := by
  subst hw'
  have hlt := (Array.getElem?_eq_some_iff.1 hg).1
  refine ⟨?_, fun b hb hbl => ?_, ?_, rfl, rfl, rfl⟩
  · simp only [Sort.grow, Sort.putRow, Sort.mapBlock, Sort.ahead]
    rw [Array.getElem?_append_left (by simpa using hlt), Array.getElem?_modify, if_pos rfl, hg]; rfl
  · simp only [Sort.grow, Sort.putRow, Sort.mapBlock, Sort.ahead]
    rw [Array.getElem?_append_left (by simpa using hbl), Array.getElem?_modify, if_neg (Ne.symm hb)]
  · simp [Sort.grow, Sort.putRow, Sort.mapBlock, Sort.ahead]
abbrev byts (s : ByteArray) : List UInt8 := s.data.toList
abbrev ofB (b : List UInt8) : ByteArray := ⟨b.toArray⟩
theorem ofB_byts (s : ByteArray) : ofB (byts s) = s := by simp [ofB, byts]
theorem enc_byts (s : ByteArray) : encStr (byts s) = .string s := by show Value.string ⟨(byts s).toArray⟩ = _; simp [byts]
def sortB (l : List ByteArray) : List (List UInt8) := (l.map byts).mergeSort fun x y => decide (x ≤ y)
def sortS (l : List ByteArray) : List ByteArray := (sortB l).map ofB
def compB (l : List ByteArray) : List (List UInt8) := Lib.compact (l.map byts)
def compS (l : List ByteArray) : List ByteArray := (compB l).map ofB
theorem sortB_len (l : List ByteArray) : (sortB l).length = l.length := by unfold sortB; rw [List.length_mergeSort, List.length_map]
theorem sortS_len (l : List ByteArray) : (sortS l).length = l.length := by unfold sortS; rw [List.length_map, sortB_len]
theorem holds_own {w : World} {g cap : Nat} {cur : Array Value} {T : TypeId} {l : List ByteArray} (h3 : w.heap[g]? = some (.cells cur T (0, 0))) (h7 : cur.toList.take (l.length * 1) = l.map Value.string) : Sort.Holds encStr w g 0 (l.map byts).toArray := by
  intro j hj
  have hj' : j < l.length := by simpa using hj
  have h8 : cur[j]? = some (.string l[j]) := by
    have := congrArg (·[j]?) h7
    simp only [Nat.mul_one, List.getElem?_take, hj', if_true, List.getElem?_map, List.getElem?_eq_getElem hj', Option.map_some] at this
    simpa using this
  refine ⟨?_, by simp [World.frozen?, h3]⟩
  have e : (l.map byts).toArray[j]! = byts l[j] := by simp [hj']
  rw [e, enc_byts]
  simp [World.cell?, h3, h8]
theorem sort_own (l : List ByteArray) (v : Value) (w0 w : World) (h : w.ownsRow 0 9 1 v l.length (l.map Value.string)) (hg : ∀ k, v.ownBlock = some k → w0.heap.size ≤ k) (hx : Ext w0 w) (hl : l.length ≤ 1000000) :
    Calls Tryz.prog 32 #[v] w fun e w' => e = .returned (.tuple #[]) ∧ w'.ownsRow 0 9 1 v (sortS l).length ((sortS l).map Value.string) ∧ Ext w0 w' := by
  obtain ⟨h0, ⟨rfl, hn⟩ | ⟨g, cap, cur, rfl, h2, h3, h4, h5, h6, h7⟩⟩ := h
  · have : l = [] := List.eq_nil_of_length_eq_zero hn
    subst this
    refine (Tryz.slices_Sort_string_none none 0 w).mono fun e w' ⟨k1, k2⟩ => ?_
    subst k2
    exact ⟨k1, ⟨by simp, .inl ⟨rfl, by rw [sortS_len]; rfl⟩⟩, hx⟩
  · have hH := holds_own (cap := cap) h3 h7
    have hc := Tryz.slices_Sort_string g 0 cap (l.map byts) w hH (Array.getElem?_eq_some_iff.1 h3).1 (by rw [List.length_map]; omega)
    rw [List.length_map] at hc
    refine hc.mono fun e w' ⟨k1, n, os, k2⟩ => ?_
    obtain ⟨p1, p2, p3, p4, p5, p6⟩ := put_own h3 k2
    have hgn := hg g rfl
    refine ⟨k1, ⟨by simp, .inr ⟨g, cap, _, by rw [sortS_len], h2, p1, by rw [sortS_len]; exact h4, h5, by simpa [Sort.putCells] using h6, ?_⟩⟩, ⟨p4.trans hx.os, p5.trans hx.tape, p6.trans hx.output, Nat.le_trans hx.size p3, fun b hb => ?_⟩⟩
    · apply List.ext_getElem?
      intro j
      simp only [Nat.mul_one, List.getElem?_take, List.getElem?_map, sortS_len]
      by_cases hj : j < l.length
      · have hjc : j < cur.size := by omega
        have hjs : j < (sortB l).length := by rw [sortB_len]; exact hj
        have hjs' : j < (sortS l).length := by rw [sortS_len]; exact hj
        rw [if_pos hj, List.getElem?_eq_getElem hjs']
        simp only [Sort.putCells, Array.getElem?_toList, Array.getElem?_mapIdx, Option.map_some]
        rw [Array.getElem?_eq_getElem hjc]
        simp only [Option.map_some, Nat.zero_le, true_and, Nat.zero_add, Nat.sub_zero, List.size_toArray]
        show some (if j < (sortB l).length then encStr (sortB l).toArray[j]! else cur[j]) = _
        rw [if_pos hjs]
        have e1 : (sortB l).toArray[j]! = (sortB l)[j] := by simp [hjs]
        rw [e1]
        simp only [sortS, List.getElem_map]
      · rw [if_neg hj, List.getElem?_eq_none (by rw [sortS_len]; omega)]; rfl
    · rw [p2 b (by omega) (Nat.lt_of_lt_of_le hb hx.size)]; exact hx.block b hb
theorem compact_len {α : Type} [Inhabited α] [DecidableEq α] (l : List α) : (Lib.compact l).length ≤ l.length := by
  unfold Lib.compact Lib.compactUpTo
  rw [List.length_map]
  exact Nat.le_trans (List.length_filter_le _ _) (by simp)
theorem compact_mem {α : Type} [Inhabited α] [DecidableEq α] {l : List α} {x : α} (h : x ∈ Lib.compact l) : x ∈ l := by
  unfold Lib.compact Lib.compactUpTo at h
  obtain ⟨j, hj, rfl⟩ := List.mem_map.1 h
  have hj' : j < l.length := by simpa using (List.mem_filter.1 hj).1
  simp [hj']
theorem compB_len (l : List ByteArray) : (compB l).length ≤ l.length := by
  have := compact_len (l.map byts)
  rwa [List.length_map] at this
theorem compS_mem {l : List ByteArray} {s : ByteArray} (h : s ∈ compS l) : s ∈ l := by
  obtain ⟨b, hb, rfl⟩ := List.mem_map.1 h
  obtain ⟨t, ht, rfl⟩ := List.mem_map.1 (compact_mem hb)
  rw [ofB_byts]; exact ht
theorem comp_own (l : List ByteArray) (v : Value) (w0 w : World) (h : w.ownsRow 0 9 1 v l.length (l.map Value.string)) (hg : ∀ k, v.ownBlock = some k → w0.heap.size ≤ k) (hx : Ext w0 w) (hl : l.length ≤ 1000000) (hs : ∀ s, s ∈ l → s.size ≤ maxLen) :
    Calls Tryz.prog 33 #[v] w fun e w' => ∃ u, e = .returned u ∧ Ext w0 w' ∧ DRep (newer w0 w') (dstrs (compS l)) u := by
  obtain ⟨h0, ⟨rfl, hn⟩ | ⟨g, cap, cur, rfl, h2, h3, h4, h5, h6, h7⟩⟩ := h
  · have : l = [] := List.eq_nil_of_length_eq_zero hn
    subst this
    refine (Tryz.slices_Compact_string_empty none 0 w).mono fun e w' ⟨k1, k2⟩ => ?_
    subst k2
    exact ⟨_, k1, hx, DRep.nil _⟩
  · have hH := holds_own (cap := cap) h3 h7
    have hc := Tryz.slices_Compact_string g 0 cap (l.map byts) w hH (by rw [List.length_map]; omega) (by rw [List.length_map]; exact h4)
    rw [List.length_map] at hc
    refine hc.mono fun e w' ⟨k1, q, k2⟩ => ?_
    have k3 : w' = Sort.grow (Sort.putRow encStr (Sort.ahead w q) g 0 (compB l ++ List.replicate (l.length - (compB l).length) []).toArray) #[] := by rw [Sort.grow_empty]; exact k2
    obtain ⟨p1, p2, p3, p4, p5, p6⟩ := put_own h3 k3
    have hgn := hg g rfl
    have hle := compB_len l
    have hcl : (compS l).length = (compB l).length := by unfold compS; rw [List.length_map]
    refine ⟨_, k1, ⟨p4.trans hx.os, p5.trans hx.tape, p6.trans hx.output, Nat.le_trans hx.size p3, fun b hb => ?_⟩, ?_⟩
    · rw [p2 b (by omega) (Nat.lt_of_lt_of_le hb hx.size)]; exact hx.block b hb
    · show DRep (newer w0 w') (dstrs (compS l)) (.slice (some ⟨g, 0, none⟩) (compB l).length cap)
      rw [← hcl]
      refine drep_strs (by omega) h5 (fun s h => hs s (compS_mem h)) fun i s hi => ⟨g, 0, rfl, ?_⟩
      unfold newer
      rw [if_pos hgn]
      have hil : i < (compS l).length := (List.getElem?_eq_some_iff.1 hi).1
      have hib : i < (compB l).length := by omega
      have hic : i < cur.size := by omega
      have hd : (compB l ++ List.replicate (l.length - (compB l).length) []).toArray[i]! = (compB l)[i] := by
        have : i < (compB l ++ List.replicate (l.length - (compB l).length) []).length := by rw [List.length_append]; omega
        rw [List.getElem!_toArray, getElem!_pos _ i this, List.getElem_append_left hib]
      have he : encStr (compB l)[i] = .string s := by
        have := (List.getElem?_eq_some_iff.1 hi).2
        rw [← this]
        simp only [compS, List.getElem_map]
      have hcell : (Sort.putCells encStr 0 (compB l ++ List.replicate (l.length - (compB l).length) []).toArray cur)[i]? = some (.string s) := by
        simp only [Sort.putCells, Array.getElem?_mapIdx, Array.getElem?_eq_getElem hic, Option.map_some, Nat.zero_le, true_and, Nat.zero_add, Nat.sub_zero]
        rw [if_pos (by simp only [List.size_toArray, List.length_append]; omega), hd, he]
      simp [World.cell?, p1, hcell]
end Go.Proofs.YtbhippphcmkjnaaGreatDoor
