/-
  Plain: the two ways to say that a string is an element name are one.
-/
import Derived.Test.YtibfoafepjggjaaDoorNode
namespace Go.Proofs.YtibfoafepjggjaaDoor
open Go.RowKit

theorem ext_get (s : ByteArray) (a b k : Nat) (h : k < (s.extract a b).size) : (s.extract a b)[k]'h = s[a + k]'(by rw [ByteArray.size_extract] at h; omega) := by
  show (s.extract a b).data[k]'h = s.data[a + k]'_
  simp only [ByteArray.data_extract, Array.getElem_extract]
theorem get_list (s : ByteArray) (k : Nat) (h : k < s.size) : s.data.toList[k]? = some (s[k]'h) := by
  rw [List.getElem?_eq_getElem (by rw [← Lib.size_eq]; exact h)]
  simp; rfl

theorem wordB_no {s : ByteArray} (h : wordB s = true) {k : Nat} (hk : k < s.size) : folB (s[k]'hk).toNat = true := by
  cases hf : folB (s[k]'hk).toNat with
  | true => rfl
  | false => rw [wordB_fol hk hf] at h; cases h
theorem wordB_pos {s : ByteArray} (h : wordB s = true) : 0 < s.size := by
  apply Classical.byContradiction; intro hn
  have : s.data.toList = [] := List.eq_nil_of_length_eq_zero (by have := Lib.size_eq s; omega)
  simp [wordB, this, wordL] at h
theorem nameB_word {s : ByteArray} (h : nameB s = true) : wordB s = true := by simp [nameB] at h; exact h.1.1

theorem elemB_splitB (s : ByteArray) : elemB s = splitB s := by
  rw [Bool.eq_iff_iff]
  constructor
  · intro h
    simp only [elemB, Bool.and_eq_true, cutOk, decide_eq_true_eq] at h
    obtain ⟨⟨h1, h2⟩, h3⟩ := h
    obtain ⟨o, ho⟩ := Int.eq_ofNat_of_zero_le h1
    have hlt := byte_at ho
    have hsome := Lib.indexByte_some ho
    have hA : cutA s 91 = s.extract 0 o := by unfold cutA; rw [ho, if_neg (by omega)]; rfl
    have hB : cutB s 91 = s.extract (o + 1) s.size := by unfold cutB; rw [ho, if_neg (by omega)]; rfl
    rw [hA] at h2
    rw [hB] at h3
    by_cases hz : (s.extract (o + 1) s.size).size = 2
    · rw [closeB_eq hz] at h3
      simp only [Bool.and_eq_true, decide_eq_true_eq, ext_get] at h3
      have hz' := hz
      rw [ByteArray.size_extract] at hz'
      have hw := wordB_pos (nameB_word h2)
      rw [ByteArray.size_extract] at hw
      have e : s.size = o + 3 := by omega
      have hn : ¬ s.size < 4 := by omega
      have h91 : (s[o]'hlt).toNat = 91 := by
        have h := hsome.1
        rw [get_list s o hlt] at h
        have h' : s[o]'hlt = 91 := Option.some.inj h
        rw [h']; rfl
      rw [splitB_ge hn]
      have i1 : s.size - 1 = o + 1 + 1 := by omega
      have i2 : s.size - 2 = o + 1 + 0 := by omega
      have i3 : s.size - 3 = o := by omega
      simp only [i1, i2, i3, Bool.and_eq_true, decide_eq_true_eq]
      exact ⟨⟨⟨⟨h3.1.1, h91⟩, h3.1.2⟩, h3.2⟩, h2⟩
    · rw [closeB_ne hz] at h3; cases h3
  · intro h
    by_cases hn : s.size < 4
    · rw [splitB_lt hn] at h; cases h
    · rw [splitB_ge hn] at h
      simp only [Bool.and_eq_true, decide_eq_true_eq] at h
      obtain ⟨⟨⟨⟨h1, h2⟩, h3⟩, h4⟩, h5⟩ := h
      have hidx : Lib.indexByte s.data.toList 91 = ((s.size - 3 : Nat) : Int) := by
        have hlen := Lib.size_eq s
        have hat : s.data.toList[s.size - 3]? = some 91 := by
          rw [get_list s _ (by omega)]
          have : (s[s.size - 3]'(by omega)) = 91 := by
            apply UInt8.toNat_inj.1; rw [h2]; rfl
          rw [this]
        cases hi : Lib.indexByte s.data.toList 91 with
        | negSucc m =>
          have := Lib.indexByte_ge s.data.toList 91
          have hm : Lib.indexByte s.data.toList 91 = -1 := by omega
          exact absurd hat (Lib.indexByte_none hm _)
        | ofNat o =>
          have hs := Lib.indexByte_some hi
          have hlt := byte_at hi
          by_cases h' : o < s.size - 3
          · have hw := wordB_no (nameB_word h5) (k := o) (by rw [ByteArray.size_extract]; omega)
            rw [ext_get] at hw
            have h9 : (s[o]'hlt) = 91 := by
              have h := hs.1
              rw [get_list s o hlt] at h
              exact Option.some.inj h
            simp only [Nat.zero_add] at hw
            rw [h9] at hw; cases hw
          · by_cases h'' : o = s.size - 3
            · rw [h'']; rfl
            · exact absurd hat (hs.2 _ (by omega))
      have hA : cutA s 91 = s.extract 0 (s.size - 3) := by unfold cutA; rw [hidx, if_neg (by omega)]; rfl
      have hB : cutB s 91 = s.extract (s.size - 3 + 1) s.size := by unfold cutB; rw [hidx, if_neg (by omega)]; rfl
      have hz : (s.extract (s.size - 3 + 1) s.size).size = 2 := by rw [ByteArray.size_extract]; omega
      simp only [elemB, Bool.and_eq_true, cutOk, decide_eq_true_eq]
      rw [hA, hB, hidx, closeB_eq hz]
      simp only [Bool.and_eq_true, decide_eq_true_eq, ext_get]
      have i1 : s.size - 3 + 1 + 1 = s.size - 1 := by omega
      have i2 : s.size - 3 + 1 + 0 = s.size - 2 := by omega
      have j1 : (s[s.size - 3 + 1 + 1]'(by omega)).toNat = 93 := by simp only [i1]; exact h1
      have j3 : 48 ≤ (s[s.size - 3 + 1 + 0]'(by omega)).toNat := by simp only [i2]; exact h3
      have j4 : (s[s.size - 3 + 1 + 0]'(by omega)).toNat < 56 := by simp only [i2]; exact h4
      exact ⟨⟨by omega, h5⟩, ⟨j1, j3⟩, j4⟩
end Go.Proofs.YtibfoafepjggjaaDoor
