/-
  The tokens of a valid expression are parsed to it. No program is in sight here.
-/
import Derived.Test.YteopfpebdalcoaaGreatDoorPt
set_option linter.unusedVariables false
set_option linter.unusedSimpArgs false
set_option linter.unusedSectionVars false
namespace Go.Proofs.YteopfpebdalcoaaGreatDoor
open Go.RowKit
theorem binL_some {o : Int} {m : ByteArray} {l : Nat} (h : binL o = some (m, l)) : (m, o, l) ∈ binTab := by
  unfold binL at h
  obtain ⟨b, hb, e⟩ := Option.map_eq_some_iff.1 h
  have h1 := List.mem_of_find?_eq_some hb
  have h2 := List.find?_some hb
  simp only [decide_eq_true_eq] at h2
  cases e
  subst h2
  exact h1
theorem bin_lev : ∀ b, b ∈ binTab → 2 ≤ b.2.2 ∧ b.2.2 ≤ 12 ∧ (b.2.2 = 2 → b.2.1 = 21 ∧ b.1 = mark2 61 62) ∧ 7 ≤ b.2.1 ∧ b.2.1 ≤ 21 := by decide +kernel
theorem levO_bd (o : Int) : 1 ≤ levO o ∧ levO o ≤ 14 := by
  unfold levO
  split
  · rename_i m l h
    have := bin_lev _ (binL_some h)
    simp only at this
    omega
  · repeat' split
    all_goals omega
theorem ops_bin : ∀ o : Nat, o ≤ 21 → 7 ≤ o → (binL (o : Int)).isSome = true := by decide +kernel
theorem bytes_nil {s : ByteArray} (h : s.toList = []) : s = ⟨#[]⟩ := by
  rw [ByteArray.toList_eq] at h
  cases s with
  | mk d =>
    have : d = #[] := by
      apply Array.toList_inj.1; simpa using h
    rw [this]
theorem node_facts {o n : Int} {s : ByteArray} {k : Nat} (h : nodeErr o n s k = 0) :
    1 ≤ o ∧ o ≤ 25 ∧ (o = 1 → 0 ≤ n ∧ n ≤ 65535) ∧ operB o k = true ∧ (o = 2 → isVarB s = true) ∧ (o = 3 ∨ o = 24 → nameB s = true) ∧ (¬ o = 1 → n = 0) ∧ (namedB o = false → s = ⟨#[]⟩) := by
  unfold nodeErr at h
  split at h
  · cases h
  · split at h
    · cases h
    · split at h
      · cases h
      · split at h
        · cases h
        · rename_i h1 h2 h3 h4
          refine ⟨by omega, by omega, fun e => by omega, ?_, fun e => ?_, fun e => ?_, fun e => by omega, fun e => ?_⟩
          · cases ho : operB o k with
            | true => rfl
            | false => exact absurd (.inr ho) h3
          · cases hv : isVarB s with
            | true => rfl
            | false => exact absurd (.inl ⟨e, hv⟩) h4
          · cases hv : nameB s with
            | true => rfl
            | false => exact absurd (.inr ⟨e, hv⟩) h4
          · refine bytes_nil (Decidable.byContradiction fun hs => h3 (.inl ⟨e, hs⟩))
theorem errL_all {l : List Ex} (h : errL l = 0) : ∀ a, a ∈ l → errE a = 0 := by
  induction l with
  | nil => intro a ha; cases ha
  | cons b r ih =>
    simp only [errL] at h
    split at h
    · rename_i hb
      intro a ha
      rcases List.mem_cons.1 ha with e | e
      · rw [e]; exact hb
      · exact ih h a e
    · rename_i hb; exact absurd h hb
theorem errE_parts {o n : Int} {s : ByteArray} {l : List Ex} (h : errE (.mk o n s l) = 0) : nodeErr o n s l.length = 0 ∧ ∀ a, a ∈ l → errE a = 0 := by
  simp only [errE] at h
  split at h
  · exact ⟨by assumption, errL_all h⟩
  · rename_i hb; exact absurd h hb
theorem tk1 (e : Ex) : tkAt 1 (e.op, toksE e) = toksE e := by
  unfold tkAt
  rw [if_neg (by have := (levO_bd e.op).1; simp only; omega)]
theorem vtd {n : Int} (h0 : 0 ≤ n) (h1 : n ≤ 65535) : vTok (td n) = true := by
  unfold vTok td
  rw [if_pos rfl]
  simp only [Bool.and_eq_true, decide_eq_true_eq, beq_iff_eq]
  exact ⟨⟨h0, by omega⟩, by simp [decS]⟩
theorem vtn {s : ByteArray} (h : nameB s = true) : vTok (tn s) = true := by
  unfold vTok tn
  simp [h]
theorem numP_td {n : Int} (h0 : 0 ≤ n) (h1 : n ≤ 65535) (r : List Tok) : numP (td n :: r) = some (n, r) := by
  simp only [numP]; rw [if_pos ⟨vtd h0 h1, rfl⟩]; rfl
theorem numP_tn (s : ByteArray) (r : List Tok) : numP (tn s :: r) = none := by
  simp only [numP]; rw [if_neg (fun h => by cases h.2)]
theorem nameP_tn {s : ByteArray} (h : nameB s = true) (r : List Tok) : nameP (tn s :: r) = some (s, r) := by
  simp only [nameP]; rw [if_pos ⟨vtn h, rfl⟩]; rfl
theorem ba_list {a b : ByteArray} (h : a.data.toList = b.data.toList) : a = b := by
  cases a; cases b
  simp only at h
  rw [Array.toList_inj.1 h]
theorem two_list {t : ByteArray} (h : t.size = 2) : t.data.toList = [t[0]'(by omega), t[1]'(by omega)] := by
  have hl : t.data.toList.length = 2 := by rw [← Lib.size_eq]; exact h
  match hq : t.data.toList, hl with
  | [x, y], _ =>
    have h0 := get_list t 0 (by omega)
    have h1 := get_list t 1 (by omega)
    rw [hq] at h0 h1
    simp only [List.getElem?_cons_zero, List.getElem?_cons_succ, Option.some.injEq] at h0 h1
    rw [← h0, ← h1]
theorem elem_name {s : ByteArray} (h : elemB s = true) : nameB (cutA s 91) = true ∧ 0 ≤ elemDig s ∧ elemDig s ≤ 7 ∧ elemName (cutA s 91) (elemDig s) = s := by
  unfold elemB at h
  simp only [Bool.and_eq_true] at h
  obtain ⟨⟨h1, h2⟩, h3⟩ := h
  have hi : 0 ≤ Lib.indexByte s.data.toList 91 := of_decide_eq_true h1
  obtain ⟨o, ho⟩ := Int.eq_ofNat_of_zero_le hi
  have hne : ¬ Lib.indexByte s.data.toList 91 = -1 := by omega
  have hA : (cutA s 91).data.toList = s.data.toList.take o := by
    unfold cutA; rw [if_neg hne, ho, Lib.extract_eq]; simp
  have hB : (cutB s 91).data.toList = s.data.toList.drop (o + 1) := by
    unfold cutB; rw [if_neg hne, ho, Lib.extract_eq]
    have hz : (s.data.toList.drop (o + 1)).length ≤ s.size - (o + 1) := by rw [List.length_drop, ← Lib.size_eq]; exact Nat.le_refl _
    first
      | (show List.take (s.size - (o + 1)) (s.data.toList.drop (o + 1)) = _; exact List.take_of_length_le hz)
      | (show List.drop (o + 1) (s.data.toList.take s.size) = _; rw [List.take_of_length_le (by rw [← Lib.size_eq]; exact Nat.le_refl _)])
  have hat : s.data.toList[o]? = some 91 := (Lib.indexByte_some ho).1
  have hz : (cutB s 91).size = 2 := by
    refine Decidable.byContradiction fun hn => ?_
    rw [closeB_ne hn] at h3; cases h3
  rw [closeB_eq hz] at h3
  simp only [Bool.and_eq_true, decide_eq_true_eq] at h3
  have ht := two_list hz
  generalize (cutB s 91)[0]'(by omega) = x at *
  generalize (cutB s 91)[1]'(by omega) = y at *
  obtain ⟨⟨g1, g2⟩, g3⟩ := h3
  have hy : y = 93 := by
    have : y.toNat = (93 : UInt8).toNat := g1
    exact UInt8.toNat_inj.1 this
  have hd : elemDig s = (x.toNat : Int) - 48 := by unfold elemDig; rw [ht]; rfl
  refine ⟨h2, by omega, by omega, ?_⟩
  apply ba_list
  have hol := (List.getElem?_eq_some_iff.1 hat).1
  have hsplit : s.data.toList = s.data.toList.take o ++ 91 :: s.data.toList.drop (o + 1) := by
    conv => lhs; rw [← List.take_append_drop o s.data.toList, List.drop_eq_getElem_cons hol]
    rw [(List.getElem?_eq_some_iff.1 hat).2]
  have hdec : Lib.decDigits (elemDig s).toNat = [x] := by
    have e1 : (elemDig s).toNat = x.toNat - 48 := by omega
    rw [e1, Lib.decDigits, dif_pos (by omega)]
    congr 1
    apply UInt8.toNat_inj.1
    have := dig_byte (x.toNat - 48) (by omega)
    omega
  unfold elemName decS mark1
  simp only [ByteArray.data_append, Array.toList_append, hdec, hA]
  rw [hsplit]
  conv => rhs; rw [← hB, ht, hy]
  rw [List.take_append_of_le_length (by rw [List.length_take]; omega), List.take_take, Nat.min_self]
  simp
theorem pairs_parse : ∀ (m : Nat) (l : List Ex), l.length ≤ m → (∀ a, a ∈ l → RT a) → l.length % 2 = 0 → l ≠ [] → ∀ (args : List Ex) (r : List Tok), par (.Ip args) (tkPairs (toksEs l) ++ (tm (mark1 125) :: r)) = .ok (nodeE 23 (args ++ l)) r := by
  intro m
  induction m with
  | zero => intro l hl _ _ hne; exact absurd (List.eq_nil_of_length_eq_zero (by omega)) hne
  | succ m ih =>
  intro l hl hrt hev hne args r
  match l, hne with
  | [a], _ => simp at hev
  | [a, b], _ =>
    have ha := (hrt a (by simp)).at_ 1 (by omega) (by omega)
    have hb := (hrt b (by simp)).at_ 1 (by omega) (by omega)
    rw [tk1] at ha hb
    have h1 := ha (tm (mark2 46 46) :: (toksE b ++ (tm (mark1 125) :: r))) (stop_end (by simp) 1 _)
    have h2 := hb (tm (mark1 125) :: r) (stop_end (by simp) 1 _)
    have hp : pk 1 = .W := rfl
    rw [hp] at h1 h2
    rw [par_eq]
    simp only [toksEs, tkPairs, List.append_assoc, List.cons_append, stepP, h1, PR.bind, acc_tm (tm_ok (mark2 46 46) (by simp)), h2]
    rw [acc_ne (t := tm (mark1 125)) (by decide +kernel), acc_tm (tm_ok (mark1 125) (by simp))]
  | a :: b :: c :: q, _ =>
    have ha := (hrt a (by simp)).at_ 1 (by omega) (by omega)
    have hb := (hrt b (by simp)).at_ 1 (by omega) (by omega)
    rw [tk1] at ha hb
    have h1 := ha (tm (mark2 46 46) :: (toksE b ++ (tm (mark1 44) :: (tkPairs (toksEs (c :: q)) ++ (tm (mark1 125) :: r))))) (stop_end (by simp) 1 _)
    have h2 := hb (tm (mark1 44) :: (tkPairs (toksEs (c :: q)) ++ (tm (mark1 125) :: r))) (stop_end (by simp) 1 _)
    have hp : pk 1 = .W := rfl
    rw [hp] at h1 h2
    have h3 := ih (c :: q) (by simp only [List.length_cons] at hl ⊢; omega) (fun x hx => hrt x (by simp only [List.mem_cons] at hx ⊢; exact .inr (.inr hx))) (by simp only [List.length_cons] at hev ⊢; omega) (by simp) (args ++ [a, b]) r
    have hte : toksEs (a :: b :: c :: q) = (a.op, toksE a) :: (b.op, toksE b) :: toksEs (c :: q) := rfl
    have hpe : tkPairs (toksEs (a :: b :: c :: q)) = toksE a ++ tm (mark2 46 46) :: (toksE b ++ tm (mark1 44) :: tkPairs (toksEs (c :: q))) := rfl
    rw [par_eq, hpe]
    simp only [List.append_assoc, List.cons_append, stepP, h1, PR.bind, acc_tm (tm_ok (mark2 46 46) (by simp)), h2, acc_tm (tm_ok (mark1 44) (by simp)), h3]
    simp
theorem rt_bin {o : Int} {x y : Ex} {m : ByteArray} {k : Nat} (hb : binL o = some (m, k)) (hx : RT x) (hy : RT y) : RT (nodeE o [x, y]) := by
  have hmem := binL_some hb
  obtain ⟨l2, l12, l21, o7, o21⟩ := bin_lev _ hmem
  simp only at l2 l12 l21
  have hlev : levO o = k := by unfold levO; rw [hb]
  have htk : toksE (nodeE o [x, y]) = tkAt (if k = 2 then 3 else k) (x.op, toksE x) ++ tm m :: tkAt (if k = 2 then 2 else k + 1) (y.op, toksE y) := by
    show tkNode o 0 ⟨#[]⟩ (toksEs [x, y]) = _
    unfold tkNode
    rw [hb]; rfl
  by_cases k2 : k = 2
  · obtain ⟨ho, hm⟩ := l21 k2
    subst k2
    subst hm
    rw [if_pos rfl, if_pos rfl] at htk
    refine rt_of 2 hlev (by omega) (by omega) (fun r hr => ?_) (fun e => by omega) (fun e => by omega)
    have h1 := hx.at_ 3 (by omega) (by omega) (tm (mark2 61 62) :: (tkAt 2 (y.op, toksE y) ++ r)) (stop_bin hmem _)
    have h2 := hy.at_ 2 (by omega) (by omega) r hr
    have hp3 : pk 3 = .L 3 := rfl
    have hp2 : pk 2 = .I := rfl
    rw [hp3] at h1
    rw [hp2] at h2 ⊢
    rw [par_eq, htk]
    have hv := bin_ok _ hmem
    simp only [List.append_assoc, List.cons_append, stepP, h1, PR.bind, acc_tm hv, h2]
    rw [ho]
  · rw [if_neg k2, if_neg k2] at htk
    have hl : ∀ r, Stop (k + 1) r → par (.L k) (toksE (nodeE o [x, y]) ++ r) = par (.Lp k (nodeE o [x, y])) r := fun r hr => by
      have h1 := hx.left k (by omega) l12 (tm m :: (tkAt (k + 1) (y.op, toksE y) ++ r)) (stop_bin hmem _)
      have h2 := hy.at_ (k + 1) (by omega) (by omega) r hr
      have hp : pk (k + 1) = .L (k + 1) := by unfold pk; rw [if_neg (by omega), if_neg (by omega), if_neg (by omega)]
      rw [hp] at h2
      rw [htk, List.append_assoc, List.cons_append, h1, par_eq]
      simp only [stepP]
      have hi : (if k = 9 then acc insideW (tm m :: (tkAt (k + 1) (y.op, toksE y) ++ r)) else none) = none := by
        split
        · exact acc_ne (t := tm m) ((by decide +kernel : ∀ b, b ∈ binTab → b.1 ≠ insideW) _ hmem)
        · rfl
      have hop := oper_bin _ hmem (by simp only; omega) (tkAt (k + 1) (y.op, toksE y) ++ r)
      simp only at hop
      rw [hi, hop]
      simp only [h2, PR.bind]
      rfl
    refine rt_of k hlev (by omega) (by omega) (fun r hr => ?_) (fun e => by omega) (fun _ _ => hl)
    have hp : pk k = .L k := by unfold pk; rw [if_neg (by omega), if_neg (by omega), if_neg (by omega)]
    rw [hp, hl r (hr.mono (Nat.le_succ k))]
    exact lp_stop hr (by omega) _
theorem rt_pre {o : Int} {m : UInt8} {x : Ex} (h : (o = 4 ∧ m = 33) ∨ (o = 5 ∧ m = 126) ∨ (o = 6 ∧ m = 45)) (hx : RT x) : RT (nodeE o [x]) := by
  have hlev : levO o = 13 := by rcases h with ⟨rfl, rfl⟩ | ⟨rfl, rfl⟩ | ⟨rfl, rfl⟩ <;> decide +kernel
  have hb : binL o = none := by rcases h with ⟨rfl, rfl⟩ | ⟨rfl, rfl⟩ | ⟨rfl, rfl⟩ <;> decide +kernel
  have htk : toksE (nodeE o [x]) = tm (mark1 m) :: tkAt 13 (x.op, toksE x) := by
    show tkNode o 0 ⟨#[]⟩ (toksEs [x]) = _
    unfold tkNode
    rw [hb]
    rcases h with ⟨rfl, rfl⟩ | ⟨rfl, rfl⟩ | ⟨rfl, rfl⟩ <;> rfl
  refine rt_of 13 hlev (by omega) (by omega) (fun r hr => ?_) (fun e => by omega) (fun _ e => by omega)
  have h2 := hx.at_ 13 (by omega) (by omega) r hr
  have hp : pk 13 = .L 13 := rfl
  rw [hp, par_L13] at h2
  rw [hp, par_L13, par_eq, htk]
  rcases h with ⟨rfl, rfl⟩ | ⟨rfl, rfl⟩ | ⟨rfl, rfl⟩
  · simp only [List.cons_append, stepP, acc_tm (tm_ok (mark1 33) (by simp)), h2, PR.bind]
  · simp only [List.cons_append, stepP]
    rw [acc_ne (t := tm (mark1 126)) (by decide +kernel)]
    simp only [acc_tm (tm_ok (mark1 126) (by simp)), h2, PR.bind]
  · simp only [List.cons_append, stepP]
    rw [acc_ne (t := tm (mark1 45)) (by decide +kernel), acc_ne (t := tm (mark1 45)) (by decide +kernel)]
    simp only [acc_tm (tm_ok (mark1 45) (by simp)), h2, PR.bind]
theorem rt_if {x y z : Ex} (hx : RT x) (hy : RT y) (hz : RT z) : RT (nodeE 22 [x, y, z]) := by
  have htk : toksE (nodeE 22 [x, y, z]) = tkAt 2 (x.op, toksE x) ++ tm (mark1 63) :: (toksE y ++ tm (mark1 58) :: toksE z) := by
    have h1 := tk1 y
    have h2 := tk1 z
    rw [← h1, ← h2]; rfl
  refine rt_of 1 (show levO 22 = 1 by decide +kernel) (by omega) (by omega) (fun r hr => ?_) (fun e => by omega) (fun e => by omega)
  have h1 := hx.at_ 2 (by omega) (by omega) (tm (mark1 63) :: (toksE y ++ (tm (mark1 58) :: (toksE z ++ r)))) (stop_q _)
  have h2 := hy.at_ 1 (by omega) (by omega) (tm (mark1 58) :: (toksE z ++ r)) (stop_end (by simp) 1 _)
  have h3 := hz.at_ 1 (by omega) (by omega) r hr
  rw [tk1] at h2 h3
  have hp1 : pk 1 = .W := rfl
  have hp2 : pk 2 = .I := rfl
  rw [hp2] at h1
  rw [hp1] at h2 h3 ⊢
  rw [par_eq, htk]
  simp only [List.append_assoc, List.cons_append, stepP, h1, PR.bind, acc_tm (tm_ok (mark1 63) (by simp)), h2, acc_tm (tm_ok (mark1 58) (by simp)), h3]
theorem rt_inside {x : Ex} {l : List Ex} (hx : RT x) (hl : ∀ a, a ∈ l → RT a) (hev : l.length % 2 = 0) (hne : l ≠ []) : RT (nodeE 23 (x :: l)) := by
  have htk : toksE (nodeE 23 (x :: l)) = tkAt 9 (x.op, toksE x) ++ tw insideW :: tm (mark1 123) :: (tkPairs (toksEs l) ++ [tm (mark1 125)]) := rfl
  have hlf : ∀ r, Stop 10 r → par (.L 9) (toksE (nodeE 23 (x :: l)) ++ r) = par (.Lp 9 (nodeE 23 (x :: l))) r := fun r hr => by
    have h1 := hx.left 9 (by omega) (by omega) (tw insideW :: tm (mark1 123) :: (tkPairs (toksEs l) ++ (tm (mark1 125) :: r))) (stop_inside _)
    have h2 := pairs_parse _ l (Nat.le_refl _) hl hev hne [x] r
    have h3 : par (.In x) (tm (mark1 123) :: (tkPairs (toksEs l) ++ (tm (mark1 125) :: r))) = .ok (nodeE 23 (x :: l)) r := by
      rw [par_eq]
      simp only [stepP, acc_tm (tm_ok (mark1 123) (by simp)), h2]
      rfl
    rw [htk]
    simp only [List.append_assoc, List.cons_append, List.nil_append]
    rw [h1, par_eq]
    simp only [stepP, if_true, acc_tw inside_ok, h3, PR.bind]
  refine rt_of 9 (show levO 23 = 9 by decide +kernel) (by omega) (by omega) (fun r hr => ?_) (fun e => by omega) (fun _ _ => hlf)
  have hp : pk 9 = .L 9 := rfl
  rw [hp, hlf r (hr.mono (by omega))]
  exact lp_stop hr (by omega) _
theorem not_pre_tn (s : ByteArray) (r : List Tok) : acc (mark1 33) (tn s :: r) = none ∧ acc (mark1 126) (tn s :: r) = none ∧ acc (mark1 45) (tn s :: r) = none := ⟨acc_tn _ _ _, acc_tn _ _ _, acc_tn _ _ _⟩
theorem lev14 : ∀ o, o ∈ [(1 : Int), 2, 3, 24, 25] → levO o = 14 ∧ binL o = none := by decide +kernel
theorem rt_prim {e : Ex} {t : Tok} {q : List Tok} (hl : levO e.op = 14) (ht : toksE e = t :: q) (hn : ∀ r, acc (mark1 33) (t :: r) = none ∧ acc (mark1 126) (t :: r) = none ∧ acc (mark1 45) (t :: r) = none) (h : ∀ r, Stop 14 r → primP par (toksE e ++ r) = .ok e r) : RT e := by
  refine rt_of 14 hl (by omega) (by omega) (fun r hr => ?_) (fun _ r => ?_) (fun _ e => by omega)
  · have hp : pk 14 = .P := rfl
    rw [hp, par_eq]
    simp only [stepP]
    exact h r hr
  · rw [ht]; exact hn _
theorem opt_if {p : Prop} [Decidable p] {o : Option (List Tok)} (h : o = none) : (if p then o else none) = none := by rw [h]; split <;> rfl
theorem rt_all (e : Ex) : errE e = 0 → RT e := by
  induction e using Ex.ind with
  | h o n s l ih =>
  intro he
  obtain ⟨hnode, hargs⟩ := errE_parts he
  obtain ⟨o1, o25, hc, hop, hvar, hname, hn0, hs0⟩ := node_facts hnode
  have hrt : ∀ a, a ∈ l → RT a := fun a ha => ih a ha (hargs a ha)
  have e1 : acc (mark1 40) = acc (mark1 40) := rfl
  by_cases c1 : o = 1
  · subst c1
    have hl : l = [] := List.eq_nil_of_length_eq_zero (by simpa [operB, arity] using hop)
    have hs : s = ⟨#[]⟩ := hs0 (by decide)
    subst hl; subst hs
    obtain ⟨h0, h1⟩ := hc rfl
    refine rt_prim (t := td n) (q := []) (lev14 1 (by simp)).1 rfl (fun r => ⟨acc_td _ _ _, acc_td _ _ _, acc_td _ _ _⟩) fun r hr => ?_
    have ht : toksE (.mk 1 n ⟨#[]⟩ []) = [td n] := rfl
    rw [ht]
    unfold primP
    simp only [List.cons_append, List.nil_append, acc_td, numP_td h0 h1]
    rw [if_neg (by omega)]
  have hn : n = 0 := hn0 c1
  subst hn
  by_cases c2 : o = 2
  · subst c2
    have hl : l = [] := List.eq_nil_of_length_eq_zero (by simpa [operB, arity] using hop)
    subst hl
    have hv := hvar rfl
    have ht : toksE (.mk 2 0 s []) = varTk s := rfl
    by_cases hel : elemB s = true
    · obtain ⟨g1, g2, g3, g4⟩ := elem_name hel
      have ht2 : varTk s = [tn (cutA s 91), tm (mark1 64), td (elemDig s)] := if_pos hel
      refine rt_prim (lev14 2 (by simp)).1 (ht.trans ht2) (fun r => not_pre_tn _ _) fun r hr => ?_
      rw [ht, ht2]
      unfold primP
      simp only [List.cons_append, List.nil_append, acc_tn, numP_tn, nameP_tn g1]
      rw [opt_if (acc_ne (t := tm (mark1 64)) (by decide +kernel)), opt_if (acc_ne (t := tm (mark1 64)) (by decide +kernel)), acc_ne (t := tm (mark1 64)) (by decide +kernel)]
      simp only [acc_tm (tm_ok (mark1 64) (by simp)), numP_td g2 (by omega)]
      rw [if_neg (by omega), g4]
    · have hnm : nameB s = true := by
        unfold isVarB at hv
        rw [Bool.or_eq_true] at hv
        exact hv.resolve_left hel
      have ht2 : varTk s = [tn s] := if_neg hel
      refine rt_prim (lev14 2 (by simp)).1 (ht.trans ht2) (fun r => not_pre_tn _ _) fun r hr => ?_
      rw [ht, ht2]
      unfold primP
      simp only [List.cons_append, List.nil_append, acc_tn, numP_tn, nameP_tn hnm]
      rw [opt_if hr.p, opt_if hr.p]
      simp only [hr.b, hr.a]
  by_cases c3 : o = 3
  · subst c3
    have hnm := hname (.inl rfl)
    have hl : l.length = 1 := by have : (l.length : Int) = 1 := by simpa [operB, arity] using hop
                                 omega
    obtain ⟨x, rfl⟩ := List.length_eq_one_iff.1 hl
    have hx := (hrt x (by simp)).at_ 1 (by omega) (by omega)
    rw [tk1] at hx
    have ht : toksE (.mk 3 0 s [x]) = tn s :: tm (mark1 91) :: (toksE x ++ [tm (mark1 93)]) := rfl
    refine rt_prim (lev14 3 (by simp)).1 ht (fun r => not_pre_tn _ _) fun r hr => ?_
    have h1 := hx (tm (mark1 93) :: r) (stop_end (by simp) 1 _)
    have hp : pk 1 = .W := rfl
    rw [hp] at h1
    rw [ht]
    unfold primP
    simp only [List.cons_append, List.append_assoc, List.nil_append, acc_tn, numP_tn, nameP_tn hnm]
    rw [opt_if (acc_ne (t := tm (mark1 91)) (by decide +kernel)), opt_if (acc_ne (t := tm (mark1 91)) (by decide +kernel))]
    simp only [acc_tm (tm_ok (mark1 91) (by simp)), h1, PR.bind, acc_tm (tm_ok (mark1 93) (by simp))]
  by_cases c24 : o = 24
  · subst c24
    have hnm := hname (.inr rfl)
    have hl : l = [] := List.eq_nil_of_length_eq_zero (by simpa [operB, arity] using hop)
    subst hl
    have ht : toksE (.mk 24 0 s []) = [tn sumW, tm (mark1 40), tn s, tm (mark1 41)] := rfl
    have hsw : nameB sumW = true := by decide +kernel
    refine rt_prim (lev14 24 (by simp)).1 ht (fun r => not_pre_tn _ _) fun r hr => ?_
    rw [ht]
    unfold primP
    simp only [List.cons_append, List.nil_append, acc_tn, numP_tn, nameP_tn hsw, if_true, acc_tm (tm_ok (mark1 40) (by simp)), nameP_tn hnm, acc_tm (tm_ok (mark1 41) (by simp))]
  have hs : s = ⟨#[]⟩ := hs0 (by unfold namedB; simp [c2, c3, c24])
  subst hs
  by_cases c25 : o = 25
  · subst c25
    have hl : l.length = 1 := by have : (l.length : Int) = 1 := by simpa [operB, arity] using hop
                                 omega
    obtain ⟨x, rfl⟩ := List.length_eq_one_iff.1 hl
    have hx := (hrt x (by simp)).at_ 1 (by omega) (by omega)
    rw [tk1] at hx
    have ht : toksE (.mk 25 0 ⟨#[]⟩ [x]) = tn onesW :: tm (mark1 40) :: (toksE x ++ [tm (mark1 41)]) := rfl
    have how : nameB onesW = true := by decide +kernel
    refine rt_prim (lev14 25 (by simp)).1 ht (fun r => not_pre_tn _ _) fun r hr => ?_
    have h1 := hx (tm (mark1 41) :: r) (stop_end (by simp) 1 _)
    have hp : pk 1 = .W := rfl
    rw [hp] at h1
    have hns : ¬ onesW = sumW := by decide +kernel
    rw [ht]
    unfold primP
    simp only [List.cons_append, List.append_assoc, List.nil_append, acc_tn, numP_tn, nameP_tn how, if_neg hns, if_true, acc_tm (tm_ok (mark1 40) (by simp)), h1, PR.bind, acc_tm (tm_ok (mark1 41) (by simp))]
    rfl
  by_cases c456 : o = 4 ∨ o = 5 ∨ o = 6
  · have hl : l.length = 1 := by
      have : (l.length : Int) = 1 := by
        rcases c456 with rfl | rfl | rfl <;> simpa [operB, arity] using hop
      omega
    obtain ⟨x, rfl⟩ := List.length_eq_one_iff.1 hl
    rcases c456 with rfl | rfl | rfl
    · exact rt_pre (m := 33) (.inl ⟨rfl, rfl⟩) (hrt x (by simp))
    · exact rt_pre (m := 126) (.inr (.inl ⟨rfl, rfl⟩)) (hrt x (by simp))
    · exact rt_pre (m := 45) (.inr (.inr ⟨rfl, rfl⟩)) (hrt x (by simp))
  by_cases c22 : o = 22
  · subst c22
    have hl : l.length = 3 := by have : (l.length : Int) = 3 := by simpa [operB, arity] using hop
                                 omega
    match l, hl with
    | [x, y, z], _ => exact rt_if (hrt x (by simp)) (hrt y (by simp)) (hrt z (by simp))
  by_cases c23 : o = 23
  · subst c23
    have hl : l.length % 2 = 1 ∧ 3 ≤ l.length := by
      have : (decide (l.length % 2 = 1) && decide (3 ≤ l.length) && decide (l.length ≤ 33)) = true := by simpa [operB] using hop
      simp only [Bool.and_eq_true, decide_eq_true_eq] at this
      exact this.1
    match l, hl with
    | x :: q, ⟨h1, h2⟩ =>
      simp only [List.length_cons] at h1 h2
      exact rt_inside (hrt x (by simp)) (fun a ha => hrt a (by simp [ha])) (by omega) (fun e => by rw [e] at h2; simp at h2)
  have hl : l.length = 2 := by
    have : (l.length : Int) = 2 := by
      have h1 : (l.length : Int) = arity o := by unfold operB at hop; rw [if_neg c23] at hop; exact of_decide_eq_true hop
      rw [h1]
      unfold arity
      rw [if_neg (by omega), if_neg (by omega), if_neg c22, if_neg c23, if_neg (by omega)]
    omega
  match l, hl with
  | [x, y], _ =>
    obtain ⟨k, hk⟩ := Int.eq_ofNat_of_zero_le (show 0 ≤ o by omega)
    have hb := ops_bin k (by omega) (by omega)
    rw [← hk] at hb
    obtain ⟨p, hp⟩ := Option.isSome_iff_exists.1 hb
    exact rt_bin (m := p.1) (k := p.2) hp (hrt x (by simp)) (hrt y (by simp))
end Go.Proofs.YteopfpebdalcoaaGreatDoor
