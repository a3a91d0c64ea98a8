/-
  The tokens that an expression is printed as, and that they are parsed to it. No program is in sight here.
-/
import Derived.Test.YteopfpebdalcoaaGreatDoorPg2
import Derived.Test.YteopfpebdalcoaaGreatDoorNames2
set_option linter.unusedVariables false
set_option linter.unusedSimpArgs false
set_option linter.unusedSectionVars false
namespace Go.Proofs.YteopfpebdalcoaaGreatDoor
open Go.RowKit
def binL (o : Int) : Option (ByteArray × Nat) := (binTab.find? fun b => decide (b.2.1 = o)).map fun b => (b.1, b.2.2)
def levO (o : Int) : Nat := match binL o with
  | some (_, l) => l
  | none => if o = 22 then 1 else if o = 23 then 9 else if o = 4 ∨ o = 5 ∨ o = 6 then 13 else 14
def tm (m : ByteArray) : Tok := ⟨4, 0, m, 1⟩
def tw (m : ByteArray) : Tok := ⟨2, 0, m, 1⟩
def tn (s : ByteArray) : Tok := ⟨1, 0, s, 1⟩
def td (n : Int) : Tok := ⟨3, n, decS n, 1⟩
def tkAt (k : Nat) (a : Int × List Tok) : List Tok := if levO a.1 < k then tm (mark1 40) :: (a.2 ++ [tm (mark1 41)]) else a.2
def tkPairs : List (Int × List Tok) → List Tok
  | [] => []
  | [_] => []
  | [a, b] => a.2 ++ tm (mark2 46 46) :: b.2
  | a :: b :: c :: r => a.2 ++ tm (mark2 46 46) :: (b.2 ++ tm (mark1 44) :: tkPairs (c :: r))
def elemDig (s : ByteArray) : Int := (((cutB s 91).data.toList.headD 0).toNat : Int) - 48
def varTk (s : ByteArray) : List Tok := if elemB s = true then [tn (cutA s 91), tm (mark1 64), td (elemDig s)] else [tn s]
def tkNode (o n : Int) (s : ByteArray) (xs : List (Int × List Tok)) : List Tok := match binL o with
  | some (m, l) => tkAt (if l = 2 then 3 else l) (xs.getD 0 (1, [])) ++ tm m :: tkAt (if l = 2 then 2 else l + 1) (xs.getD 1 (1, []))
  | none =>
    if o = 4 then tm (mark1 33) :: tkAt 13 (xs.getD 0 (1, []))
    else if o = 5 then tm (mark1 126) :: tkAt 13 (xs.getD 0 (1, []))
    else if o = 6 then tm (mark1 45) :: tkAt 13 (xs.getD 0 (1, []))
    else if o = 22 then tkAt 2 (xs.getD 0 (1, [])) ++ tm (mark1 63) :: (tkAt 1 (xs.getD 1 (1, [])) ++ tm (mark1 58) :: tkAt 1 (xs.getD 2 (1, [])))
    else if o = 23 then tkAt 9 (xs.getD 0 (1, [])) ++ tw insideW :: tm (mark1 123) :: (tkPairs xs.tail ++ [tm (mark1 125)])
    else if o = 1 then [td n]
    else if o = 3 then tn s :: tm (mark1 91) :: ((xs.getD 0 (1, [])).2 ++ [tm (mark1 93)])
    else if o = 24 then [tn sumW, tm (mark1 40), tn s, tm (mark1 41)]
    else if o = 25 then tn onesW :: tm (mark1 40) :: ((xs.getD 0 (1, [])).2 ++ [tm (mark1 41)])
    else varTk s
mutual
def toksE : Ex → List Tok
  | .mk o n s l => tkNode o n s (toksEs l)
def toksEs : List Ex → List (Int × List Tok)
  | [] => []
  | a :: r => (a.op, toksE a) :: toksEs r
end
theorem toksEs_map (l : List Ex) : toksEs l = l.map fun a => (a.op, toksE a) := by
  induction l with
  | nil => rfl
  | cons a r ih => simp only [toksEs, ih, List.map_cons]
structure Stop (k : Nat) (r : List Tok) : Prop where
  q : k ≤ 1 → acc (mark1 63) r = none
  im : k ≤ 2 → acc (mark2 61 62) r = none
  op : ∀ j, k ≤ j → 3 ≤ j → operP j r = none
  ins : k ≤ 9 → acc insideW r = none
  b : acc (mark1 91) r = none
  a : acc (mark1 64) r = none
  p : acc (mark1 40) r = none
theorem Stop.mono {k j : Nat} {r : List Tok} (h : Stop k r) (hj : k ≤ j) : Stop j r :=
  ⟨fun e => h.q (by omega), fun e => h.im (by omega), fun i h1 h2 => h.op i (by omega) h2, fun e => h.ins (by omega), h.b, h.a, h.p⟩
theorem acc_ne {m : ByteArray} {t : Tok} {r : List Tok} (h : t.text ≠ m) : acc m (t :: r) = none := by
  simp only [acc]; rw [if_neg (fun hc => h hc.2.2)]
theorem operL_none {t : Tok} {r : List Tok} {k : Nat} : ∀ (l : List (ByteArray × Int × Nat)), (∀ b, b ∈ l → b.2.2 = k → t.text ≠ b.1) → operL l k (t :: r) = none
  | [], _ => rfl
  | b :: l, h => by
    simp only [operL]
    split
    · rename_i hb
      rw [acc_ne (h b (by simp) hb)]
      exact operL_none l fun c hc => h c (by simp [hc])
    · exact operL_none l fun c hc => h c (by simp [hc])
theorem operP_none {t : Tok} {r : List Tok} {k : Nat} (h : ∀ b, b ∈ binTab → b.2.2 = k → t.text ≠ b.1) (h1 : t.text ≠ mark1 62) (h2 : t.text ≠ mark2 62 61) : operP k (t :: r) = none := by
  unfold operP
  rw [operL_none binTab h]
  simp only
  split
  · rw [acc_ne h1, acc_ne h2]
  · rfl
theorem stop_nil (k : Nat) : Stop k [] := by
  refine ⟨fun _ => rfl, fun _ => rfl, fun j _ _ => ?_, fun _ => rfl, rfl, rfl, rfl⟩
  have : ∀ l : List (ByteArray × Int × Nat), operL l j [] = none := by
    intro l
    induction l with
    | nil => rfl
    | cons b l ih => simp only [operL, acc]; split <;> exact ih
  unfold operP
  rw [this]
  simp only [acc]
  split <;> rfl
theorem stop_tok {k : Nat} {t : Tok} (r : List Tok) (h1 : k ≤ 1 → t.text ≠ mark1 63) (h2 : k ≤ 2 → t.text ≠ mark2 61 62) (h3 : ∀ b, b ∈ binTab → k ≤ b.2.2 → t.text ≠ b.1) (h4 : k ≤ 9 → t.text ≠ insideW)
    (h5 : t.text ≠ mark1 62 ∧ t.text ≠ mark2 62 61 ∧ t.text ≠ mark1 91 ∧ t.text ≠ mark1 64 ∧ t.text ≠ mark1 40) : Stop k (t :: r) :=
  ⟨fun e => acc_ne (h1 e), fun e => acc_ne (h2 e), fun j hj _ => operP_none (fun b hb hbj => h3 b hb (by omega)) h5.1 h5.2.1, fun e => acc_ne (h4 e), acc_ne h5.2.2.1, acc_ne h5.2.2.2.1, acc_ne h5.2.2.2.2⟩
theorem stop_end {m : ByteArray} (h : m ∈ [mark1 41, mark1 93, mark1 125, mark1 44, mark2 46 46, mark1 58]) (k : Nat) (r : List Tok) : Stop k (tm m :: r) := by
  have hd : ∀ m, m ∈ [mark1 41, mark1 93, mark1 125, mark1 44, mark2 46 46, mark1 58] → (m ≠ mark1 63 ∧ m ≠ mark2 61 62 ∧ (∀ b, b ∈ binTab → m ≠ b.1) ∧ m ≠ insideW) ∧ (m ≠ mark1 62 ∧ m ≠ mark2 62 61 ∧ m ≠ mark1 91 ∧ m ≠ mark1 64 ∧ m ≠ mark1 40) := by decide +kernel
  obtain ⟨⟨h1, h2, h3, h4⟩, h5⟩ := hd m h
  exact stop_tok r (fun _ => h1) (fun _ => h2) (fun b hb _ => h3 b hb) (fun _ => h4) h5
theorem stop_q (r : List Tok) : Stop 2 (tm (mark1 63) :: r) :=
  stop_tok r (fun h => by omega) (fun _ => by decide +kernel) (by decide +kernel) (fun _ => by decide +kernel) (by decide +kernel)
theorem stop_bin {b : ByteArray × Int × Nat} (h : b ∈ binTab) (r : List Tok) : Stop (b.2.2 + 1) (tm b.1 :: r) := by
  have hd : ∀ b, b ∈ binTab → (2 ≤ b.2.2 ∧ b.1 ≠ mark1 63 ∧ (b.2.2 + 1 ≤ 2 → b.1 ≠ mark2 61 62) ∧ (∀ c, c ∈ binTab → b.2.2 + 1 ≤ c.2.2 → b.1 ≠ c.1) ∧ b.1 ≠ insideW) ∧ (b.1 ≠ mark1 62 ∧ b.1 ≠ mark2 62 61 ∧ b.1 ≠ mark1 91 ∧ b.1 ≠ mark1 64 ∧ b.1 ≠ mark1 40) := by decide +kernel
  obtain ⟨⟨h1, h2, h3, h4, h5⟩, h6⟩ := hd b h
  exact stop_tok r (fun _ => h2) h3 h4 (fun _ => h5) h6
theorem stop_inside (r : List Tok) : Stop 10 (tw insideW :: r) :=
  stop_tok r (fun h => by omega) (fun h => by omega) (by decide +kernel) (fun h => by omega) (by decide +kernel)
theorem acc_tm {m : ByteArray} (h : vTok (tm m) = true) (r : List Tok) : acc m (tm m :: r) = some r := by
  simp only [acc]; rw [if_pos ⟨h, .inl rfl, rfl⟩]
theorem acc_tw {m : ByteArray} (h : vTok (tw m) = true) (r : List Tok) : acc m (tw m :: r) = some r := by
  simp only [acc]; rw [if_pos ⟨h, .inr rfl, rfl⟩]
theorem acc_tn (m s : ByteArray) (r : List Tok) : acc m (tn s :: r) = none := by
  simp only [acc]; rw [if_neg (fun h => by rcases h.2.1 with h | h <;> cases h)]
theorem acc_td (m : ByteArray) (n : Int) (r : List Tok) : acc m (td n :: r) = none := by
  simp only [acc]; rw [if_neg (fun h => by rcases h.2.1 with h | h <;> cases h)]
theorem tm_ok : ∀ m, m ∈ [mark1 40, mark1 41, mark1 123, mark1 125, mark1 91, mark1 93, mark1 58, mark2 46 46, mark1 63, mark1 44, mark1 64, mark1 33, mark1 126, mark1 45] → vTok (tm m) = true := by decide +kernel
theorem bin_ok : ∀ b, b ∈ binTab → vTok (tm b.1) = true := by decide +kernel
theorem inside_ok : vTok (tw insideW) = true := by decide +kernel
theorem oper_bin : ∀ b, b ∈ binTab → 3 ≤ b.2.2 → ∀ r, operP b.2.2 (tm b.1 :: r) = some (b.2.1, false, r) := by
  intro b hb hk r
  have key : ∀ (l : List (ByteArray × Int × Nat)), b ∈ l → (∀ c, c ∈ l → c.1 = b.1 → c = b) → (∀ c, c ∈ l → vTok (tm c.1) = true) → operL l b.2.2 (tm b.1 :: r) = some (b.2.1, r) := by
    intro l
    induction l with
    | nil => intro h; cases h
    | cons c l ih =>
      intro hbl hu hv
      simp only [operL]
      by_cases e : c.1 = b.1
      · have := hu c (by simp) e
        subst this
        rw [if_pos rfl, acc_tm (hv c (by simp))]
      · have hbl' : b ∈ l := by
          rcases List.mem_cons.1 hbl with h | h
          · subst h; exact absurd rfl e
          · exact h
        have hr := ih hbl' (fun d hd => hu d (by simp [hd])) (fun d hd => hv d (by simp [hd]))
        rw [acc_ne (t := tm b.1) (fun h => e h.symm), hr]
        split <;> rfl
  have hu : ∀ b, b ∈ binTab → ∀ c, c ∈ binTab → c.1 = b.1 → c = b := by decide +kernel
  unfold operP
  rw [key binTab hb (hu b hb) bin_ok]
def pk (k : Nat) : PK := if k = 1 then .W else if k = 2 then .I else if k = 14 then .P else .L k
def Bp (k : Nat) (T : List Tok) (e : Ex) : Prop := ∀ r, Stop k r → par (pk k) (T ++ r) = .ok e r
theorem par_L13 (r : List Tok) : par (.L 13) r = par .U r := by rw [par_eq]; simp only [stepP]; rw [if_pos (by omega)]
theorem lp_stop {k : Nat} {r : List Tok} (h : Stop k r) (hk : 3 ≤ k) (e : Ex) : par (.Lp k e) r = .ok e r := by
  rw [par_eq]
  simp only [stepP]
  have h1 : (if k = 9 then acc insideW r else none) = none := by
    split
    · exact h.ins (by omega)
    · rfl
  rw [h1, h.op k (Nat.le_refl _) hk]
theorem desc {T : List Tok} {e : Ex} {j : Nat} (h : Bp (j + 1) T e) (h1 : 1 ≤ j) (h2 : j ≤ 13) (h3 : j = 13 → ∀ r, acc (mark1 33) (T ++ r) = none ∧ acc (mark1 126) (T ++ r) = none ∧ acc (mark1 45) (T ++ r) = none) : Bp j T e := by
  intro r hr
  have hn := h r (hr.mono (Nat.le_succ j))
  by_cases j1 : j = 1
  · subst j1
    show par .W (T ++ r) = _
    have hn : par .I (T ++ r) = .ok e r := hn
    rw [par_eq]
    simp only [stepP, hn, PR.bind, hr.q (Nat.le_refl _)]
  by_cases j2 : j = 2
  · subst j2
    show par .I (T ++ r) = _
    have hn : par (.L 3) (T ++ r) = .ok e r := hn
    rw [par_eq]
    simp only [stepP, hn, PR.bind, hr.im (Nat.le_refl _)]
  by_cases j13 : j = 13
  · subst j13
    show par (.L 13) (T ++ r) = _
    have hn : par .P (T ++ r) = .ok e r := hn
    obtain ⟨a1, a2, a3⟩ := h3 rfl r
    rw [par_L13, par_eq]
    simp only [stepP, a1, a2, a3, hn]
  · have hp : pk j = .L j := by unfold pk; rw [if_neg j1, if_neg j2, if_neg (by omega)]
    have hp1 : pk (j + 1) = .L (j + 1) := by unfold pk; rw [if_neg (by omega), if_neg (by omega), if_neg (by omega)]
    rw [hp1] at hn
    rw [hp, par_eq]
    simp only [stepP]
    rw [if_neg (by omega), hn]
    simp only [PR.bind]
    exact lp_stop hr (by omega) e
theorem left_eq {T : List Tok} {e : Ex} {k : Nat} (h : Bp (k + 1) T e) (h1 : 3 ≤ k) (h2 : k ≤ 12) {r : List Tok} (hr : Stop (k + 1) r) : par (.L k) (T ++ r) = par (.Lp k e) r := by
  have hp1 : pk (k + 1) = .L (k + 1) := by unfold pk; rw [if_neg (by omega), if_neg (by omega), if_neg (by omega)]
  have hn := h r hr
  rw [hp1] at hn
  rw [par_eq]
  simp only [stepP]
  rw [if_neg (by omega), hn]
  rfl
theorem paren {T : List Tok} {e : Ex} (h : Bp 1 T e) : Bp 14 (tm (mark1 40) :: (T ++ [tm (mark1 41)])) e := by
  intro r hr
  show par .P _ = _
  rw [par_eq]
  simp only [stepP]
  unfold primP
  rw [List.cons_append, acc_tm (tm_ok _ (by simp))]
  have := h (tm (mark1 41) :: r) (stop_end (by simp) 1 r)
  have hp : pk 1 = .W := rfl
  rw [hp] at this
  simp only [List.append_assoc, List.singleton_append, this, PR.bind, acc_tm (tm_ok (mark1 41) (by simp))]
structure RT (e : Ex) : Prop where
  at_ : ∀ k, 1 ≤ k → k ≤ 14 → Bp k (tkAt k (e.op, toksE e)) e
  left : ∀ k, 3 ≤ k → k ≤ 12 → ∀ r, Stop (k + 1) r → par (.L k) (tkAt k (e.op, toksE e) ++ r) = par (.Lp k e) r
theorem rt_of {e : Ex} (k0 : Nat) (hk : levO e.op = k0) (h1 : 1 ≤ k0) (h14 : k0 ≤ 14) (hb : Bp k0 (toksE e) e) (hp : k0 = 14 → ∀ r, acc (mark1 33) (toksE e ++ r) = none ∧ acc (mark1 126) (toksE e ++ r) = none ∧ acc (mark1 45) (toksE e ++ r) = none)
    (hl : 3 ≤ k0 → k0 ≤ 12 → ∀ r, Stop (k0 + 1) r → par (.L k0) (toksE e ++ r) = par (.Lp k0 e) r) : RT e := by
  have plain : ∀ n k, k0 = k + n → 1 ≤ k → Bp k (toksE e) e := by
    intro n
    induction n with
    | zero => intro k e _; rw [Nat.add_zero] at e; subst e; exact hb
    | succ n ih => intro k hkn h1; exact desc (ih (k + 1) (by omega) (by omega)) h1 (by omega) (fun e => hp (by omega))
  have b1 : Bp 1 (toksE e) e := plain (k0 - 1) 1 (by omega) (Nat.le_refl _)
  have pr : ∀ n k, 14 = k + n → 1 ≤ k → Bp k (tm (mark1 40) :: (toksE e ++ [tm (mark1 41)])) e := by
    intro n
    induction n with
    | zero => intro k e _; have : k = 14 := by omega
              subst this; exact paren b1
    | succ n ih => intro k hkn h1; exact desc (ih (k + 1) (by omega) (by omega)) h1 (by omega) (fun e r => ⟨acc_ne (t := tm (mark1 40)) (by decide +kernel), acc_ne (t := tm (mark1 40)) (by decide +kernel), acc_ne (t := tm (mark1 40)) (by decide +kernel)⟩)
  have at_ : ∀ k, 1 ≤ k → k ≤ 14 → Bp k (tkAt k (e.op, toksE e)) e := by
    intro k g1 g2
    unfold tkAt
    simp only [hk]
    split
    · exact pr (14 - k) k (by omega) g1
    · exact plain (k0 - k) k (by omega) g1
  refine ⟨at_, fun k g1 g2 r hr => ?_⟩
  by_cases e0 : k = k0
  · subst e0
    have : tkAt k (e.op, toksE e) = toksE e := by unfold tkAt; simp only [hk]; rw [if_neg (by omega)]
    rw [this]
    exact hl g1 g2 r hr
  · have : tkAt k (e.op, toksE e) = tkAt (k + 1) (e.op, toksE e) := by
      unfold tkAt
      simp only [hk]
      by_cases g : k0 < k
      · rw [if_pos g, if_pos (by omega)]
      · rw [if_neg g, if_neg (by omega)]
    rw [this]
    exact left_eq (at_ (k + 1) (by omega) (by omega)) g1 g2 hr
end Go.Proofs.YteopfpebdalcoaaGreatDoor
