/-
  Expressions without arrays have the value of the expressions that they were made of. No program is in sight here. Constraints: what the laws count and ask. No program is in sight here.
-/
import Derived.Test.YthoebpnbhgmoiaaDoorIt7
import Derived.Test.YthoebpnbhgmoiaaDoorItv
set_option linter.unusedVariables false
set_option linter.unusedSimpArgs false
set_option linter.unusedSectionVars false
namespace Go.Proofs.YthoebpnbhgmoiaaDoor
open Go.RowKit
section
variable (spl : ByteArray → Option (ByteArray × Int)) (fs : List (ByteArray × Int))
theorem arr_I {s : ByteArray} (h : arrE fs s = 0) : 1 ≤ fszI fs s := by
  unfold arrE at h
  unfold fszI
  split at h
  · cases h
  · rename_i n hn
    rw [hn]
    split at h
    · cases h
    · show 1 ≤ n; omega
theorem SOk_of (hf : ∀ s, fszI fs s ≤ 8) (e : Ex) : errE e = 0 → exprC spl fs [] e = 0 → SOk fs e := by
  induction e using Ex.ind with
  | h o n s l ih =>
  intro he hc
  rw [exprC_zero] at hc
  obtain ⟨h1, h2⟩ := errE_node he
  obtain ⟨k1, k2, k3, k4, k5, k6, k7, k8⟩ := node_ok h1
  have hc0 := hc (.mk o n s l) (by rw [nodesE]; exact List.mem_cons_self ..)
  unfold nodeC at hc0
  have hlen : ∀ m : Int, o ≠ 23 → arity o = m → (l.length : Int) = m := fun m h23 hm => by
    unfold operB at k4
    rw [if_neg h23] at k4
    rw [of_decide_eq_true k4, hm]
  rw [SOk]
  refine ⟨fun ho => ⟨?_, hf s, k6 ho⟩, fun ho => ?_, fun ho => ?_, fun ho => ?_, fun ho h0 => ?_, (SOkL_mem fs).2 fun a ha => ih a ha (errL_mem h2 a ha) ((exprC_zero _ _ _ _).2 fun m hm => hc m (by rw [nodesE]; exact List.mem_cons_of_mem _ (nodesL_mem.2 ⟨a, ha, hm⟩)))⟩
  · rw [if_neg (show ¬ (Ex.mk o n s l).op = 2 from by show ¬ o = 2; omega), if_pos (show (Ex.mk o n s l).op = 3 ∨ (Ex.mk o n s l).op = 24 from ho)] at hc0
    exact arr_I fs hc0
  · have := hlen 1 (by omega) (by subst ho; decide)
    match l, this with
    | [a], _ => exact ⟨a, rfl⟩
  · have : (l.length : Int) = 0 := by
      rcases ho with ho | ho
      · exact hlen 0 (by omega) (by subst ho; decide)
      · exact hlen 0 (by omega) (by subst ho; decide)
    match l, this with
    | [], _ => rfl
  · have := k8 (by subst ho; decide)
    have h9 : (s.toList == (⟨#[]⟩ : ByteArray).toList) = true := by rw [this]; decide +kernel
    rw [str_eq] at h9
    simpa using h9
  · have := k5 ho
    rw [h0] at this
    revert this
    decide
theorem const_pos (e : Ex) : errE e = 0 → ∀ n, n ∈ nodesE e → n.op = 1 → 0 ≤ n.num := by
  induction e using Ex.ind with
  | h o m s l ih =>
  intro he n hn ho
  obtain ⟨h1, h2⟩ := errE_node he
  rw [nodesE] at hn
  rcases List.mem_cons.1 hn with rfl | hn
  · exact ((node_ok h1).2.2.1 ho).1
  · obtain ⟨a, ha, hn⟩ := nodesL_mem.1 hn
    exact ih a ha (errL_mem h2 a ha) n hn ho
def scalarI (e : Ex) : Ex × Int := if validE e ≠ 0 then (zeroE, validE e) else if exprC spl fs [] e ≠ 0 then (zeroE, exprC spl fs [] e) else if validE (scE fs e) ≠ 0 then (zeroE, 2) else (scE fs e, 0)
theorem valid_size {e : Ex} (h : validE e = 0) : esize e ≤ 400 ∧ edepth e ≤ 24 := by
  unfold validE at h
  split at h
  · cases h
  · rename_i hn
    have : ¬ (24 < edepth e ∨ 400 < esize e) := fun hh => hn ⟨h, hh⟩
    omega
theorem scalar_big {e : Ex} (hf : ∀ s, fszI fs s ≤ 8) (hv : validE e = 0) (hc : exprC spl fs [] e = 0) (hb : 400 < psE fs e ∨ 50000 ≤ rwE fs e) : scalarI spl fs e = (zeroE, 2) := by
  have hS := SOk_of spl fs hf e (validE_err hv) hc
  have h1 := ps_t fs e hS
  have h2 := rw_t fs e hS
  have h3 := sc_size fs e hS
  have h4 : validE (scE fs e) ≠ 0 := fun h => by have := (valid_size h).1; omega
  unfold scalarI
  rw [if_neg (by simpa using hv), if_neg (by simpa using hc), if_pos h4]
end
structure SmallF (fs : List (ByteArray × Int)) : Prop where
  sz : ∀ f, f ∈ fs → 0 ≤ f.2 ∧ f.2 ≤ 8 ∧ nameB f.1 = true
  nd : (fs.map (·.1)).Nodup
theorem fsz_mem {fs : List (ByteArray × Int)} {s : ByteArray} {n : Int} (h : fsz fs s = some n) : (s, n) ∈ fs := by
  unfold fsz at h
  obtain ⟨f, hf, rfl⟩ := Option.map_eq_some_iff.1 h
  have h1 := List.mem_of_find?_eq_some hf
  have h2 : f.1 = s := by simpa using List.find?_some hf
  rw [← h2]; exact h1
end Go.Proofs.YthoebpnbhgmoiaaDoor
namespace Go.Proofs.YthoebpnbhgmoiaaDoor
open Go.RowKit
def thinB (x : It) : Bool := decide (cnt x.ex 60 ≤ 60) && decide (x.ws.length ≤ 20) && decide (x.bef.length ≤ 20) && decide (x.aft.length ≤ 20) && decide (x.name.size ≤ 40) && decide (x.idx.size ≤ 40)
mutual
def cnL : List It → Int → Int → Int
  | [], k, _ => k
  | x :: r, k, n => if n < k then k else if thinB x = false then n + 1 else cnL r (k + cnX x (n - k)) n
def cnX : It → Int → Int
  | .mk _ _ _ _ _ l m _ _, n => cnL l l.length n + cnL m m.length n
end
theorem cnX_eq (x : It) (n : Int) : cnX x n = cnL x.items x.items.length n + cnL x.els x.els.length n := by cases x; rw [cnX]; rfl
theorem cnL_ge : ∀ (l : List It) (k n : Int), 0 ≤ k → k ≤ cnL l k n := by
  refine its_ind (fun k n _ => by rw [cnL]; exact Int.le_refl _) fun x r h1 h2 h3 k n hk => ?_
  rw [cnL]
  split
  · exact Int.le_refl _
  · split
    · omega
    · have e1 := h1 x.items.length (n - k) (by omega)
      have e2 := h2 x.els.length (n - k) (by omega)
      have e3 := h3 (k + cnX x (n - k)) n (by rw [cnX_eq]; omega)
      rw [cnX_eq] at e3 ⊢
      omega
theorem cnL_le : ∀ (l : List It) (k n : Int), 0 ≤ k → n ≤ 70 → cnL l k n + l.length ≤ k + 71 + 200 * (iszs l : Nat) := by
  refine its_ind (fun k n hk hn => ?_) fun x r h1 h2 h3 k n hk hn => ?_
  · rw [cnL, iszs]; simp only [List.length_nil]; omega
  · have hl := iszs_len (x :: r)
    have hz := isz_eq x
    rw [cnL, iszs]
    rw [iszs] at hl
    split
    · omega
    · split
      · omega
      · have e1 := h1 x.items.length (n - k) (by omega) (by omega)
        have e2 := h2 x.els.length (n - k) (by omega) (by omega)
        have g1 := cnL_ge x.items x.items.length (n - k) (by omega)
        have g2 := cnL_ge x.els x.els.length (n - k) (by omega)
        have e3 := h3 (k + cnX x (n - k)) n (by rw [cnX_eq]; omega) hn
        rw [cnX_eq] at e3 ⊢
        rw [List.length_cons]
        omega
theorem cnL_few (hc : ∀ e : Ex, cnt e 60 ≤ 60 → esize e ≤ 60) : ∀ (l : List It) (k n : Int), 0 ≤ k → cnL l k n ≤ n → (ibigs l : Int) ≤ 200 * (cnL l k n - k + l.length) := by
  refine its_ind (fun k n hk _ => ?_) fun x r h1 h2 h3 k n hk h => ?_
  · rw [cnL, ibigs]; simp only [List.length_nil]; omega
  · rw [cnL] at h ⊢
    by_cases hnk : n < k
    · rw [if_pos hnk] at h; omega
    · rw [if_neg hnk] at h ⊢
      by_cases ht : thinB x = false
      · rw [if_pos ht] at h; omega
      · rw [if_neg ht] at h ⊢
        have g1 := cnL_ge x.items x.items.length (n - k) (by omega)
        have g2 := cnL_ge x.els x.els.length (n - k) (by omega)
        have g3 := cnL_ge r (k + cnX x (n - k)) n (by rw [cnX_eq]; omega)
        have e3 := h3 (k + cnX x (n - k)) n (by rw [cnX_eq]; omega) h
        rw [cnX_eq] at g3 e3 h ⊢
        have e1 := h1 x.items.length (n - k) (by omega) (by omega)
        have e2 := h2 x.els.length (n - k) (by omega) (by omega)
        have ht : thinB x = true := by simpa using ht
        simp only [thinB, Bool.and_eq_true, decide_eq_true_eq] at ht
        have hx := hc x.ex ht.1.1.1.1.1
        rw [ibigs, ibig_eq, List.length_cons]
        omega
def smL : List Fd → List Fd → Bool
  | _, [] => true
  | p, f :: r => decide (0 ≤ f.size) && decide (f.size ≤ 8) && nameB f.name && p.all (fun g => !decide (g.name = f.name)) && smL (p ++ [f]) r
def smB (c : Cl) : Bool := decide (c.fields.length ≤ 20) && smL [] c.fields
theorem smL_ok : ∀ (r p : List Fd), smL p r = true → (∀ f, f ∈ r → 0 ≤ f.size ∧ f.size ≤ 8 ∧ nameB f.name = true) ∧ (r.map (·.name)).Nodup ∧ ∀ f, f ∈ r → ∀ g, g ∈ p → g.name ≠ f.name := by
  intro r
  induction r with
  | nil => intro p _; exact ⟨fun f hf => (by cases hf), List.nodup_nil, fun f hf => (by cases hf)⟩
  | cons a r ih =>
    intro p h
    rw [smL] at h
    simp only [Bool.and_eq_true, decide_eq_true_eq, List.all_eq_true, Bool.not_eq_true', decide_eq_false_iff_not] at h
    obtain ⟨⟨⟨⟨h1, h2⟩, h3⟩, h4⟩, h5⟩ := h
    obtain ⟨i1, i2, i3⟩ := ih _ h5
    refine ⟨fun f hf => ?_, ?_, fun f hf g hg => ?_⟩
    · rcases List.mem_cons.1 hf with rfl | hf
      · exact ⟨h1, h2, h3⟩
      · exact i1 f hf
    · rw [List.map_cons, List.nodup_cons]
      refine ⟨fun hm => ?_, i2⟩
      obtain ⟨f, hf, he⟩ := List.mem_map.1 hm
      exact i3 f hf a (by simp) he.symm
    · rcases List.mem_cons.1 hf with rfl | hf
      · exact h4 g hg
      · exact i3 f hf g (by simp [hg])
theorem smB_ok {c : Cl} (h : smB c = true) : c.fields.length ≤ 20 ∧ SmallF (fldS c) := by
  unfold smB at h
  rw [Bool.and_eq_true, decide_eq_true_eq] at h
  obtain ⟨h1, h2, -⟩ := smL_ok _ _ h.2
  refine ⟨h.1, ⟨fun f hf => ?_, ?_⟩⟩
  · unfold fldS at hf
    obtain ⟨g, hg, rfl⟩ := List.mem_map.1 hf
    exact h1 g hg
  · unfold fldS
    rw [List.map_map]; exact h2
end Go.Proofs.YthoebpnbhgmoiaaDoor
