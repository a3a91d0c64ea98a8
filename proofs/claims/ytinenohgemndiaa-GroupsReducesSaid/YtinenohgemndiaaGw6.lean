/-
  The program's levels.
-/
import Derived.Test.YtinenohgemndiaaGw5
import Derived.Test.YtinenohgemndiaaGs2
set_option linter.unusedVariables false
set_option linter.unusedSimpArgs false
set_option linter.unusedSectionVars false
namespace Go.Proofs.Ytinenohgemndiaa
open Go.RowKit
def KeysQ (σ : List (List V)) (r : Nat) : Out → List (List V) → Prop := fun o σ' => o = .ret (.fn 38 [.ptr σ.length 0]) ∧ σ' = σ ++ [[.mp r]]
theorem keys_fun (r : Nat) (σ : List (List V)) (hr : r < σ.length) : Fun G 25 [.mp r] σ (KeysQ σ r) := by
  refine fun_code Try.func25 k25 rfl fun hb hw => ?_
  unfold c25
  simp -dsimp -implicitDefEqProofs only [aw, slots0, V.copy, V.lend, V.lend1, V.cells, V.boxable, over, bldV, boundV, rowsOf, plains, V.plain, Nat.reduceLeDiff, cond_true, cond_false, implies_true, eq_self, ne_eq, reduceIte, reduceCtorEq, Nat.reduceBEq, Nat.reduceLT, Nat.reduceEqDiff, Nat.reduceAdd, Nat.reduceSub, Nat.reduceMul]
  have hbb : boxesBelow (σ ++ [[V.mp r]]).length (σ ++ [[V.mp r]]) = true := bb_push hb _ fun c hc => by rw [List.mem_singleton.1 hc]; simp [V.unders, V.under]; omega
  exact ⟨_, _, .refl _ _ _, .fn 38 [.ptr σ.length 0], rfl, (σ ++ [[V.mp r]]).length, by simp, by rw [List.take_length]; exact hbb, by simp [V.under, V.unders], by rw [List.take_length]; exact ⟨rfl, rfl⟩⟩
structure LV (σ Y : List (List V)) (N : Nat) (ks : List Nat) (P : Nat → List Nat) (g : Nat → Nat) (C : Nat → List Nat) (rest : List Nat) : Prop where
  pm : PM σ.length Y σ.length ks P g C
  len : Y.length = N + 1
  tk : Y.take σ.length = σ
  bb : boxesBelow Y.length Y = true
  rb : Y[N]? = some [.mapc false (kvOf rest fun _ => vbool true)]
  gN : ∀ k, k ∈ ks → g k ≠ N
  jN : σ.length < N
theorem LV.rest {σ Y : List (List V)} {N : Nat} {ks : List Nat} {P : Nat → List Nat} {g : Nat → Nat} {C : Nat → List Nat} {rest : List Nat} (H : LV σ Y N ks P g C rest) (r : List Nat) : LV σ (Y.set N [.mapc false (kvOf r fun _ => vbool true)]) N ks P g C r := by
  have hN : N < Y.length := by rw [H.len]; omega
  refine ⟨⟨?_, H.pm.jn, H.pm.nd, H.pm.out, H.pm.gn, H.pm.inj, fun k hk => ?_⟩, by rw [List.length_set]; exact H.len, by rw [take_set_ge (by have := H.jN; omega)]; exact H.tk, bb_set' H.bb ?_, List.getElem?_set_self hN, H.gN, H.jN⟩
  · rw [List.getElem?_set_ne (by have := H.jN; omega)]; exact H.pm.mp
  · rw [List.getElem?_set_ne (Ne.symm (H.gN k hk))]; exact H.pm.box k hk
  · simp only [V.unders, V.under, Bool.and_true]; exact underkv_of fun a ha => rfl
theorem LV.upd {σ Y : List (List V)} {N : Nat} {ks : List Nat} {P : Nat → List Nat} {g : Nat → Nat} {C : Nat → List Nat} {rest : List Nat} (H : LV σ Y N ks P g C rest) {i : Nat} (hi : i ∈ ks) (L D : List Nat) (hD : D.length = (C i).length) (hL : D.take L.length = L) :
    LV σ ((Y.set (g i) (vis D)).set σ.length [.mapc false (mput (.i (i : Int)) (.bsc (g i) L.length (C i).length) (kvOf ks fun k => .bsc (g k) (P k).length (C k).length))]) N ks (Ytinenohgemndiaa.upd P i L) g (Ytinenohgemndiaa.upd C i D) rest := by
  have hgl := H.pm.lt.2 i hi
  have hjl := H.pm.lt.1
  have hgj := (H.pm.gn i hi).2
  have hpm := H.pm.put (σ2 := (Y.set (g i) (vis D)).set σ.length [.mapc false (mput (.i (i : Int)) (.bsc (g i) L.length (C i).length) (kvOf ks fun k => .bsc (g k) (P k).length (C k).length))]) i (g i) L D
    (by rw [List.getElem?_set_self (by rw [List.length_set]; exact hjl), hD]) (fun k hk he => ⟨by
      rw [List.getElem?_set_ne (Ne.symm (H.pm.gn k hk).2), List.getElem?_set_ne (fun e => he (H.pm.inj k i hk hi e.symm))], fun e => he (H.pm.inj k i hk hi e)⟩)
    (by rw [List.getElem?_set_ne (Ne.symm hgj), List.getElem?_set_self hgl]) hL (H.pm.gn i hi).1 hgj
  have hg : Ytinenohgemndiaa.upd g i (g i) = g := by funext k; unfold Ytinenohgemndiaa.upd; split <;> simp_all
  rw [if_pos hi, hg] at hpm
  have hun := hpm.unders
  rw [show (kvOf ks fun k => V.bsc (g k) (Ytinenohgemndiaa.upd P i L k).length (Ytinenohgemndiaa.upd C i D k).length) = mput (.i (i : Int)) (.bsc (g i) L.length (C i).length) (kvOf ks fun k => .bsc (g k) (P k).length (C k).length) from by
    have h1 := hpm.mp
    rw [List.getElem?_set_self (by rw [List.length_set]; exact hjl)] at h1
    have h2 := Option.some.inj h1
    simp only [List.cons.injEq, V.mapc.injEq, and_true, true_and] at h2
    exact h2.symm, List.length_set, List.length_set] at hun
  refine ⟨hpm, by rw [List.length_set, List.length_set]; exact H.len, ?_, ?_, ?_, H.gN, H.jN⟩
  · rw [take_set_ge (Nat.le_refl _), take_set_ge (H.pm.gn i hi).1]; exact H.tk
  · rw [List.length_set, List.length_set]
    exact bb_set (bb_set H.bb (vis_unders _ _)) hun
  · rw [List.getElem?_set_ne (by have := H.jN; omega), List.getElem?_set_ne (H.gN i hi)]; exact H.rb
def PR (l : Prs) (rest : List Nat) (i : Nat) : List Nat := (preds l i).filter fun k => rest.contains k
theorem PR_free {l : Prs} {rest : List Nat} {i : Nat} : decide ((PR l rest i).length = 0) = free l rest i := by
  rw [Bool.eq_iff_iff, free_iff]
  unfold PR
  simp only [decide_eq_true_eq, List.length_eq_zero_iff, List.filter_eq_nil_iff, List.contains_iff_mem, preds_mem]
theorem PR_next {l : Prs} {rest lv : List Nat} (i : Nat) : keepN lv (PR l rest i) = PR l (rest.filter fun k => !lv.contains k) i := by
  unfold keepN PR
  rw [List.filter_filter]
  congr 1
  funext k
  rw [Bool.eq_iff_iff]
  simp [and_comm]
theorem filter_step (rest : List Nat) {lv : List Nat} {b : Nat} (h : b < lv.length) : (rest.filter fun k => !(lv.take b).contains k).filter (· ≠ at0 lv b) = rest.filter fun k => !(lv.take (b + 1)).contains k := by
  have e : lv[b]? = some (at0 lv b) := by unfold at0; rw [List.getElem?_eq_getElem h]; rfl
  rw [List.filter_filter]
  congr 1
  funext k
  rw [List.take_add_one, e, Bool.eq_iff_iff]
  simp only [Bool.and_eq_true, decide_eq_true_eq, Bool.not_eq_true', ← Bool.not_eq_true, List.contains_iff_mem, List.mem_append, Option.toList_some, List.mem_singleton]
  constructor
  · rintro ⟨h1, h2⟩ (h | h)
    · exact h2 h
    · exact h1 h
  · intro h; exact ⟨fun e => h (.inr e), fun e => h (.inl e)⟩
abbrev lrow (ls : List (List Nat)) : List (List D) := ls.map fun lv => [D.sl (irow lv)]
def levP (n : Nat) (l : Prs) : V := match lvls l n (List.range n) with | some ls => .tup [.d (dlls ls), .d (dint 0)] | none => .tup [.d (.sl []), .d (dint 10)]
theorem lev_no (n : Int) (l : Rw) (hl : l.length ≤ 1000000) (hv : validR n l = false) (σ : List (List V)) : Fun G 11 [.d (dint n), .d (drel l)] σ (RetV (.tup [.d (.sl []), .d (dint 1)]) σ) := by
  refine fun_code Try.func11 k11 rfl fun hb hw => ?_
  unfold c11
  simp -dsimp -implicitDefEqProofs only [aw, slots0, V.copy, V.lend, V.lend1, V.cells, V.boxable, over, bldV, boundV, rowsOf, plains, V.plain, Nat.reduceLeDiff, cond_true, cond_false, implies_true, eq_self, ne_eq, reduceIte, reduceCtorEq, Nat.reduceBEq, Nat.reduceLT, Nat.reduceEqDiff, Nat.reduceAdd, Nat.reduceSub, Nat.reduceMul]
  refine fun_ret (grvalid_fun n l hl _) ?_
  simp -dsimp -implicitDefEqProofs only [aw, slots0, V.copy, V.lend, V.lend1, V.cells, V.boxable, over, bldV, boundV, rowsOf, plains, V.plain, Nat.reduceLeDiff, cond_true, cond_false, implies_true, eq_self, ne_eq, reduceIte, reduceCtorEq, Nat.reduceBEq, Nat.reduceLT, Nat.reduceEqDiff, Nat.reduceAdd, Nat.reduceSub, Nat.reduceMul, hv]
  exact fin_ret hb (v := .tup _) rfl rfl List.take_length ⟨rfl, rfl⟩
set_option maxHeartbeats 8000000 in
theorem lev_fun (n : Nat) (l : Prs) (hn : n ≤ 64) (hl : ∀ a b, RL l a b → a < n ∧ b < n) (hll : l.length ≤ 1000000) (hv : validR n (l.map fun q => ((q.1 : Int), (q.2 : Int))) = true) (σ : List (List V)) : Fun G 11 [.d (dint n), .d (dprs l)] σ (RetV (levP n l) σ) := by
  refine fun_code Try.func11 k11 rfl fun hb hw => ?_
  unfold c11
  simp -dsimp -implicitDefEqProofs only [aw, slots0, V.copy, V.lend, V.lend1, V.cells, V.boxable, over, bldV, boundV, rowsOf, plains, V.plain, Nat.reduceLeDiff, cond_true, cond_false, implies_true, eq_self, ne_eq, reduceIte, reduceCtorEq, Nat.reduceBEq, Nat.reduceLT, Nat.reduceEqDiff, Nat.reduceAdd, Nat.reduceSub, Nat.reduceMul]
  refine fun_ret (grvalid_fun n _ (by simpa using hll) _) ?_
  simp -dsimp -implicitDefEqProofs only [aw, slots0, V.copy, V.lend, V.lend1, V.cells, V.boxable, over, bldV, boundV, rowsOf, plains, V.plain, Nat.reduceLeDiff, cond_true, cond_false, implies_true, eq_self, ne_eq, reduceIte, reduceCtorEq, Nat.reduceBEq, Nat.reduceLT, Nat.reduceEqDiff, Nat.reduceAdd, Nat.reduceSub, Nat.reduceMul, hv]
  refine fun_mono (pred_fun n l hn hl hll _) ?_
  rintro o X ⟨rfl, htk, hbb, ks, g, C, hP, hne⟩
  simp -dsimp -implicitDefEqProofs only [aw, slots0, V.copy, V.lend, V.lend1, V.cells, V.boxable, over, bldV, boundV, rowsOf, plains, V.plain, Nat.reduceLeDiff, cond_true, cond_false, implies_true, eq_self, ne_eq, reduceIte, reduceCtorEq, Nat.reduceBEq, Nat.reduceLT, Nat.reduceEqDiff, Nat.reduceAdd, Nat.reduceSub, Nat.reduceMul, retK]
  have hle := take_le htk
  refine awp_forK [6, 7, 24, 25] (fun (j : Nat) ρ τ => ρ = [(6, .mp σ.length), (7, .mp X.length), (24, vint .i64 n), (25, vint .i64 j)] ∧ τ = X ++ [[.mapc false (kvOf (List.range j) fun _ => vbool true)]]) n ⟨rfl, rfl⟩ ?_ _
  rintro j ρ' τ hj ⟨rfl, rfl⟩
  have hbx : ∀ r, boxesBelow (X ++ [[V.mapc false (kvOf r fun _ => vbool true)]]).length (X ++ [[V.mapc false (kvOf r fun _ => vbool true)]]) = true := fun r => bb_push hbb _ fun c hc => by
    rw [List.mem_singleton.1 hc]; simp only [V.unders, V.under, Bool.and_true]; exact underkv_of fun a ha => rfl
  by_cases hlt : j < n
  · have hmp := mput_out (fun _ => vbool true) j (vbool true) (List.range j) (by simp)
    have hup : upd (fun _ : Nat => vbool true) j (vbool true) = fun _ => vbool true := by funext i; unfold upd; split <;> rfl
    rw [hup, ← List.range_succ] at hmp
    simp -dsimp -implicitDefEqProofs only [aw, slots0, V.copy, V.lend, V.lend1, V.cells, V.boxable, over, bldV, boundV, rowsOf, plains, V.plain, Nat.reduceLeDiff, cond_true, cond_false, implies_true, eq_self, ne_eq, reduceIte, reduceCtorEq, Nat.reduceBEq, Nat.reduceLT, Nat.reduceEqDiff, Nat.reduceAdd, Nat.reduceSub, Nat.reduceMul, Int.ofNat_lt, hlt, decide_true, hmp, wrap_nat hlt (show n ≤ 9223372036854775807 by omega)]
    exact Nxt.same (by simp; omega) (hbx _) (by simp [slotsBelow, V.under]; omega) ⟨rfl, rfl⟩
  have e : n = j := by omega
  subst e
  have hjl := hP.lt.1
  have hPR : preds l = PR l (List.range n) := by
    funext i
    unfold PR
    rw [List.filter_eq_self.2]
    intro k hk
    rw [List.contains_iff_mem, List.mem_range]
    exact (hl _ _ (preds_mem.1 hk)).1
  have hLV0 : LV σ (X ++ [[V.mapc false (kvOf (List.range n) fun _ => vbool true)]]) X.length ks (PR l (List.range n)) g C (List.range n) :=
    ⟨hPR ▸ hP.push _, by simp, by rw [List.take_append_of_le_length hle]; exact htk, hbx _, by rw [box_at0]; rfl, fun k hk => by have := hP.lt.2 k hk; omega, hjl⟩
  have hksn : ∀ k ∈ ks, k < n := fun k hk => by
    obtain ⟨a, r, e⟩ : ∃ a r, preds l k = a :: r := by
      cases e : preds l k with
      | nil => exact absurd e (hne k hk)
      | cons a r => exact ⟨a, r, rfl⟩
    exact (hl a k (preds_mem.1 (by rw [e]; exact List.mem_cons_self ..))).2
  generalize hN : X.length = N at *
  generalize X ++ [[V.mapc false (kvOf (List.range n) fun _ => vbool true)]] = Y0 at hLV0
  clear hP hne hPR hbx htk hbb hjl
  simp -dsimp -implicitDefEqProofs only [aw, slots0, V.copy, V.lend, V.lend1, V.cells, V.boxable, over, bldV, boundV, rowsOf, plains, V.plain, Nat.reduceLeDiff, cond_true, cond_false, implies_true, eq_self, ne_eq, reduceIte, reduceCtorEq, Nat.reduceBEq, Nat.reduceLT, Nat.reduceEqDiff, Nat.reduceAdd, Nat.reduceSub, Nat.reduceMul, Int.ofNat_lt, Nat.lt_irrefl, decide_false]
  refine awp_forK [6, 7, 9] (fun (a : Nat) ρ τ => ∃ rest acc C, ρ = [(6, .mp σ.length), (7, .mp N), (9, .own 30 1 (lrow acc))] ∧ LV σ τ N ks (PR l rest) g C rest ∧ rest.length + a ≤ n ∧ acc.length ≤ a ∧ rest.Pairwise (· < ·) ∧ (∀ x ∈ rest, x < n) ∧ lvls l n (List.range n) = (lvls l (n - a) rest).map (acc ++ ·)) n ?_ ?_ _
  · exact ⟨List.range n, [], C, rfl, hLV0, by simp, Nat.le_refl _, List.pairwise_lt_range, fun x hx => List.mem_range.1 hx, by cases lvls l n (List.range n) <;> rfl⟩
  clear hLV0
  rintro a ρ' Y ha ⟨rest, acc, C', rfl, H, hra, hacc, hpw, hrn, hlv⟩
  have hkl : (kvOf rest fun _ => vbool true).length = rest.length := by simp [kvOf]
  have hrb := H.rb
  have hln9 : rest.length ≤ 1000000000 := by omega
  by_cases hr0 : rest = []
  · subst hr0
    have hls : lvls l (n - a) [] = some [] := by cases n - a <;> rfl
    rw [hls] at hlv
    have h0 : ¬ ((0 : Nat) : Int) > 0 := by omega
    have hle2 : levP n l = .tup [.d (.sl (lrow acc)), .d (dint 0)] := by
      unfold levP
      rw [hlv]
      simp [dlls, dints]
    rw [hle2]
    simp -dsimp -implicitDefEqProofs only [aw, slots0, V.copy, V.lend, V.lend1, V.cells, V.boxable, over, bldV, boundV, rowsOf, plains, V.plain, Nat.reduceLeDiff, cond_true, cond_false, implies_true, eq_self, ne_eq, reduceIte, reduceCtorEq, Nat.reduceBEq, Nat.reduceLT, Nat.reduceEqDiff, Nat.reduceAdd, Nat.reduceSub, Nat.reduceMul, hrb, hkl, List.length_nil, Nat.zero_le, h0, decide_false]
    exact fin_ret hb (v := .tup _) rfl rfl H.tk ⟨rfl, rfl⟩
  obtain ⟨m, hm⟩ : ∃ m, n - a = m + 1 := ⟨n - a - 1, by have := List.length_pos_iff.2 hr0; omega⟩
  have hgt : ((rest.length : Nat) : Int) > 0 := by have := List.length_pos_iff.2 hr0; omega
  rw [hm, lvls, if_neg hr0] at hlv
  simp only at hlv
  simp -dsimp -implicitDefEqProofs only [aw, slots0, V.copy, V.lend, V.lend1, V.cells, V.boxable, over, bldV, boundV, rowsOf, plains, V.plain, Nat.reduceLeDiff, cond_true, cond_false, implies_true, eq_self, ne_eq, reduceIte, reduceCtorEq, Nat.reduceBEq, Nat.reduceLT, Nat.reduceEqDiff, Nat.reduceAdd, Nat.reduceSub, Nat.reduceMul, hrb, hkl, hln9, hgt, decide_true]
  refine fun_mono (keys_fun N _ (by have := H.len; simp; omega)) ?_
  rintro o Z ⟨rfl, rfl⟩
  simp -dsimp -implicitDefEqProofs only [aw, slots0, V.copy, V.lend, V.lend1, V.cells, V.boxable, over, bldV, boundV, rowsOf, plains, V.plain, Nat.reduceLeDiff, cond_true, cond_false, implies_true, eq_self, ne_eq, reduceIte, reduceCtorEq, Nat.reduceBEq, Nat.reduceLT, Nat.reduceEqDiff, Nat.reduceAdd, Nat.reduceSub, Nat.reduceMul, retK]
  have hYl := H.len
  refine fun_ret (sorted_fun (Y.length + 1) N (kvOf rest fun _ => vbool true) (cst rest) _ (by rw [box_at]; rfl) (box_old hrb _) (fun p hp => ?_) (by rw [hkl]; omega) (List.Perm.of_eq ?_) ?_) ?_
  · obtain ⟨k, hk, rfl⟩ := List.mem_map.1 hp
    exact ⟨k, rfl, by have := hrn k hk; omega⟩
  · unfold kvOf; rw [List.map_map]; rfl
  · rw [List.pairwise_map]; exact hpw.imp fun h => by omega
  have hmm := fun x => box_old H.pm.mp x
  have hlk := H.pm.look
  have hPl : ∀ i, (PR l rest i).length ≤ 1000000 := fun i => Nat.le_trans (List.length_filter_le _ _) (Nat.le_trans (preds_len l i) hll)
  have hbb2 : ∀ (lv : List Nat), boxesBelow (Y ++ [[V.own 3 1 (irow lv)], [V.mp N]]).length (Y ++ [[V.own 3 1 (irow lv)], [V.mp N]]) = true := fun lv => bb_push H.bb _ fun c hc => by
    simp only [List.mem_cons, List.not_mem_nil, or_false] at hc
    rcases hc with rfl | rfl
    · rfl
    · simp [V.unders, V.under]; omega
  have hdi : dints (cst rest) = .sl (irow rest) := rfl
  rw [hdi]
  simp -dsimp -implicitDefEqProofs only [aw, slots0, V.copy, V.lend, V.lend1, V.cells, V.boxable, over, bldV, boundV, rowsOf, plains, V.plain, Nat.reduceLeDiff, cond_true, cond_false, implies_true, eq_self, ne_eq, reduceIte, reduceCtorEq, Nat.reduceBEq, Nat.reduceLT, Nat.reduceEqDiff, Nat.reduceAdd, Nat.reduceSub, Nat.reduceMul, List.length_map]
  refine awp_forKU [6, 7, 9, 10, 36, 37, 38] (fun (b : Nat) ρ τ => ρ = [(6, .mp σ.length), (7, .mp N), (9, .own 30 1 (lrow acc)), (10, .ptr Y.length 0), (36, .d (.sl (irow rest))), (37, vint .i64 rest.length), (38, vint .i64 b)] ∧ τ = Y ++ [[.own 3 1 (irow ((rest.take b).filter (free l rest)))], [.mp N]]) rest.length (.step (off := 0) 3 1 (box_at0 _) rfl (by rw [set_at0]; exact .refl _)) ⟨rfl, rfl⟩ ?_ _
  rintro b ρ' τ hb' ⟨rfl, rfl⟩
  by_cases hlt : b < rest.length
  · have hat := ints_at (cst_at hlt)
    have htk1 : (rest.take (b + 1)).filter (free l rest) = (rest.take b).filter (free l rest) ++ (if free l rest (at0 rest b) = true then [at0 rest b] else []) := by
      have e : rest[b]? = some (at0 rest b) := by unfold at0; rw [List.getElem?_eq_getElem hlt]; rfl
      rw [List.take_add_one, e, List.filter_append]
      congr 1
      cases hc : free l rest (at0 rest b) <;> simp [hc]
    have hfl : ((rest.take b).filter (free l rest)).length ≤ b := Nat.le_trans (List.length_filter_le _ _) (by simp; omega)
    generalize at0 rest b = i at hat htk1
    have hwb := wrap_nat hlt (show rest.length ≤ 9223372036854775807 by omega)
    have hfree := PR_free (l := l) (rest := rest) (i := i)
    have hcell : ∀ c : V, (Y ++ [[c], [V.mp N]])[Y.length]? = some [c] := fun c => box_at0 _
    have hPli := hPl i
    rcases hlk i with ⟨hnk, hPi, hmg⟩ | ⟨hik, hmg⟩
    · have hfr : free l rest i = true := by rw [← hfree, hPi]; rfl
      rw [hfr, if_pos rfl] at htk1
      simp -dsimp -implicitDefEqProofs only [aw, slots0, V.copy, V.lend, V.lend1, V.cells, V.boxable, over, bldV, boundV, rowsOf, plains, V.plain, Nat.reduceLeDiff, cond_true, cond_false, implies_true, eq_self, ne_eq, reduceIte, reduceCtorEq, Nat.reduceBEq, Nat.reduceLT, Nat.reduceEqDiff, Nat.reduceAdd, Nat.reduceSub, Nat.reduceMul, Int.ofNat_lt, hlt, decide_true, hat, iaK_some, hmm, hmg, hcell]
      refine onT_intro (by omega) ?_
      simp -dsimp -implicitDefEqProofs only [aw, slots0, V.copy, V.lend, V.lend1, V.cells, V.boxable, over, bldV, boundV, rowsOf, plains, V.plain, Nat.reduceLeDiff, cond_true, cond_false, implies_true, eq_self, ne_eq, reduceIte, reduceCtorEq, Nat.reduceBEq, Nat.reduceLT, Nat.reduceEqDiff, Nat.reduceAdd, Nat.reduceSub, Nat.reduceMul, hcell, hwb]
      have hrow : irow ((rest.take b).filter (free l rest)) ++ [[dint (i : Nat)]] = irow ((rest.take b).filter (free l rest) ++ [i]) := by simp
      rw [hrow, ← htk1]
      exact ⟨hlt, Nxt.same (by simp; omega) (hbb2 _) (by simp [slotsBelow, V.under]; omega) ⟨rfl, rfl⟩⟩
    · cases hfr : free l rest i
      · rw [hfr, if_neg (by simp), List.append_nil] at htk1
        rw [hfr] at hfree
        have hne0 : ¬ (((PR l rest i).length : Nat) : Int) = 0 := by have := of_decide_eq_false hfree; omega
        simp -dsimp -implicitDefEqProofs only [aw, slots0, V.copy, V.lend, V.lend1, V.cells, V.boxable, over, bldV, boundV, rowsOf, plains, V.plain, Nat.reduceLeDiff, cond_true, cond_false, implies_true, eq_self, ne_eq, reduceIte, reduceCtorEq, Nat.reduceBEq, Nat.reduceLT, Nat.reduceEqDiff, Nat.reduceAdd, Nat.reduceSub, Nat.reduceMul, Int.ofNat_lt, hlt, decide_true, hat, iaK_some, hmm, hmg, hcell, hne0, decide_false, hwb]
        rw [← htk1]
        exact Nxt.same (by simp; omega) (hbb2 _) (by simp [slotsBelow, V.under]; omega) ⟨rfl, rfl⟩
      · rw [hfr, if_pos rfl] at htk1
        rw [hfr] at hfree
        have he0 : (PR l rest i).length = 0 := of_decide_eq_true hfree
        simp -dsimp -implicitDefEqProofs only [aw, slots0, V.copy, V.lend, V.lend1, V.cells, V.boxable, over, bldV, boundV, rowsOf, plains, V.plain, Nat.reduceLeDiff, cond_true, cond_false, implies_true, eq_self, ne_eq, reduceIte, reduceCtorEq, Nat.reduceBEq, Nat.reduceLT, Nat.reduceEqDiff, Nat.reduceAdd, Nat.reduceSub, Nat.reduceMul, Int.ofNat_lt, hlt, decide_true, hat, iaK_some, hmm, hmg, hcell, he0, Int.natCast_zero, Int.cast_ofNat_Int]
        refine onT_intro (by omega) ?_
        simp -dsimp -implicitDefEqProofs only [aw, slots0, V.copy, V.lend, V.lend1, V.cells, V.boxable, over, bldV, boundV, rowsOf, plains, V.plain, Nat.reduceLeDiff, cond_true, cond_false, implies_true, eq_self, ne_eq, reduceIte, reduceCtorEq, Nat.reduceBEq, Nat.reduceLT, Nat.reduceEqDiff, Nat.reduceAdd, Nat.reduceSub, Nat.reduceMul, hcell, hwb]
        have hrow : irow ((rest.take b).filter (free l rest)) ++ [[dint (i : Nat)]] = irow ((rest.take b).filter (free l rest) ++ [i]) := by simp
        rw [hrow, ← htk1]
        exact ⟨hlt, Nxt.same (by simp; omega) (hbb2 _) (by simp [slotsBelow, V.under]; omega) ⟨rfl, rfl⟩⟩
  rw [List.take_of_length_le (Nat.le_of_not_lt hlt)]
  clear hlk hPl
  have hlvn : (rest.filter (free l rest)).length ≤ n := Nat.le_trans (List.length_filter_le _ _) (by omega)
  have hsub : ∀ x, x ∈ rest.filter (free l rest) → x ∈ rest := fun x hx => (List.mem_filter.1 hx).1
  generalize rest.filter (free l rest) = lv at hlv hlvn hsub ⊢
  have hcell : ∀ c : V, (Y ++ [[c], [V.mp N]])[Y.length]? = some [c] := fun c => box_at0 _
  by_cases hl0 : lv = []
  · subst hl0
    rw [if_pos rfl] at hlv
    have hle2 : levP n l = .tup [.d (.sl []), .d (dint 10)] := by
      unfold levP
      rw [hlv]
      rfl
    rw [hle2]
    simp -dsimp -implicitDefEqProofs only [aw, slots0, V.copy, V.lend, V.lend1, V.cells, V.boxable, over, bldV, boundV, rowsOf, plains, V.plain, Nat.reduceLeDiff, cond_true, cond_false, implies_true, eq_self, ne_eq, reduceIte, reduceCtorEq, Nat.reduceBEq, Nat.reduceLT, Nat.reduceEqDiff, Nat.reduceAdd, Nat.reduceSub, Nat.reduceMul, Int.ofNat_lt, hlt, decide_false, hcell, List.filter_nil, List.map_nil, List.length_nil, Int.natCast_zero, Int.cast_ofNat_Int, decide_true]
    exact fin_ret hb (v := .tup _) rfl rfl (by rw [List.take_append_of_le_length (by omega)]; exact H.tk) ⟨rfl, rfl⟩
  rw [if_neg hl0] at hlv
  have hlp : ¬ ((lv.length : Nat) : Int) = 0 := by have := List.length_pos_iff.2 hl0; omega
  simp -dsimp -implicitDefEqProofs only [aw, slots0, V.copy, V.lend, V.lend1, V.cells, V.boxable, over, bldV, boundV, rowsOf, plains, V.plain, Nat.reduceLeDiff, cond_true, cond_false, implies_true, eq_self, ne_eq, reduceIte, reduceCtorEq, Nat.reduceBEq, Nat.reduceLT, Nat.reduceEqDiff, Nat.reduceAdd, Nat.reduceSub, Nat.reduceMul, Int.ofNat_lt, hlt, decide_false, hcell, List.length_map, hlp]
  clear hlt hb' hgt hln9 hkl hlp
  have hNY : N < Y.length := by omega
  have htl : ∀ r, boxesBelow ((Y.set N [V.mapc false (kvOf r fun _ => vbool true)]) ++ [[V.own 3 1 (irow lv)], [V.mp N]]).length ((Y.set N [V.mapc false (kvOf r fun _ => vbool true)]) ++ [[V.own 3 1 (irow lv)], [V.mp N]]) = true := fun r => bb_push (H.rest r).bb _ fun c hc => by
    simp only [List.mem_cons, List.not_mem_nil, or_false] at hc
    rcases hc with rfl | rfl
    · rfl
    · simp [V.unders, V.under]; omega
  refine awp_forK [6, 7, 9, 10, 55, 56, 57] (fun (b : Nat) ρ τ => ρ = [(6, .mp σ.length), (7, .mp N), (9, .own 30 1 (lrow acc)), (10, .ptr Y.length 0), (55, .d (.sl (irow lv))), (56, vint .i64 lv.length), (57, vint .i64 b)] ∧ τ = (Y.set N [V.mapc false (kvOf (rest.filter fun k => !(lv.take b).contains k) fun _ => vbool true)]) ++ [[.own 3 1 (irow lv)], [.mp N]]) lv.length ?_ ?_ _
  · refine ⟨rfl, ?_⟩
    rw [List.filter_eq_self.2 (fun k _ => by simp), set_same hrb]
  rintro b ρ' τ hb' ⟨rfl, rfl⟩
  by_cases hlt : b < lv.length
  · have hat := ints_at (cst_at hlt)
    have hfi := filter_step rest hlt
    have hmd := mdel_kv (fun _ => vbool true) (at0 lv b) (rest.filter fun k => !(lv.take b).contains k) ((hpw.imp (fun h => Nat.ne_of_lt h)).filter _)
    rw [hfi] at hmd
    generalize at0 lv b = i at hat hmd
    have hwb := wrap_nat hlt (show lv.length ≤ 9223372036854775807 by omega)
    have hbx : ((Y.set N [V.mapc false (kvOf (rest.filter fun k => !(lv.take b).contains k) fun _ => vbool true)]) ++ [[V.own 3 1 (irow lv)], [V.mp N]])[N]? = some [V.mapc false (kvOf (rest.filter fun k => !(lv.take b).contains k) fun _ => vbool true)] := box_old (List.getElem?_set_self hNY) _
    have hse : ∀ x : List V, ((Y.set N [V.mapc false (kvOf (rest.filter fun k => !(lv.take b).contains k) fun _ => vbool true)]) ++ [[V.own 3 1 (irow lv)], [V.mp N]]).set N x = Y.set N x ++ [[V.own 3 1 (irow lv)], [V.mp N]] := fun x => by
      rw [List.set_append_left _ _ (by rw [List.length_set]; exact hNY), List.set_set]
    simp -dsimp -implicitDefEqProofs only [aw, slots0, V.copy, V.lend, V.lend1, V.cells, V.boxable, over, bldV, boundV, rowsOf, plains, V.plain, Nat.reduceLeDiff, cond_true, cond_false, implies_true, eq_self, ne_eq, reduceIte, reduceCtorEq, Nat.reduceBEq, Nat.reduceLT, Nat.reduceEqDiff, Nat.reduceAdd, Nat.reduceSub, Nat.reduceMul, Int.ofNat_lt, hlt, decide_true, hat, iaK_some, hbx, hmd, hse, hwb]
    exact Nxt.same (by simp; omega) (htl _) (by simp [slotsBelow, V.under]; omega) ⟨rfl, rfl⟩
  rw [List.take_of_length_le (Nat.le_of_not_lt hlt)]
  have H2 := H.rest (rest.filter fun k => !lv.contains k)
  have hPn : ∀ i, keepN lv (PR l rest i) = PR l (rest.filter fun k => !lv.contains k) i := fun i => PR_next i
  have hr2 : (rest.filter fun k => !lv.contains k).length < rest.length := by
    cases hlv' : lv with
    | nil => exact absurd hlv' hl0
    | cons x r => exact filter_lt (a := x) (hsub x (by rw [hlv']; exact List.mem_cons_self ..)) (by simp)
  have hpw2 : (rest.filter fun k => !lv.contains k).Pairwise (· < ·) := hpw.filter _
  have hrn2 : ∀ x ∈ rest.filter (fun k => !lv.contains k), x < n := fun x hx => hrn x (List.mem_filter.1 hx).1
  have hY2 : (Y.set N [V.mapc false (kvOf (rest.filter fun k => !lv.contains k) fun _ => vbool true)]).length = Y.length := List.length_set
  generalize rest.filter (fun k => !lv.contains k) = rest2 at *
  generalize Y.set N [V.mapc false (kvOf rest2 fun _ => vbool true)] = Y2 at *
  clear hrb hmm hbb2 hcell htl
  have hmm := fun x => box_old H2.pm.mp x
  obtain ⟨K, hK1, hK2⟩ : ∃ K : List Nat, K.Perm ks ∧ K.Pairwise fun x y => x ≤ y := ⟨ks.mergeSort, List.mergeSort_perm _ _, by
    have := List.pairwise_mergeSort (le := fun a b : Nat => decide (a ≤ b)) (fun a b c h1 h2 => by simp at *; omega) (fun a b => by simp; omega) ks
    exact this.imp fun h => of_decide_eq_true h⟩
  have hKn := hK1.nodup_iff.2 H2.pm.nd
  have hKl : K.length ≤ n := nodup_lt n K hKn fun x hx => hksn x (hK1.mem_iff.1 hx)
  simp -dsimp -implicitDefEqProofs only [aw, slots0, V.copy, V.lend, V.lend1, V.cells, V.boxable, over, bldV, boundV, rowsOf, plains, V.plain, Nat.reduceLeDiff, cond_true, cond_false, implies_true, eq_self, ne_eq, reduceIte, reduceCtorEq, Nat.reduceBEq, Nat.reduceLT, Nat.reduceEqDiff, Nat.reduceAdd, Nat.reduceSub, Nat.reduceMul, Int.ofNat_lt, hlt, decide_false]
  refine fun_ret (grsorted_fun σ.length _ (cst K) _ (hmm _) (fun p hp => ?_) ?_ ?_ ?_) ?_
  · obtain ⟨k, hk, rfl⟩ := List.mem_map.1 hp
    exact ⟨k, rfl, by have := hksn k hk; omega⟩
  · have := hK1.length_eq; simp only [kvOf, List.length_map]; omega
  · unfold kvOf; rw [List.map_map]; exact hK1.map _
  · rw [List.pairwise_map]; exact hK2.imp fun h => by omega
  have hdK : dints (cst K) = .sl (irow K) := rfl
  rw [hdK]
  simp -dsimp -implicitDefEqProofs only [aw, slots0, V.copy, V.lend, V.lend1, V.cells, V.boxable, over, bldV, boundV, rowsOf, plains, V.plain, Nat.reduceLeDiff, cond_true, cond_false, implies_true, eq_self, ne_eq, reduceIte, reduceCtorEq, Nat.reduceBEq, Nat.reduceLT, Nat.reduceEqDiff, Nat.reduceAdd, Nat.reduceSub, Nat.reduceMul, List.length_map]
  refine awp_forK [6, 7, 9, 10, 65, 66, 67] (fun (b : Nat) ρ τ => ∃ Z C2, ρ = [(6, .mp σ.length), (7, .mp N), (9, .own 30 1 (lrow acc)), (10, .ptr Y.length 0), (65, .d (.sl (irow K))), (66, vint .i64 K.length), (67, vint .i64 b)] ∧ τ = Z ++ [[.own 3 1 (irow lv)], [.mp N]] ∧ LV σ Z N ks (fun i => if i ∈ K.take b then keepN lv (PR l rest i) else PR l rest i) g C2 rest2) K.length ?_ ?_ _
  · exact ⟨Y2, C', rfl, rfl, by simpa using H2⟩
  clear hb' hlt H2 hmm
  rintro b ρ' τ hb' ⟨Z, C2, rfl, rfl, HZ⟩
  have hZl := HZ.len
  have hZY : Z.length = Y.length := by omega
  by_cases hlt : b < K.length
  · have hat := ints_at (cst_at hlt)
    have e : K[b]? = some (at0 K b) := by unfold at0; rw [List.getElem?_eq_getElem hlt]; rfl
    have hik : at0 K b ∈ ks := hK1.mem_iff.1 (List.mem_of_getElem? e)
    have hnot : at0 K b ∉ K.take b := fun h => by
      have h1 : K = K.take b ++ K.drop b := (List.take_append_drop b K).symm
      rw [h1] at hKn
      have h2 := (List.nodup_append.1 hKn).2.2 _ h (at0 K b) (by
        rw [List.drop_eq_getElem_cons hlt]
        have : K[b] = at0 K b := by rw [List.getElem?_eq_getElem hlt] at e; exact Option.some.inj e
        rw [this]; exact List.mem_cons_self ..)
      exact h2 rfl
    have hPs : (upd (fun i => if i ∈ K.take b then keepN lv (PR l rest i) else PR l rest i) (at0 K b) (keepN lv (PR l rest (at0 K b)))) = fun i => if i ∈ K.take (b + 1) then keepN lv (PR l rest i) else PR l rest i := by
      funext i
      rw [List.take_add_one, e]
      unfold upd
      by_cases hi : i = at0 K b
      · subst hi; rw [if_pos rfl, if_pos (by simp)]
      · rw [if_neg hi]
        simp only [Option.toList_some, List.mem_append, List.mem_singleton, hi, or_false]
    generalize at0 K b = i at *
    have hPi : (if i ∈ K.take b then keepN lv (PR l rest i) else PR l rest i) = PR l rest i := if_neg hnot
    have hwb := wrap_nat hlt (show K.length ≤ 9223372036854775807 by omega)
    have hmmZ := fun x => box_old HZ.pm.mp x
    have hbox := HZ.pm.box i hik
    have hgl := HZ.pm.lt.2 i hik
    have hmg : mget (.i (i : Int)) (kvOf ks fun k => V.bsc (g k) (if k ∈ K.take b then keepN lv (PR l rest k) else PR l rest k).length (C2 k).length) = some (.bsc (g i) (PR l rest i).length (C2 i).length) := by
      rw [mget_kv, if_pos hik, hPi]
    simp only [hPi] at hbox
    have hPl : (PR l rest i).length ≤ 1000000 := Nat.le_trans (List.length_filter_le _ _) (Nat.le_trans (preds_len l i) hll)
    simp -dsimp -implicitDefEqProofs only [aw, slots0, V.copy, V.lend, V.lend1, V.cells, V.boxable, over, bldV, boundV, rowsOf, plains, V.plain, Nat.reduceLeDiff, cond_true, cond_false, implies_true, eq_self, ne_eq, reduceIte, reduceCtorEq, Nat.reduceBEq, Nat.reduceLT, Nat.reduceEqDiff, Nat.reduceAdd, Nat.reduceSub, Nat.reduceMul, Int.ofNat_lt, hlt, decide_true, hat, iaK_some, hmmZ, hmg]
    refine fun_mono (delfunc_fun (g i) Y.length (PR l rest i) (C2 i) lv (by omega) hPl _ (box_old hbox.1 _) hbox.2 (by unfold LvB; rw [← hZY]; exact box_at0 _) (by omega)) ?_
    rintro o W ⟨rfl, C3, hc1, hc2, rfl⟩
    have hse1 : (Z ++ [[V.own 3 1 (irow lv)], [V.mp N]]).set (g i) (vis C3) = Z.set (g i) (vis C3) ++ [[V.own 3 1 (irow lv)], [V.mp N]] := List.set_append_left _ _ hgl
    have hjl := HZ.pm.lt.1
    have hgj := (HZ.pm.gn i hik).2
    have hbj : (Z.set (g i) (vis C3) ++ [[V.own 3 1 (irow lv)], [V.mp N]])[σ.length]? = some [.mapc false (kvOf ks fun k => V.bsc (g k) (if k ∈ K.take b then keepN lv (PR l rest k) else PR l rest k).length (C2 k).length)] := box_old (by rw [List.getElem?_set_ne hgj]; exact HZ.pm.mp) _
    have hse2 : ∀ x : List V, (Z.set (g i) (vis C3) ++ [[V.own 3 1 (irow lv)], [V.mp N]]).set σ.length x = (Z.set (g i) (vis C3)).set σ.length x ++ [[V.own 3 1 (irow lv)], [V.mp N]] := fun x => List.set_append_left _ _ (by rw [List.length_set]; exact hjl)
    rw [hse1]
    simp -dsimp -implicitDefEqProofs only [aw, slots0, V.copy, V.lend, V.lend1, V.cells, V.boxable, over, bldV, boundV, rowsOf, plains, V.plain, Nat.reduceLeDiff, cond_true, cond_false, implies_true, eq_self, ne_eq, reduceIte, reduceCtorEq, Nat.reduceBEq, Nat.reduceLT, Nat.reduceEqDiff, Nat.reduceAdd, Nat.reduceSub, Nat.reduceMul, retK, hbj, hse2, hwb]
    have HN := HZ.upd hik (keepN lv (PR l rest i)) C3 hc1 hc2
    rw [hPs] at HN
    have hbbN := bb_push HN.bb [[V.own 3 1 (irow lv)], [V.mp N]] fun c hc => by
      simp only [List.mem_cons, List.not_mem_nil, or_false] at hc
      rcases hc with rfl | rfl
      · rfl
      · simp [V.unders, V.under]; omega
    exact ⟨hlt, Nxt.same (by simp; omega) hbbN (by simp [slotsBelow, V.under]; omega) ⟨_, _, rfl, rfl, HN⟩⟩
  · have hcell : ∀ c : V, (Z ++ [[c], [V.mp N]])[Y.length]? = some [c] := fun c => by rw [← hZY]; exact box_at0 _
    have hPf : (fun i => if i ∈ K.take b then keepN lv (PR l rest i) else PR l rest i) = PR l rest2 := by
      funext i
      rw [List.take_of_length_le (Nat.le_of_not_lt hlt)]
      split
      · exact hPn i
      · rename_i hni
        have h0 := H.pm.out i (fun h => hni (hK1.mem_iff.2 h))
        rw [← hPn i, h0]; rfl
    rw [hPf] at HZ
    have hrow : lrow acc ++ [[D.sl (irow lv)]] = lrow (acc ++ [lv]) := by simp
    simp -dsimp -implicitDefEqProofs only [aw, slots0, V.copy, V.lend, V.lend1, V.cells, V.boxable, over, bldV, boundV, rowsOf, plains, V.plain, Nat.reduceLeDiff, cond_true, cond_false, implies_true, eq_self, ne_eq, reduceIte, reduceCtorEq, Nat.reduceBEq, Nat.reduceLT, Nat.reduceEqDiff, Nat.reduceAdd, Nat.reduceSub, Nat.reduceMul, Int.ofNat_lt, hlt, decide_false, hcell]
    refine onT_intro (by omega) ?_
    simp -dsimp -implicitDefEqProofs only [aw, slots0, V.copy, V.lend, V.lend1, V.cells, V.boxable, over, bldV, boundV, rowsOf, plains, V.plain, Nat.reduceLeDiff, cond_true, cond_false, implies_true, eq_self, ne_eq, reduceIte, reduceCtorEq, Nat.reduceBEq, Nat.reduceLT, Nat.reduceEqDiff, Nat.reduceAdd, Nat.reduceSub, Nat.reduceMul, hrow]
    refine ⟨by omega, Nxt.drop (by omega) HZ.bb (by simp [slotsBelow, V.under]; omega) ⟨rest2, acc ++ [lv], C2, rfl, HZ, by omega, by simp; omega, hpw2, hrn2, ?_⟩⟩
    rw [hlv, show n - (a + 1) = m by omega]
    cases lvls l m rest2 with
    | none => rfl
    | some x => simp
end Go.Proofs.Ytinenohgemndiaa
