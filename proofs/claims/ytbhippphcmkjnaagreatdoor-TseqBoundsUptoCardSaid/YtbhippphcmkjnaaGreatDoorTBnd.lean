/-
  The law TseqBounds: possible, and the law's walk.
-/
import Derived.Test.YtbhippphcmkjnaaGreatDoorTVal
set_option linter.unusedVariables false
set_option linter.unusedSimpArgs false
namespace Go.Proofs.YtbhippphcmkjnaaGreatDoor
open Go.RowKit

abbrev vbs (L : List Bool) : List V := L.map fun b => V.d (.lit (.bool b))
abbrev dbs (L : List Bool) : List (List D) := L.map fun b => [D.lit (.bool b)]
theorem vbs_set {L : List Bool} {n : Nat} (h : n < L.length) (b : Bool) : List.take n (vbs L) ++ (V.d (.lit (.bool b)) :: List.drop (n + 1) (vbs L)) = vbs (L.set n b) := by
  unfold vbs
  rw [List.set_eq_take_append_cons_drop, if_pos h, List.map_append, List.map_cons, List.map_take, List.map_drop]
theorem vbs_get {L : List Bool} {n : Nat} (h : n < L.length) : (vbs L)[n]? = some (V.d (.lit (.bool L[n]))) := by
  simp [vbs, h]
theorem vbs_unders (k : Nat) (L : List Bool) : V.unders k (vbs L) = true := V.unders_of fun i hi => by simp [vbs, V.under]
theorem vbs_pk {L : List Bool} {n : Nat} (h : n < L.length) : packV false (List.take 1 (List.drop n (vbs L))) = some (V.d (.lit (.bool L[n]))) := by
  have : List.take 1 (List.drop n (vbs L)) = [V.d (.lit (.bool L[n]))] := by
    rw [List.drop_eq_getElem_cons (by simpa [vbs] using h)]
    simp [vbs]
  rw [this]; rfl
theorem vbs_rep (n : Nat) : List.replicate n (V.d (.lit (.bool false))) = vbs (List.replicate n false) := by simp [vbs]
theorem frz_bools {σ : List (List V)} {k i : Nat} {L : List Bool} (hi : k ≤ i) (hc : σ[i]? = some (vbs L)) : FrzV σ k (.bsl i 0 L.length 1) (.d (.sl (dbs L))) := by
  refine .d (.bsl i 0 L.length 1 (vbs L) (dbs L) hi hc (by simp) (fun r hr => ?_) (by simp) (fun r j hr hj => ?_))
  · obtain ⟨b, -, rfl⟩ := List.mem_map.1 hr; rfl
  · have hr' : r < L.length := by simpa using hr
    have hj0 : j = 0 := by simpa using hj
    subst hj0
    simp only [List.getElem_map, List.getElem_cons_zero, Nat.zero_add, Nat.mul_one, Nat.add_zero]
    rw [List.getD_eq_getElem?_getD, vbs_get hr', Option.getD_some]
    exact .d _

theorem shift_last {n0 : Nat} {ρ : Slots} {σ l : List (List V)} (ρ2 : Slots) (hn : n0 ≤ σ.length) (hb : boxesBelow σ.length σ = true) (hf : ∀ p, p ∈ ρ2 → FrzV (σ ++ l) σ.length (get ρ p.1) p.2) : Shift n0 ρ (σ ++ l) ρ2 σ := by
  obtain ⟨ρ3, σ3, h1, rfl, rfl⟩ := NxtS.frz (R := fun ρ' σ' => ρ' = ρ2 ∧ σ' = σ) ρ2 hn hb hf ⟨rfl, rfl⟩
  exact h1
theorem set_or {L : List Bool} {n m : Nat} {b : Bool} (h : (L.set n b)[m]? = some true) (hn : n < L.length) : (m = n ∧ b = true) ∨ L[m]? = some true := by
  by_cases e : n = m
  · subst e; rw [List.getElem?_set_self hn] at h; exact .inl ⟨rfl, by simpa using h⟩
  · rw [List.getElem?_set_ne e] at h; exact .inr h
theorem set_keep_or {L : List Bool} {n m : Nat} (hn : n < L.length) {b : Bool} (h : L[m]? = some true) : (L.set n (L[n] || b))[m]? = some true := by
  by_cases e : n = m
  · subst e
    have hl := (List.getElem?_eq_some_iff.1 h).2
    rw [List.getElem?_set_self hn, hl]; rfl
  · rw [List.getElem?_set_ne e]; exact h
/-- Which lengths from lo to hi there are. -/
structure NP (lo hi : Nat) (L : List Bool) : Prop where
  len : L.length = 401
  bd : ∀ n : Nat, L[n]? = some true → lo ≤ n ∧ n ≤ hi
  lo : L[lo]? = some true
  hi : L[hi]? = some true
def PosOK (s : Ts) (L : List Bool) : Prop := ∃ lo hi : Nat, lenT false s = lo ∧ lenT true s = hi ∧ NP lo hi L
theorem PosOK.len {s : Ts} {L : List Bool} (h : PosOK s L) : L.length = 401 := by obtain ⟨_, _, _, _, h⟩ := h; exact h.len
/-- What is marked so far, and two that are marked as soon as P and Q hold. -/
structure DI (lo hi : Nat) (P Q : Prop) (L : List Bool) : Prop where
  len : L.length = 401
  bd : ∀ n : Nat, L[n]? = some true → lo ≤ n ∧ n ≤ hi
  lo : P → L[lo]? = some true
  hi : Q → L[hi]? = some true
theorem DI.imp {lo hi : Nat} {P Q P' Q' : Prop} {L : List Bool} (h : DI lo hi P Q L) (h1 : P' → P) (h2 : Q' → Q) : DI lo hi P' Q' L := ⟨h.len, h.bd, fun hp => h.lo (h1 hp), fun hq => h.hi (h2 hq)⟩
theorem DI.done {lo hi : Nat} {P Q : Prop} {L : List Bool} (h : DI lo hi P Q L) (h1 : P) (h2 : Q) : NP lo hi L := ⟨h.len, h.bd, h.lo h1, h.hi h2⟩
def RetP (s : Ts) (σ : List (List V)) : Out → List (List V) → Prop := fun o σ' => ∃ L, o = .ret (.d (.sl (dbs L))) ∧ σ' = σ ∧ PosOK s L
theorem len_arg {s a : Ts} (hg : GoodT s) (ha : a ∈ s.args) : lenT true a ≤ lenT true s := by
  obtain ⟨f1, f2, f3, f4, f5, f6, f7, f8⟩ := shape_facts hg.shape
  rw [lenT_eq true s]
  unfold lenF
  simp only [if_true]
  have hA : ∀ b, b ∈ s.args → 1 ≤ lenT true b := fun b hb => by have := len_bd b (hg.arg hb); omega
  by_cases o2 : s.op = 2
  · rw [if_pos o2]
    obtain ⟨g1, g2, g3, g4⟩ := f2 o2
    match hl : s.args, g1 with
    | [x, y], _ =>
    rw [hl] at ha hA
    have hx := hA x (by simp)
    have hy := hA y (by simp)
    simp only [List.map_cons, List.map_nil, List.getD_cons_zero, List.getD_cons_succ]
    rcases List.mem_cons.1 ha with e | e
    · subst e; omega
    · have : a = y := by simpa using e
      subst this; omega
  rw [if_neg o2]
  by_cases o3 : s.op = 3
  · rw [if_pos o3]
    obtain ⟨g1, g2, g3, g4⟩ := f3 o3
    match hl : s.args, g1 with
    | [x], _ =>
    rw [hl] at ha hA
    have : a = x := by simpa using ha
    subst this
    have hx := hA a (by simp)
    simp only [List.map_cons, List.map_nil, List.getD_cons_zero]
    have := Int.mul_le_mul_of_nonneg_left (show (1 : Int) ≤ s.hi by omega) (show 0 ≤ lenT true a by omega)
    omega
  rw [if_neg o3]
  have hmm : ∀ h : s.args.map (lenT true) ≠ [], lenT true a ≤ maxL (s.args.map (lenT true)) := fun h => (maxL_bd h).2 _ (List.mem_map_of_mem ha)
  have hne : s.args.map (lenT true) ≠ [] := fun h => by
    have : s.args = [] := by simpa using h
    rw [this] at ha; cases ha
  by_cases o4 : s.op = 4
  · rw [if_pos o4]; exact hmm hne
  rw [if_neg o4]
  by_cases o5 : s.op = 5
  · rw [if_pos o5]; exact hmm hne
  rw [if_neg o5]
  by_cases o67 : s.op = 6 ∨ s.op = 7
  · rw [if_pos o67]
    have g1 := f5 o67
    match hl : s.args, g1 with
    | [x], _ =>
    rw [hl] at ha
    have : a = x := by simpa using ha
    subst this
    simp
  · have := f1 (by omega)
    rw [List.eq_nil_of_length_eq_zero this] at ha; cases ha
theorem ret_pos {s : Ts} {f : FuncId} {args : List V} {σ : List (List V)} {K P : V → List (List V) → Prop} {c : Tag K} {d : Tag P} (h : Fun G f args σ (RetP s σ)) (hk : ∀ L, PosOK s L → K (.d (.sl (dbs L))) σ) : FunT G f args σ K P c d :=
  fun_mono h fun o σ' ⟨L, e1, e2, hL⟩ => by subst e1; subst e2; exact hk L hL
theorem set_true {L : List Bool} {n m : Nat} (h : (L.set n true)[m]? = some true) (hn : n < L.length) : m = n ∨ L[m]? = some true := by
  by_cases e : n = m
  · exact .inl e.symm
  · rw [List.getElem?_set_ne e] at h; exact .inr h
/-- What is marked of two lists of marks. -/
structure OrI (F S N : List Bool) (lo hi a b : Nat) : Prop where
  len : N.length = 401
  bd : ∀ n : Nat, N[n]? = some true → lo ≤ n ∧ n ≤ hi
  one : ∀ x : Nat, F[x]? = some true → (x < a ∨ x = a ∧ 0 < b) → N[x]? = some true
  two : ∀ y : Nat, S[y]? = some true → (0 < a ∨ y < b) → N[y]? = some true
structure AndI (F S N : List Bool) (lo hi a b : Nat) : Prop where
  len : N.length = 401
  bd : ∀ n : Nat, N[n]? = some true → lo ≤ n ∧ n ≤ hi
  both : ∀ x y : Nat, F[x]? = some true → S[y]? = some true → (x < a ∨ x = a ∧ y < b) → N[max x y]? = some true
theorem set_keep {L : List Bool} {n m : Nat} (h : L[m]? = some true) : (L.set n true)[m]? = some true := by
  by_cases e : n = m
  · subst e; rw [List.getElem?_set_self (List.getElem?_eq_some_iff.1 h).1]
  · rw [List.getElem?_set_ne e]; exact h
set_option maxHeartbeats 4000000 in
theorem possible_fun (s : Ts) : ∀ (hs : tbig s ≤ 1000000), validT s = 0 → lenT true s ≤ 400 → ∀ σ, Fun G 20 [vts s] σ (RetP s σ) := by
  induction s using Ts.ind with
  | h s ih =>
  intro hs h0 h400 σ
  have hg := GoodT.of h0 hs
  obtain ⟨f1, f2, f3, f4, f5, f6, f7, f8⟩ := shape_facts hg.shape
  have hln := tbig_len s
  have q0 := lenT_eq false s
  have q1 := lenT_eq true s
  simp only [Bool.false_eq_true, if_false, if_true] at q0 q1
  have hbd := len_bd s hg
  refine fun_code Tryz.func20 k20 (by simp only [vts_eq]; rfl) fun hb hw => ?_
  unfold c20
  have out : ∀ (L : List Bool), PosOK s L → fin σ.length rs20 (RetP s σ) .ret [(2, .bsl (σ.length + 1) 0 401 1)] (σ ++ [boxT s, vbs L]) := fun L hL => by
    refine fin_frz [(2, .d (.sl (dbs L)))] hb List.take_left (fun p hp => ?_) rfl rfl ⟨L, rfl, rfl, hL⟩
    have : p = (2, .d (.sl (dbs L))) := by simpa using hp
    subst this
    have hl := hL.len
    rw [← hl]
    exact frz_bools (i := σ.length + 1) (by omega) (by rw [List.getElem?_append_right (by omega)]; simp)
  refine awp_mid [(1, .ptr σ.length 0)] (σ ++ [boxT s]) ?_ ?_
  · simp -dsimp -implicitDefEqProofs only [aw, slots0, V.copy, V.lend, V.lend1, V.cells, V.boxable, over, bldV, boundV, rowsOf, plains, V.plain, Nat.reduceLeDiff, cond_true, cond_false, implies_true, eq_self, ne_eq, reduceIte, reduceCtorEq, Nat.reduceBEq, Nat.reduceLT, Nat.reduceEqDiff, Nat.reduceAdd, Nat.reduceSub, Nat.reduceMul, vts_eq]
  refine awp_mid [(1, .ptr σ.length 0), (23, vbool false)] (σ ++ [boxT s]) ?_ ?_
  · simp -dsimp -implicitDefEqProofs only [aw, slots0, V.copy, V.lend, V.lend1, V.cells, V.boxable, over, bldV, boundV, rowsOf, plains, V.plain, Nat.reduceLeDiff, cond_true, cond_false, implies_true, eq_self, ne_eq, reduceIte, reduceCtorEq, Nat.reduceBEq, Nat.reduceLT, Nat.reduceEqDiff, Nat.reduceAdd, Nat.reduceSub, Nat.reduceMul]
    refine fun_ret (by simpa only [vts_eq] using rvalid39_fun s hs _) ?_
    simp -dsimp -implicitDefEqProofs only [aw, slots0, V.copy, V.lend, V.lend1, V.cells, V.boxable, over, bldV, boundV, rowsOf, plains, V.plain, Nat.reduceLeDiff, cond_true, cond_false, implies_true, eq_self, ne_eq, reduceIte, reduceCtorEq, Nat.reduceBEq, Nat.reduceLT, Nat.reduceEqDiff, Nat.reduceAdd, Nat.reduceSub, Nat.reduceMul, h0, Int.reduceEq, decide_true, decide_false]
  refine awp_mid [(1, .ptr σ.length 0), (3, .bsl (σ.length + 1) 0 401 1)] (σ ++ [boxT s, vbs (List.replicate 401 false)]) ?_ ?_
  · simp -dsimp -implicitDefEqProofs only [aw, slots0, V.copy, V.lend, V.lend1, V.cells, V.boxable, over, bldV, boundV, rowsOf, plains, V.plain, Nat.reduceLeDiff, cond_true, cond_false, implies_true, eq_self, ne_eq, reduceIte, reduceCtorEq, Nat.reduceBEq, Nat.reduceLT, Nat.reduceEqDiff, Nat.reduceAdd, Nat.reduceSub, Nat.reduceMul]
    refine onT_intro ⟨by omega, by omega⟩ ?_
    simp -dsimp -implicitDefEqProofs only [aw, slots0, V.copy, V.lend, V.lend1, V.cells, V.boxable, over, bldV, boundV, rowsOf, plains, V.plain, Nat.reduceLeDiff, cond_true, cond_false, implies_true, eq_self, ne_eq, reduceIte, reduceCtorEq, Nat.reduceBEq, Nat.reduceLT, Nat.reduceEqDiff, Nat.reduceAdd, Nat.reduceSub, Nat.reduceMul]
    refine ⟨?_, ?_⟩
    · rfl
    · rw [← vbs_rep]; rfl
  generalize hz : List.replicate 401 false = Z
  have hzl : Z.length = 401 := by rw [← hz, List.length_replicate]
  have hzf : ∀ n, Z[n]? ≠ some true := fun n => by rw [← hz, List.getElem?_replicate]; split <;> simp
  have hz2 : List.replicate 401 (V.d (.lit (.bool false))) = vbs Z := by rw [vbs_rep, hz]
  clear hz
  have hbx : ∀ L, boxesBelow (σ ++ [boxT s, vbs L]).length (σ ++ [boxT s, vbs L]) = true := fun L => boxesBelow_app hb (by simp only [List.all_cons, List.all_nil, vbs_unders, Bool.and_true]; rfl)
  have hzv : (vbs Z).length = 401 := by rw [vbs, List.length_map, hzl]
  by_cases o1 : s.op = 1
  · have i1 : ∀ b, iaV 1 (V.bsl b 0 401 1) (V.d (D.lit (Value.int IntKind.i64 1))) = some (.ptr b 1) := fun b => rfl
    simp -dsimp -implicitDefEqProofs only [aw, slots0, V.copy, V.lend, V.lend1, V.cells, V.boxable, over, bldV, boundV, rowsOf, plains, V.plain, Nat.reduceLeDiff, cond_true, cond_false, implies_true, eq_self, ne_eq, reduceIte, reduceCtorEq, Nat.reduceBEq, Nat.reduceLT, Nat.reduceEqDiff, Nat.reduceAdd, Nat.reduceSub, Nat.reduceMul, decide_eq_true o1, i1, hzv]
    have e := vbs_set (L := Z) (n := 1) (by omega) true
    rw [e]
    refine out _ ⟨1, 1, by rw [q0]; unfold lenF; simp [o1], by rw [q1]; unfold lenF; simp [o1], by rw [List.length_set, hzl], fun n hn => ?_, List.getElem?_set_self (by omega), List.getElem?_set_self (by omega)⟩
    rcases set_true hn (by omega) with e | e
    · omega
    · exact absurd e (hzf n)
  have hne : s.args ≠ [] := fun e => by
    have hl : s.args.length = 0 := by rw [e]; rfl
    rcases (show s.op = 2 ∨ s.op = 3 ∨ (s.op = 4 ∨ s.op = 5) ∨ (s.op = 6 ∨ s.op = 7) by omega) with h | h | h | h
    · have := (f2 h).1; omega
    · have := (f3 h).1; omega
    · have := (f4 h).1; omega
    · have := f5 h; omega
  obtain ⟨x, r, hxr⟩ := List.exists_cons_of_ne_nil hne
  have hx : x ∈ s.args := by rw [hxr]; simp
  have hidx : iaV 9 (.d (.sl (s.args.map dts))) (V.d (D.lit (Value.int IntKind.i64 0))) = some (.row (dts x) 0) := by rw [hxr]; simp [iaV, rowsV, dts_len]
  have hcall : ∀ a, a ∈ s.args → ∀ σ, Fun G 20 [vts a] σ (RetP a σ) := fun a ha σ => ih a ha (by have := tbig_arg ha; omega) (validT_arg h0 ha) (Int.le_trans (len_arg hg ha) h400) σ
  rw [hxr] at q0 q1
  simp only [List.map_cons] at q0 q1
  simp -dsimp -implicitDefEqProofs only [aw, slots0, V.copy, V.lend, V.lend1, V.cells, V.boxable, over, bldV, boundV, rowsOf, plains, V.plain, Nat.reduceLeDiff, cond_true, cond_false, implies_true, eq_self, ne_eq, reduceIte, reduceCtorEq, Nat.reduceBEq, Nat.reduceLT, Nat.reduceEqDiff, Nat.reduceAdd, Nat.reduceSub, Nat.reduceMul, decide_eq_false o1, hidx, dts_eq x]
  refine ret_pos (s := x) (by simpa only [vts_eq] using hcall x hx _) ?_
  rintro F ⟨x0, x1, hx0, hx1, hF⟩
  by_cases o2 : s.op = 2
  · obtain ⟨g1, g2, g3, g4⟩ := f2 o2
    rw [hxr] at g1
    match hr : r, g1 with
    | [y], _ =>
    subst hr
    have hy : y ∈ s.args := by rw [hxr]; simp
    have hidy : iaV 9 (.d (.sl (s.args.map dts))) (V.d (D.lit (Value.int IntKind.i64 1))) = some (.row (dts y) 0) := by rw [hxr]; simp [iaV, rowsV, dts_len]
    unfold lenF at q0 q1
    simp only [if_pos o2, List.map_cons, List.map_nil, List.getD_cons_zero, List.getD_cons_succ] at q0 q1
    have bx := len_bd x (hg.arg hx)
    have by' := len_bd y (hg.arg hy)
    obtain ⟨dl, hdl⟩ := Int.eq_ofNat_of_zero_le g2
    obtain ⟨dh, hdh⟩ := Int.eq_ofNat_of_zero_le (show 0 ≤ s.hi by omega)
    simp -dsimp -implicitDefEqProofs only [aw, slots0, V.copy, V.lend, V.lend1, V.cells, V.boxable, over, bldV, boundV, rowsOf, plains, V.plain, Nat.reduceLeDiff, cond_true, cond_false, implies_true, eq_self, ne_eq, reduceIte, reduceCtorEq, Nat.reduceBEq, Nat.reduceLT, Nat.reduceEqDiff, Nat.reduceAdd, Nat.reduceSub, Nat.reduceMul, decide_eq_true o2, hidy, dts_eq y]
    refine ret_pos (s := y) (by simpa only [vts_eq] using hcall y hy _) ?_
    rintro S ⟨y0, y1, hy0, hy1, hS⟩
    obtain ⟨lo, hlo⟩ : ∃ lo, lo = x0 + y0 + dl - 1 := ⟨_, rfl⟩
    obtain ⟨hi, hhi⟩ : ∃ hi, hi = x1 + y1 + dh - 1 := ⟨_, rfl⟩
    have hpos : ∀ L, NP lo hi L → PosOK s L := fun L hL => ⟨lo, hi, by omega, by omega, hL⟩
    have hi400 : hi ≤ 400 := by omega
    have hFl := hF.len
    have hSl := hS.len
    have hsub : ∀ (d : Nat), d ≤ dh → IntKind.i64.wrap (((d : Nat) : Int) + 1) = ((d + 1 : Nat) : Int) := fun d hd => by rw [wrap_i64 (by omega) (by omega)]; omega
    simp -dsimp -implicitDefEqProofs only [aw, slots0, V.copy, V.lend, V.lend1, V.cells, V.boxable, over, bldV, boundV, rowsOf, plains, V.plain, Nat.reduceLeDiff, cond_true, cond_false, implies_true, eq_self, ne_eq, reduceIte, reduceCtorEq, Nat.reduceBEq, Nat.reduceLT, Nat.reduceEqDiff, Nat.reduceAdd, Nat.reduceSub, Nat.reduceMul]
    refine awp_forK [1, 3, 4, 5, 46, 47] (R := fun (a : Nat) ρ σ' => ρ = [(1, .ptr σ.length 0), (3, .bsl (σ.length + 1) 0 401 1), (4, .d (.sl (dbs F))), (5, .d (.sl (dbs S))), (46, vint .i64 F.length), (47, vint .i64 a)] ∧ ∃ L, σ' = σ ++ [boxT s, vbs L] ∧ DI lo hi (x0 < a) (x1 < a) L) F.length ⟨rfl, Z, rfl, hzl, fun n hn => absurd hn (hzf n), fun h => by omega, fun h => by omega⟩ ?_ _
    rintro a ρ' σ' ha ⟨rfl, L, rfl, hL⟩
    by_cases hlt : a < F.length
    · simp -dsimp -implicitDefEqProofs only [aw, slots0, V.copy, V.lend, V.lend1, V.cells, V.boxable, over, bldV, boundV, rowsOf, plains, V.plain, Nat.reduceLeDiff, cond_true, cond_false, implies_true, eq_self, ne_eq, reduceIte, reduceCtorEq, Nat.reduceBEq, Nat.reduceLT, Nat.reduceEqDiff, Nat.reduceAdd, Nat.reduceSub, Nat.reduceMul, Int.ofNat_lt, hlt, decide_true]
      refine awp_forK [1, 3, 4, 5, 6, 46, 47, 51, 52] (R := fun (b : Nat) ρ σ' => ρ = [(1, .ptr σ.length 0), (3, .bsl (σ.length + 1) 0 401 1), (4, .d (.sl (dbs F))), (5, .d (.sl (dbs S))), (6, vint .i64 a), (46, vint .i64 F.length), (47, vint .i64 a), (51, vint .i64 S.length), (52, vint .i64 b)] ∧ ∃ L, σ' = σ ++ [boxT s, vbs L] ∧ DI lo hi (x0 < a ∨ x0 = a ∧ y0 < b) (x1 < a ∨ x1 = a ∧ y1 < b) L) S.length ⟨rfl, L, rfl, hL.imp (by omega) (by omega)⟩ ?_ _
      clear hL L
      rintro b ρ' σ' hb' ⟨rfl, L, rfl, hL⟩
      by_cases hlb : b < S.length
      · simp -dsimp -implicitDefEqProofs only [aw, slots0, V.copy, V.lend, V.lend1, V.cells, V.boxable, over, bldV, boundV, rowsOf, plains, V.plain, Nat.reduceLeDiff, cond_true, cond_false, implies_true, eq_self, ne_eq, reduceIte, reduceCtorEq, Nat.reduceBEq, Nat.reduceLT, Nat.reduceEqDiff, Nat.reduceAdd, Nat.reduceSub, Nat.reduceMul, Int.ofNat_lt, hlb, decide_true]
        refine awp_forK [1, 3, 4, 5, 6, 7, 8, 46, 47, 51, 52] (R := fun (k : Nat) ρ σ' => ρ = [(1, .ptr σ.length 0), (3, .bsl (σ.length + 1) 0 401 1), (4, .d (.sl (dbs F))), (5, .d (.sl (dbs S))), (6, vint .i64 a), (7, vint .i64 b), (8, .d (dint ((dl + k : Nat) : Int))), (46, vint .i64 F.length), (47, vint .i64 a), (51, vint .i64 S.length), (52, vint .i64 b)] ∧ ∃ L, σ' = σ ++ [boxT s, vbs L] ∧ DI lo hi (x0 < a ∨ x0 = a ∧ (y0 < b ∨ y0 = b ∧ dl < dl + k)) (x1 < a ∨ x1 = a ∧ (y1 < b ∨ y1 = b ∧ dh < dl + k)) L) (dh - dl + 1) ⟨by rw [hdl]; rfl, L, rfl, hL.imp (by omega) (by omega)⟩ ?_ _
        clear hL L
        rintro k ρ' σ' hk ⟨rfl, L, rfl, hL⟩
        have hLl := hL.len
        have hvl : (vbs L).length = 401 := by rw [vbs, List.length_map, hLl]
        have wa := wrap_nat hlt (show F.length ≤ 9223372036854775807 by omega)
        have wb := wrap_nat hlb (show S.length ≤ 9223372036854775807 by omega)
        cases hfa : F[a] with
        | false =>
          have hx0a : x0 ≠ a := fun e => by have := hF.lo; rw [e, List.getElem?_eq_getElem hlt, hfa] at this; cases this
          have hx1a : x1 ≠ a := fun e => by have := hF.hi; rw [e, List.getElem?_eq_getElem hlt, hfa] at this; cases this
          simp -dsimp -implicitDefEqProofs only [aw, slots0, V.copy, V.lend, V.lend1, V.cells, V.boxable, over, bldV, boundV, rowsOf, plains, V.plain, Nat.reduceLeDiff, cond_true, cond_false, implies_true, eq_self, ne_eq, reduceIte, reduceCtorEq, Nat.reduceBEq, Nat.reduceLT, Nat.reduceEqDiff, Nat.reduceAdd, Nat.reduceSub, Nat.reduceMul, List.getElem?_eq_getElem hlt, hfa, wb]
          exact ⟨hlb, Nxt.same (by simp) (hbx L) (by simp [slotsBelow, V.under]) ⟨rfl, L, rfl, hL.imp (by omega) (by omega)⟩⟩
        | true =>
        have hxa := hF.bd a (by rw [List.getElem?_eq_getElem hlt, hfa])
        cases hsb : S[b] with
        | false =>
          have hy0b : y0 ≠ b := fun e => by have := hS.lo; rw [e, List.getElem?_eq_getElem hlb, hsb] at this; cases this
          have hy1b : y1 ≠ b := fun e => by have := hS.hi; rw [e, List.getElem?_eq_getElem hlb, hsb] at this; cases this
          simp -dsimp -implicitDefEqProofs only [aw, slots0, V.copy, V.lend, V.lend1, V.cells, V.boxable, over, bldV, boundV, rowsOf, plains, V.plain, Nat.reduceLeDiff, cond_true, cond_false, implies_true, eq_self, ne_eq, reduceIte, reduceCtorEq, Nat.reduceBEq, Nat.reduceLT, Nat.reduceEqDiff, Nat.reduceAdd, Nat.reduceSub, Nat.reduceMul, List.getElem?_eq_getElem hlt, hfa, List.getElem?_eq_getElem hlb, hsb, wb]
          exact ⟨hlb, Nxt.same (by simp) (hbx L) (by simp [slotsBelow, V.under]) ⟨rfl, L, rfl, hL.imp (by omega) (by omega)⟩⟩
        | true =>
        have hyb := hS.bd b (by rw [List.getElem?_eq_getElem hlb, hsb])
        by_cases hd : dl + k ≤ dh
        · obtain ⟨n, hn⟩ : ∃ n, n = a + b + (dl + k) - 1 := ⟨_, rfl⟩
          have w1 : IntKind.i64.wrap ((a : Int) + (b : Int)) = ((a + b : Nat) : Int) := by rw [wrap_i64 (by omega) (by omega)]; omega
          have w2 : IntKind.i64.wrap (((a + b : Nat) : Int) + ((dl + k : Nat) : Int)) = ((a + b + (dl + k) : Nat) : Int) := by rw [wrap_i64 (by omega) (by omega)]; omega
          have w3 : IntKind.i64.wrap (((a + b + (dl + k) : Nat) : Int) - 1) = (n : Int) := by rw [wrap_i64 (by omega) (by omega)]; omega
          have hn4 : (n : Int) ≤ 400 := by omega
          have hnl : n < 401 := by omega
          have hnl' : n ≤ 400 := by omega
          have hdd : ((dl + k : Nat) : Int) ≤ s.hi := by omega
          have w4 := hsub (dl + k) hd
          have hst := vbs_set (L := L) (n := n) (by omega) true
          simp -dsimp -implicitDefEqProofs only [aw, slots0, V.copy, V.lend, V.lend1, V.cells, V.boxable, over, bldV, boundV, rowsOf, plains, V.plain, Nat.reduceLeDiff, cond_true, cond_false, implies_true, eq_self, ne_eq, reduceIte, reduceCtorEq, Nat.reduceBEq, Nat.reduceLT, Nat.reduceEqDiff, Nat.reduceAdd, Nat.reduceSub, Nat.reduceMul, List.getElem?_eq_getElem hlt, hfa, List.getElem?_eq_getElem hlb, hsb, decide_eq_true hdd, w1, w2, w3, decide_eq_true hn4, hnl, hnl', Nat.mul_one, hvl, w4]
          rw [hst]
          refine ⟨by omega, Nxt.same (by simp) (hbx _) (by simp [slotsBelow, V.under]) ⟨rfl, L.set n true, rfl, ?_⟩⟩
          refine ⟨by rw [List.length_set, hLl], fun m hm => ?_, fun hp => ?_, fun hq => ?_⟩
          · rcases set_true hm (by omega) with e | e
            · omega
            · exact hL.bd m e
          · by_cases hp' : x0 < a ∨ x0 = a ∧ (y0 < b ∨ y0 = b ∧ dl < dl + k)
            · exact set_keep (hL.lo hp')
            · have : lo = n := by omega
              rw [this]; exact List.getElem?_set_self (by omega)
          · by_cases hp' : x1 < a ∨ x1 = a ∧ (y1 < b ∨ y1 = b ∧ dh < dl + k)
            · exact set_keep (hL.hi hp')
            · have : hi = n := by omega
              rw [this]; exact List.getElem?_set_self (by omega)
        · have hdd : ¬ ((dl + k : Nat) : Int) ≤ s.hi := by omega
          simp -dsimp -implicitDefEqProofs only [aw, slots0, V.copy, V.lend, V.lend1, V.cells, V.boxable, over, bldV, boundV, rowsOf, plains, V.plain, Nat.reduceLeDiff, cond_true, cond_false, implies_true, eq_self, ne_eq, reduceIte, reduceCtorEq, Nat.reduceBEq, Nat.reduceLT, Nat.reduceEqDiff, Nat.reduceAdd, Nat.reduceSub, Nat.reduceMul, List.getElem?_eq_getElem hlt, hfa, List.getElem?_eq_getElem hlb, hsb, decide_eq_false hdd, wb]
          exact ⟨hlb, Nxt.same (by simp) (hbx L) (by simp [slotsBelow, V.under]) ⟨rfl, L, rfl, hL.imp (by omega) (by omega)⟩⟩
      · have hy0l := (List.getElem?_eq_some_iff.1 hS.lo).1
        have hy1l := (List.getElem?_eq_some_iff.1 hS.hi).1
        simp -dsimp -implicitDefEqProofs only [aw, slots0, V.copy, V.lend, V.lend1, V.cells, V.boxable, over, bldV, boundV, rowsOf, plains, V.plain, Nat.reduceLeDiff, cond_true, cond_false, implies_true, eq_self, ne_eq, reduceIte, reduceCtorEq, Nat.reduceBEq, Nat.reduceLT, Nat.reduceEqDiff, Nat.reduceAdd, Nat.reduceSub, Nat.reduceMul, Int.ofNat_lt, hlb, decide_false, wrap_nat hlt (show F.length ≤ 9223372036854775807 by omega)]
        exact ⟨hlt, Nxt.same (by simp) (hbx L) (by simp [slotsBelow, V.under]) ⟨rfl, L, rfl, hL.imp (by omega) (by omega)⟩⟩
    · have hx0l := (List.getElem?_eq_some_iff.1 hF.lo).1
      have hx1l := (List.getElem?_eq_some_iff.1 hF.hi).1
      simp -dsimp -implicitDefEqProofs only [aw, slots0, V.copy, V.lend, V.lend1, V.cells, V.boxable, over, bldV, boundV, rowsOf, plains, V.plain, Nat.reduceLeDiff, cond_true, cond_false, implies_true, eq_self, ne_eq, reduceIte, reduceCtorEq, Nat.reduceBEq, Nat.reduceLT, Nat.reduceEqDiff, Nat.reduceAdd, Nat.reduceSub, Nat.reduceMul, Int.ofNat_lt, hlt, decide_false]
      exact out L (hpos L (hL.done (by omega) (by omega)))
  by_cases o3 : s.op = 3
  · obtain ⟨g1, g2, g3, g4⟩ := f3 o3
    have hr0 : r = [] := List.eq_nil_of_length_eq_zero (by rw [hxr] at g1; simpa using g1)
    subst hr0
    unfold lenF at q0 q1
    simp only [if_neg o2, if_pos o3, List.map_nil, List.getD_cons_zero] at q0 q1
    obtain ⟨dl, hdl⟩ := Int.eq_ofNat_of_zero_le (show 0 ≤ s.lo by omega)
    obtain ⟨dh, hdh⟩ := Int.eq_ofNat_of_zero_le (show 0 ≤ s.hi by omega)
    obtain ⟨lo, hlo⟩ : ∃ lo, lo = dl * x0 := ⟨_, rfl⟩
    obtain ⟨hi, hhi⟩ : ∃ hi, hi = dh * x1 := ⟨_, rfl⟩
    have hlo' : lenT false s = lo := by rw [q0, hx0, hdl, hlo, Int.natCast_mul, Int.mul_comm]
    have hhi' : lenT true s = hi := by rw [q1, hx1, hdh, hhi, Int.natCast_mul, Int.mul_comm]
    have hi400 : hi ≤ 400 := by omega
    have hFl := hF.len
    have i0 : ∀ b, iaV 1 (V.bsl b 0 401 1) (V.d (D.lit (Value.int IntKind.i64 0))) = some (.ptr b 0) := fun b => rfl
    have e0 := vbs_set (L := Z) (n := 0) (by omega) true
    simp -dsimp -implicitDefEqProofs only [aw, slots0, V.copy, V.lend, V.lend1, V.cells, V.boxable, over, bldV, boundV, rowsOf, plains, V.plain, Nat.reduceLeDiff, cond_true, cond_false, implies_true, eq_self, ne_eq, reduceIte, reduceCtorEq, Nat.reduceBEq, Nat.reduceLT, Nat.reduceEqDiff, Nat.reduceAdd, Nat.reduceSub, Nat.reduceMul, decide_eq_false o2, decide_eq_true o3]
    refine onT_intro ⟨by omega, by omega⟩ ?_
    have h401 : Int.toNat 401 = 401 := rfl
    simp -dsimp -implicitDefEqProofs only [aw, slots0, V.copy, V.lend, V.lend1, V.cells, V.boxable, over, bldV, boundV, rowsOf, plains, V.plain, Nat.reduceLeDiff, cond_true, cond_false, implies_true, eq_self, ne_eq, reduceIte, reduceCtorEq, Nat.reduceBEq, Nat.reduceLT, Nat.reduceEqDiff, Nat.reduceAdd, Nat.reduceSub, Nat.reduceMul, h401, hz2, i0, hzv]
    have e0' : V.d (.lit (.bool true)) :: List.drop 1 (vbs Z) = vbs (Z.set 0 true) := by rw [← e0]; simp
    rw [e0']
    have hbx2 : ∀ L N, boxesBelow (σ ++ [boxT s, vbs L, vbs N]).length (σ ++ [boxT s, vbs L, vbs N]) = true := fun L N => boxesBelow_app hb (by simp only [List.all_cons, List.all_nil, vbs_unders, Bool.and_true]; rfl)
    have hsub : ∀ (d : Nat), d ≤ 16 → IntKind.i64.wrap (((d : Nat) : Int) + 1) = ((d + 1 : Nat) : Int) := fun d hd => by rw [wrap_i64 (by omega) (by omega)]; omega
    have hsub2 : ∀ (d : Nat), d ≤ 401 → IntKind.i64.wrap (((d : Nat) : Int) + 1) = ((d + 1 : Nat) : Int) := fun d hd => by rw [wrap_i64 (by omega) (by omega)]; omega
    have mono : ∀ {a b c : Nat}, a ≤ b → a * c ≤ b * c := fun h => Nat.mul_le_mul_right _ h
    have frz10 : ∀ (L N : List Bool), N.length = 401 → FrzV ((σ ++ [boxT s, vbs L]) ++ [vbs N]) (σ ++ [boxT s, vbs L]).length (.bsl (σ.length + 2) 0 401 1) (.d (.sl (dbs N))) := fun L N h => by
      rw [← h]
      exact frz_bools (k := (σ ++ [boxT s, vbs L]).length) (i := σ.length + 2) (by simp) (by rw [List.getElem?_append_right (by simp)]; simp)
    have hsame : ∀ (L N : List Bool) (v : V), V.under (σ.length + 2) v = true → FrzV ((σ ++ [boxT s, vbs L]) ++ [vbs N]) (σ ++ [boxT s, vbs L]).length v v := fun L N v h => .same v (by simpa using h)
    have hσ : ∀ A B : List V, σ ++ [boxT s, A, B] = (σ ++ [boxT s, A]) ++ [B] := fun A B => by simp
    rw [hσ]
    refine awp_forS [1, 3, 4, 10, 11] (R := fun (k : Nat) ρ σ' => ∃ S L, ρ = [(1, .ptr σ.length 0), (3, .bsl (σ.length + 1) 0 401 1), (4, .d (.sl (dbs F))), (10, .d (.sl (dbs S))), (11, .d (dint ((k + 1 : Nat) : Int)))] ∧ σ' = σ ++ [boxT s, vbs L] ∧ NP (k * x0) (k * x1) S ∧ DI lo hi (dl ≤ k) (dh ≤ k) L) dh
      (shift_last (σ := σ ++ [boxT s, vbs Z]) (l := [vbs (Z.set 0 true)]) [(1, .ptr σ.length 0), (3, .bsl (σ.length + 1) 0 401 1), (4, .d (.sl (dbs F))), (10, .d (.sl (dbs (Z.set 0 true)))), (11, .d (dint 1))] (show σ.length ≤ _ by simp) (hbx Z) (fun p hp => ?_))
      ⟨Z.set 0 true, Z, rfl, rfl, ⟨by rw [List.length_set, hzl], fun n hn => ?_, by rw [Nat.zero_mul]; exact List.getElem?_set_self (by omega), by rw [Nat.zero_mul]; exact List.getElem?_set_self (by omega)⟩, hzl, fun n hn => absurd hn (hzf n), fun h => by omega, fun h => by omega⟩ ?_ _
    · simp only [List.mem_cons, List.not_mem_nil, or_false] at hp
      rcases hp with rfl | rfl | rfl | rfl | rfl
      · exact hsame _ _ _ (show V.under _ (V.ptr σ.length 0) = true by simp [V.under])
      · exact hsame _ _ _ (show V.under _ (V.bsl (σ.length + 1) 0 401 1) = true by simp [V.under])
      · exact hsame _ _ _ rfl
      · exact frz10 _ _ (by rw [List.length_set, hzl])
      · exact hsame _ _ _ rfl
    · rcases set_true hn (by omega) with e | e
      · omega
      · exact absurd e (hzf n)
    rintro k ρ' σ' hk ⟨S, L, rfl, rfl, hS, hL⟩
    have hSl := hS.len
    have hLl := hL.len
    by_cases hkk : k < dh
    · have hk1 : ((k + 1 : Nat) : Int) ≤ s.hi := by omega
      simp -dsimp -implicitDefEqProofs only [aw, slots0, V.copy, V.lend, V.lend1, V.cells, V.boxable, over, bldV, boundV, rowsOf, plains, V.plain, Nat.reduceLeDiff, cond_true, cond_false, implies_true, eq_self, ne_eq, reduceIte, reduceCtorEq, Nat.reduceBEq, Nat.reduceLT, Nat.reduceEqDiff, Nat.reduceAdd, Nat.reduceSub, Nat.reduceMul, decide_eq_true hk1]
      refine onT_intro ⟨by omega, by omega⟩ ?_
      simp -dsimp -implicitDefEqProofs only [aw, slots0, V.copy, V.lend, V.lend1, V.cells, V.boxable, over, bldV, boundV, rowsOf, plains, V.plain, Nat.reduceLeDiff, cond_true, cond_false, implies_true, eq_self, ne_eq, reduceIte, reduceCtorEq, Nat.reduceBEq, Nat.reduceLT, Nat.reduceEqDiff, Nat.reduceAdd, Nat.reduceSub, Nat.reduceMul, h401, hz2]
      obtain ⟨A0, hA0⟩ : ∃ A0, A0 = k * x0 := ⟨_, rfl⟩
      obtain ⟨A1, hA1⟩ : ∃ A1, A1 = k * x1 := ⟨_, rfl⟩
      have hB0 : (k + 1) * x0 = A0 + x0 := by rw [Nat.add_mul, Nat.one_mul, hA0]
      have hB1 : (k + 1) * x1 = A1 + x1 := by rw [Nat.add_mul, Nat.one_mul, hA1]
      have hle1 : A1 + x1 ≤ 400 := by have := mono (c := x1) (show k + 1 ≤ dh by omega); omega
      rw [← hA0, ← hA1] at hS
      have hA0l := (hS.bd _ hS.lo).2
      have hx0l := (hF.bd _ hF.lo).2
      refine awp_forK [1, 3, 4, 10, 11, 12, 102, 103] (R := fun (a : Nat) ρ σ' => ρ = [(1, .ptr σ.length 0), (3, .bsl (σ.length + 1) 0 401 1), (4, .d (.sl (dbs F))), (10, .d (.sl (dbs S))), (11, .d (dint ((k + 1 : Nat) : Int))), (12, .bsl (σ.length + 2) 0 401 1), (102, vint .i64 S.length), (103, vint .i64 a)] ∧ ∃ N, σ' = σ ++ [boxT s, vbs L, vbs N] ∧ DI (A0 + x0) (A1 + x1) (A0 < a) (A1 < a) N) S.length ⟨rfl, Z, rfl, hzl, fun n hn => absurd hn (hzf n), fun h => by omega, fun h => by omega⟩ ?_ _
      rintro a ρ' σ' ha ⟨rfl, N, rfl, hN⟩
      by_cases hlt : a < S.length
      · simp -dsimp -implicitDefEqProofs only [aw, slots0, V.copy, V.lend, V.lend1, V.cells, V.boxable, over, bldV, boundV, rowsOf, plains, V.plain, Nat.reduceLeDiff, cond_true, cond_false, implies_true, eq_self, ne_eq, reduceIte, reduceCtorEq, Nat.reduceBEq, Nat.reduceLT, Nat.reduceEqDiff, Nat.reduceAdd, Nat.reduceSub, Nat.reduceMul, Int.ofNat_lt, hlt, decide_true]
        have wa := wrap_nat hlt (show S.length ≤ 9223372036854775807 by omega)
        refine awp_forK [1, 3, 4, 10, 11, 12, 13, 14, 102, 103] (R := fun (b : Nat) ρ σ' => ρ = [(1, .ptr σ.length 0), (3, .bsl (σ.length + 1) 0 401 1), (4, .d (.sl (dbs F))), (10, .d (.sl (dbs S))), (11, .d (dint ((k + 1 : Nat) : Int))), (12, .bsl (σ.length + 2) 0 401 1), (13, vint .i64 a), (14, vint .i64 b), (102, vint .i64 S.length), (103, vint .i64 a)] ∧ ∃ N, σ' = σ ++ [boxT s, vbs L, vbs N] ∧ DI (A0 + x0) (A1 + x1) (A0 < a ∨ A0 = a ∧ x0 < b) (A1 < a ∨ A1 = a ∧ x1 < b) N) (401 - a) ⟨rfl, N, rfl, hN.imp (by omega) (by omega)⟩ ?_ _
        clear hN N
        rintro b ρ' σ' hb' ⟨rfl, N, rfl, hN⟩
        have hNl := hN.len
        have hvl : (vbs N).length = 401 := by rw [vbs, List.length_map, hNl]
        cases hsa : S[a] with
        | false =>
          have hn0 : A0 ≠ a := fun e => by have := hS.lo; rw [e, List.getElem?_eq_getElem hlt, hsa] at this; cases this
          have hn1 : A1 ≠ a := fun e => by have := hS.hi; rw [e, List.getElem?_eq_getElem hlt, hsa] at this; cases this
          simp -dsimp -implicitDefEqProofs only [aw, slots0, V.copy, V.lend, V.lend1, V.cells, V.boxable, over, bldV, boundV, rowsOf, plains, V.plain, Nat.reduceLeDiff, cond_true, cond_false, implies_true, eq_self, ne_eq, reduceIte, reduceCtorEq, Nat.reduceBEq, Nat.reduceLT, Nat.reduceEqDiff, Nat.reduceAdd, Nat.reduceSub, Nat.reduceMul, List.getElem?_eq_getElem hlt, hsa, wa]
          exact ⟨hlt, Nxt.same (by simp) (hbx2 L N) (by simp [slotsBelow, V.under]) ⟨rfl, N, rfl, hN.imp (by omega) (by omega)⟩⟩
        | true =>
        have hab := hS.bd a (by rw [List.getElem?_eq_getElem hlt, hsa])
        have w1 : IntKind.i64.wrap ((a : Int) + (b : Int)) = ((a + b : Nat) : Int) := by rw [wrap_i64 (by omega) (by omega)]; omega
        by_cases hab4 : a + b ≤ 400
        · have h4 : ((a + b : Nat) : Int) ≤ 400 := by omega
          have hlb : b < F.length := by omega
          have hnl : a + b < 401 := by omega
          have hnN : a + b < N.length := by omega
          have hst := vbs_set (L := N) (n := a + b) hnN (N[a + b] || F[b])
          have wb := hsub2 b (by omega)
          have hfin : DI (A0 + x0) (A1 + x1) (A0 < a ∨ A0 = a ∧ x0 < b + 1) (A1 < a ∨ A1 = a ∧ x1 < b + 1) (N.set (a + b) (N[a + b] || F[b])) := by
            refine ⟨by rw [List.length_set, hNl], fun m hm => ?_, fun hp => ?_, fun hq => ?_⟩
            · rcases set_or hm hnN with ⟨e, e2⟩ | e
              · rcases Bool.or_eq_true_iff.1 e2 with e3 | e3
                · subst e; exact hN.bd _ (by rw [List.getElem?_eq_getElem hnN, e3])
                · have := hF.bd b (by rw [List.getElem?_eq_getElem hlb, e3])
                  omega
              · exact hN.bd m e
            · by_cases hp' : A0 < a ∨ A0 = a ∧ x0 < b
              · exact set_keep_or hnN (hN.lo hp')
              · have e1 : A0 + x0 = a + b := by omega
                have e2 : x0 = b := by omega
                have e3 := hF.lo
                rw [e2, List.getElem?_eq_getElem hlb] at e3
                rw [e1, List.getElem?_set_self hnN]
                rw [Option.some.inj e3, Bool.or_true]
            · by_cases hp' : A1 < a ∨ A1 = a ∧ x1 < b
              · exact set_keep_or hnN (hN.hi hp')
              · have e1 : A1 + x1 = a + b := by omega
                have e2 : x1 = b := by omega
                have e3 := hF.hi
                rw [e2, List.getElem?_eq_getElem hlb] at e3
                rw [e1, List.getElem?_set_self hnN]
                rw [Option.some.inj e3, Bool.or_true]
          have hc : a + b + 1 ≤ N.length := by omega
          have hnl' : a + b ≤ 400 := hab4
          cases hNv : N[a + b] with
          | true =>
            rw [hNv, Bool.true_or] at hst hfin
            simp -dsimp -implicitDefEqProofs only [aw, slots0, V.copy, V.lend, V.lend1, V.cells, V.boxable, over, bldV, boundV, rowsOf, plains, V.plain, Nat.reduceLeDiff, cond_true, cond_false, implies_true, eq_self, ne_eq, reduceIte, reduceCtorEq, Nat.reduceBEq, Nat.reduceLT, Nat.reduceEqDiff, Nat.reduceAdd, Nat.reduceSub, Nat.reduceMul, List.getElem?_eq_getElem hlt, hsa, w1, decide_eq_true h4, hnl, hnl', hc, vbs_pk hnN, hNv, Nat.mul_one, hvl, wb]
            rw [hst]
            exact ⟨by omega, Nxt.same (by simp) (hbx2 L _) (by simp [slotsBelow, V.under]) ⟨rfl, _, rfl, hfin⟩⟩
          | false =>
            rw [hNv, Bool.false_or] at hst hfin
            simp -dsimp -implicitDefEqProofs only [aw, slots0, V.copy, V.lend, V.lend1, V.cells, V.boxable, over, bldV, boundV, rowsOf, plains, V.plain, Nat.reduceLeDiff, cond_true, cond_false, implies_true, eq_self, ne_eq, reduceIte, reduceCtorEq, Nat.reduceBEq, Nat.reduceLT, Nat.reduceEqDiff, Nat.reduceAdd, Nat.reduceSub, Nat.reduceMul, List.getElem?_eq_getElem hlt, hsa, w1, decide_eq_true h4, hnl, hnl', hc, vbs_pk hnN, hNv, Nat.mul_one, hvl, wb, List.getElem?_eq_getElem hlb]
            rw [hst]
            exact ⟨by omega, Nxt.same (by simp) (hbx2 L _) (by simp [slotsBelow, V.under]) ⟨rfl, _, rfl, hfin⟩⟩
        · have h4 : ¬ ((a + b : Nat) : Int) ≤ 400 := by omega
          simp -dsimp -implicitDefEqProofs only [aw, slots0, V.copy, V.lend, V.lend1, V.cells, V.boxable, over, bldV, boundV, rowsOf, plains, V.plain, Nat.reduceLeDiff, cond_true, cond_false, implies_true, eq_self, ne_eq, reduceIte, reduceCtorEq, Nat.reduceBEq, Nat.reduceLT, Nat.reduceEqDiff, Nat.reduceAdd, Nat.reduceSub, Nat.reduceMul, List.getElem?_eq_getElem hlt, hsa, w1, decide_eq_false h4, wa]
          exact ⟨hlt, Nxt.same (by simp) (hbx2 L N) (by simp [slotsBelow, V.under]) ⟨rfl, N, rfl, hN.imp (by omega) (by omega)⟩⟩
      · have hN' : NP (A0 + x0) (A1 + x1) N := hN.done (by omega) (by have := (hS.bd _ hS.hi).2; omega)
        clear hN
        have hNl := hN'.len
        have hvN : (vbs N).length = 401 := by rw [vbs, List.length_map, hNl]
        simp -dsimp -implicitDefEqProofs only [aw, slots0, V.copy, V.lend, V.lend1, V.cells, V.boxable, over, bldV, boundV, rowsOf, plains, V.plain, Nat.reduceLeDiff, cond_true, cond_false, implies_true, eq_self, ne_eq, reduceIte, reduceCtorEq, Nat.reduceBEq, Nat.reduceLT, Nat.reduceEqDiff, Nat.reduceAdd, Nat.reduceSub, Nat.reduceMul, Int.ofNat_lt, hlt, decide_false]
        refine awp_forK [1, 3, 4, 10, 11, 138, 139] (R := fun (n : Nat) ρ σ' => ρ = [(1, .ptr σ.length 0), (3, .bsl (σ.length + 1) 0 401 1), (4, .d (.sl (dbs F))), (10, .bsl (σ.length + 2) 0 401 1), (11, .d (dint ((k + 1 : Nat) : Int))), (138, vint .i64 (401 : Nat)), (139, vint .i64 n)] ∧ ∃ L, σ' = σ ++ [boxT s, vbs L, vbs N] ∧ DI lo hi (dl ≤ k ∨ dl = k + 1 ∧ lo < n) (dh ≤ k ∨ dh = k + 1 ∧ hi < n) L) 401 ⟨rfl, L, rfl, hL.imp (by omega) (by omega)⟩ ?_ _
        clear hL hLl L
        rintro n ρ' σ' hn' ⟨rfl, L, rfl, hL⟩
        have hLl := hL.len
        have hvL : (vbs L).length = 401 := by rw [vbs, List.length_map, hLl]
        by_cases hn4 : n < 401
        · have hnL : n < L.length := by omega
          have hnN : n < N.length := by omega
          have hc1 : n + 1 ≤ L.length := by omega
          have hc2 : n + 1 ≤ N.length := by omega
          have hn4' : n ≤ 400 := by omega
          have w1 := hsub2 n (by omega)
          have hdlk : ∀ b : Bool, (N[n] && decide (s.lo ≤ ((k + 1 : Nat) : Int))) = b → DI lo hi (dl ≤ k ∨ dl = k + 1 ∧ lo < n + 1) (dh ≤ k ∨ dh = k + 1 ∧ hi < n + 1) (L.set n (L[n] || b)) := fun b hbv => by
            refine ⟨by rw [List.length_set, hLl], fun m hm => ?_, fun hp => ?_, fun hq => ?_⟩
            · rcases set_or hm hnL with ⟨e, e2⟩ | e
              · rcases Bool.or_eq_true_iff.1 e2 with e3 | e3
                · subst e; exact hL.bd _ (by rw [List.getElem?_eq_getElem hnL, e3])
                · rw [e3, Bool.and_eq_true, decide_eq_true_eq] at hbv
                  have h1 := hN'.bd n (by rw [List.getElem?_eq_getElem hnN, hbv.1])
                  have h2 := mono (c := x0) (show dl ≤ k + 1 by omega)
                  have h3 := mono (c := x1) (show k + 1 ≤ dh by omega)
                  omega
              · exact hL.bd m e
            · by_cases hp' : dl ≤ k ∨ dl = k + 1 ∧ lo < n
              · exact set_keep_or hnL (hL.lo hp')
              · have e1 : dl = k + 1 := by omega
                have e2 : lo = n := by omega
                have e3 : N[n]? = some true := by
                  have := hN'.lo
                  rw [← hB0, ← e1, ← hlo, e2] at this; exact this
                rw [List.getElem?_eq_getElem hnN] at e3
                have e4 : s.lo ≤ ((k + 1 : Nat) : Int) := by omega
                rw [Option.some.inj e3, decide_eq_true e4] at hbv
                rw [e2, List.getElem?_set_self hnL, ← hbv]; simp
            · by_cases hp' : dh ≤ k ∨ dh = k + 1 ∧ hi < n
              · exact set_keep_or hnL (hL.hi hp')
              · have e1 : dh = k + 1 := by omega
                have e2 : hi = n := by omega
                have e3 : N[n]? = some true := by
                  have := hN'.hi
                  rw [← hB1, ← e1, ← hhi, e2] at this; exact this
                rw [List.getElem?_eq_getElem hnN] at e3
                have e4 : s.lo ≤ ((k + 1 : Nat) : Int) := by omega
                rw [Option.some.inj e3, decide_eq_true e4] at hbv
                rw [e2, List.getElem?_set_self hnL, ← hbv]; simp
          have hn4i : ((n : Nat) : Int) < ((401 : Nat) : Int) := by omega
          cases hLv : L[n] with
          | true =>
            have hst := vbs_set (L := L) (n := n) hnL true
            have hfin := hdlk _ rfl
            rw [hLv, Bool.true_or] at hfin
            simp -dsimp -implicitDefEqProofs only [aw, slots0, V.copy, V.lend, V.lend1, V.cells, V.boxable, over, bldV, boundV, rowsOf, plains, V.plain, Nat.reduceLeDiff, cond_true, cond_false, implies_true, eq_self, ne_eq, reduceIte, reduceCtorEq, Nat.reduceBEq, Nat.reduceLT, Nat.reduceEqDiff, Nat.reduceAdd, Nat.reduceSub, Nat.reduceMul, decide_eq_true hn4i, hn4, hn4', hc1, hc2, hvL, hvN, vbs_pk hnL, hLv, Nat.mul_one, w1]
            rw [hst]
            exact Nxt.same (by simp) (hbx2 _ N) (by simp [slotsBelow, V.under]) ⟨rfl, _, rfl, hfin⟩
          | false =>
            cases hNv : N[n] with
            | false =>
              have hst := vbs_set (L := L) (n := n) hnL false
              have hfin := hdlk false (by rw [hNv]; rfl)
              rw [hLv, Bool.or_false] at hfin
              simp -dsimp -implicitDefEqProofs only [aw, slots0, V.copy, V.lend, V.lend1, V.cells, V.boxable, over, bldV, boundV, rowsOf, plains, V.plain, Nat.reduceLeDiff, cond_true, cond_false, implies_true, eq_self, ne_eq, reduceIte, reduceCtorEq, Nat.reduceBEq, Nat.reduceLT, Nat.reduceEqDiff, Nat.reduceAdd, Nat.reduceSub, Nat.reduceMul, decide_eq_true hn4i, hn4, hn4', hc1, hc2, hvL, hvN, vbs_pk hnL, vbs_pk hnN, hLv, hNv, Nat.mul_one, w1]
              rw [hst]
              exact Nxt.same (by simp) (hbx2 _ N) (by simp [slotsBelow, V.under]) ⟨rfl, _, rfl, hfin⟩
            | true =>
              have hst := fun b => vbs_set (L := L) (n := n) hnL b
              have hfin := hdlk _ rfl
              rw [hLv, hNv, Bool.false_or, Bool.true_and] at hfin
              simp -dsimp -implicitDefEqProofs only [aw, slots0, V.copy, V.lend, V.lend1, V.cells, V.boxable, over, bldV, boundV, rowsOf, plains, V.plain, Nat.reduceLeDiff, cond_true, cond_false, implies_true, eq_self, ne_eq, reduceIte, reduceCtorEq, Nat.reduceBEq, Nat.reduceLT, Nat.reduceEqDiff, Nat.reduceAdd, Nat.reduceSub, Nat.reduceMul, decide_eq_true hn4i, hn4, hn4', hc1, hc2, hvL, hvN, vbs_pk hnL, vbs_pk hnN, hLv, hNv, Nat.mul_one, w1]
              rw [hst]
              exact Nxt.same (by simp) (hbx2 _ N) (by simp [slotsBelow, V.under]) ⟨rfl, _, rfl, hfin⟩
        · have hn4i : ¬ ((n : Nat) : Int) < ((401 : Nat) : Int) := by omega
          have wk := hsub (k + 1) (by omega)
          simp -dsimp -implicitDefEqProofs only [aw, slots0, V.copy, V.lend, V.lend1, V.cells, V.boxable, over, bldV, boundV, rowsOf, plains, V.plain, Nat.reduceLeDiff, cond_true, cond_false, implies_true, eq_self, ne_eq, reduceIte, reduceCtorEq, Nat.reduceBEq, Nat.reduceLT, Nat.reduceEqDiff, Nat.reduceAdd, Nat.reduceSub, Nat.reduceMul, decide_eq_false hn4i, wk]
          rw [hσ]
          refine ⟨hkk, NxtS.frz (σ := σ ++ [boxT s, vbs L]) (l := [vbs N]) [(1, .ptr σ.length 0), (3, .bsl (σ.length + 1) 0 401 1), (4, .d (.sl (dbs F))), (10, .d (.sl (dbs N))), (11, .d (dint ((k + 1 + 1 : Nat) : Int)))] (by simp) (hbx L) (fun p hp => ?_) ⟨N, L, rfl, rfl, by rw [hB0, hB1]; exact hN', hL.imp (by omega) (by omega)⟩⟩
          simp only [List.mem_cons, List.not_mem_nil, or_false] at hp
          rcases hp with rfl | rfl | rfl | rfl | rfl
          · exact hsame _ _ _ (show V.under _ (V.ptr σ.length 0) = true by simp [V.under])
          · exact hsame _ _ _ (show V.under _ (V.bsl (σ.length + 1) 0 401 1) = true by simp [V.under])
          · exact hsame _ _ _ rfl
          · exact frz10 _ _ hNl
          · exact hsame _ _ _ rfl
    · have hk1 : ¬ ((k + 1 : Nat) : Int) ≤ s.hi := by omega
      simp -dsimp -implicitDefEqProofs only [aw, slots0, V.copy, V.lend, V.lend1, V.cells, V.boxable, over, bldV, boundV, rowsOf, plains, V.plain, Nat.reduceLeDiff, cond_true, cond_false, implies_true, eq_self, ne_eq, reduceIte, reduceCtorEq, Nat.reduceBEq, Nat.reduceLT, Nat.reduceEqDiff, Nat.reduceAdd, Nat.reduceSub, Nat.reduceMul, decide_eq_false hk1]
      exact out L ⟨lo, hi, hlo', hhi', hL.done (by omega) (by omega)⟩
  have hσ1 : ∀ B : List V, σ ++ [boxT s, B] = (σ ++ [boxT s]) ++ [B] := fun B => by simp
  have hbx1 : boxesBelow (σ ++ [boxT s]).length (σ ++ [boxT s]) = true := boxesBelow_app hb rfl
  have hsame : ∀ (N : List Bool) (v : V), V.under (σ.length + 1) v = true → FrzV ((σ ++ [boxT s]) ++ [vbs N]) (σ ++ [boxT s]).length v v := fun N v h => .same v (by simpa using h)
  have frz4 : ∀ (N : List Bool), N.length = 401 → FrzV ((σ ++ [boxT s]) ++ [vbs N]) (σ ++ [boxT s]).length (.bsl (σ.length + 1) 0 401 1) (.d (.sl (dbs N))) := fun N h => by
    rw [← h]
    exact frz_bools (k := (σ ++ [boxT s]).length) (i := σ.length + 1) (by simp) (by rw [List.getElem?_append_right (by simp)]; simp)
  have hsub2 : ∀ (d : Nat), d ≤ 401 → IntKind.i64.wrap (((d : Nat) : Int) + 1) = ((d + 1 : Nat) : Int) := fun d hd => by rw [wrap_i64 (by omega) (by omega)]; omega
  have h401 : Int.toNat 401 = 401 := rfl
  have hal : s.args.length = r.length + 1 := by rw [hxr]; rfl
  obtain ⟨g, hgd⟩ : ∃ g : Int → Int → Int, g = fun a b => if s.op = 4 then min a b else max a b := ⟨_, rfl⟩
  have hend : ∀ (F : List Bool) (lo hi : Nat), NP lo hi F → (lo : Int) = (r.map (lenT false)).foldl g (lenT false x) → (hi : Int) = (r.map (lenT true)).foldl max (lenT true x) → PosOK s F := fun F lo hi hF h1 h2 => by
    refine ⟨lo, hi, ?_, ?_, hF⟩
    · rw [h1, q0, hgd]
      unfold lenF
      simp only [if_neg o2, if_neg o3, Bool.false_eq_true, if_false]
      by_cases o4 : s.op = 4
      · simp only [if_pos o4]; rfl
      by_cases o5 : s.op = 5
      · simp only [if_neg o4, if_pos o5]; rfl
      have o67 : s.op = 6 ∨ s.op = 7 := by omega
      have hr0 : r = [] := List.eq_nil_of_length_eq_zero (by have := f5 o67; omega)
      subst hr0
      simp only [if_neg o4, if_neg o5, if_pos o67]; rfl
    · rw [h2, q1]
      unfold lenF
      simp only [if_neg o2, if_neg o3, if_true]
      by_cases o4 : s.op = 4
      · simp only [if_pos o4]; rfl
      by_cases o5 : s.op = 5
      · simp only [if_neg o4, if_pos o5]; rfl
      have o67 : s.op = 6 ∨ s.op = 7 := by omega
      have hr0 : r = [] := List.eq_nil_of_length_eq_zero (by have := f5 o67; omega)
      subst hr0
      simp only [if_neg o4, if_neg o5, if_pos o67]; rfl
  have out1 : ∀ (L : List Bool), PosOK s L → fin σ.length rs20 (RetP s σ) .ret [(2, .d (.sl (dbs L)))] (σ ++ [boxT s]) := fun L hL => fin_ret hb rfl rfl List.take_left ⟨L, rfl, rfl, hL⟩
  simp -dsimp -implicitDefEqProofs only [aw, slots0, V.copy, V.lend, V.lend1, V.cells, V.boxable, over, bldV, boundV, rowsOf, plains, V.plain, Nat.reduceLeDiff, cond_true, cond_false, implies_true, eq_self, ne_eq, reduceIte, reduceCtorEq, Nat.reduceBEq, Nat.reduceLT, Nat.reduceEqDiff, Nat.reduceAdd, Nat.reduceSub, Nat.reduceMul, decide_eq_false o2, decide_eq_false o3]
  rw [hσ1]
  refine awp_forS [1, 4, 16] (R := fun (j : Nat) ρ σ' => ∃ (F : List Bool) (lo hi : Nat), ρ = [(1, .ptr σ.length 0), (4, .d (.sl (dbs F))), (16, vint .i64 ((j + 1 : Nat) : Int))] ∧ σ' = σ ++ [boxT s] ∧ NP lo hi F ∧ (lo : Int) = ((r.take j).map (lenT false)).foldl g (lenT false x) ∧ (hi : Int) = ((r.take j).map (lenT true)).foldl max (lenT true x)) r.length
    (shift_last (σ := σ ++ [boxT s]) (l := [vbs Z]) [(1, .ptr σ.length 0), (4, .d (.sl (dbs F))), (16, .d (dint 1))] (show σ.length ≤ _ by simp) hbx1 (fun p hp => ?_))
    ⟨F, x0, x1, rfl, rfl, hF, hx0.symm, hx1.symm⟩ ?_ _
  · simp only [List.mem_cons, List.not_mem_nil, or_false] at hp
    rcases hp with rfl | rfl | rfl
    · exact hsame _ _ (show V.under _ (V.ptr σ.length 0) = true by simp [V.under])
    · exact hsame _ _ rfl
    · exact hsame _ _ rfl
  clear hF hx0 hx1 F
  rintro j ρ' σ' hj ⟨F, lo, hi, rfl, rfl, hF, hlo, hhi⟩
  have hFl := hF.len
  by_cases hlt : j < r.length
  · have hlt' : j + 1 < s.args.length := by omega
    have hgy : s.args[j + 1] = r[j] := by simp [hxr]
    have hy : r[j] ∈ s.args := by rw [hxr]; exact List.mem_cons_of_mem _ (List.getElem_mem hlt)
    have t0 : ((r.take (j + 1)).map (lenT false)).foldl g (lenT false x) = g (((r.take j).map (lenT false)).foldl g (lenT false x)) (lenT false r[j]) := by
      rw [List.take_add_one, List.getElem?_eq_getElem hlt, List.map_append, List.foldl_append]; rfl
    have t1 : ((r.take (j + 1)).map (lenT true)).foldl max (lenT true x) = max (((r.take j).map (lenT true)).foldl max (lenT true x)) (lenT true r[j]) := by
      rw [List.take_add_one, List.getElem?_eq_getElem hlt, List.map_append, List.foldl_append]; rfl
    generalize r[j] = y at *
    simp -dsimp -implicitDefEqProofs only [aw, slots0, V.copy, V.lend, V.lend1, V.cells, V.boxable, over, bldV, boundV, rowsOf, plains, V.plain, Nat.reduceLeDiff, cond_true, cond_false, implies_true, eq_self, ne_eq, reduceIte, reduceCtorEq, Nat.reduceBEq, Nat.reduceLT, Nat.reduceEqDiff, Nat.reduceAdd, Nat.reduceSub, Nat.reduceMul, Int.ofNat_lt, hlt', decide_true, List.getElem?_eq_getElem hlt', hgy, dts_eq y]
    refine ret_pos (s := y) (by simpa only [vts_eq] using hcall y hy _) ?_
    rintro S ⟨y0, y1, hy0, hy1, hS⟩
    have hSl := hS.len
    simp -dsimp -implicitDefEqProofs only [aw, slots0, V.copy, V.lend, V.lend1, V.cells, V.boxable, over, bldV, boundV, rowsOf, plains, V.plain, Nat.reduceLeDiff, cond_true, cond_false, implies_true, eq_self, ne_eq, reduceIte, reduceCtorEq, Nat.reduceBEq, Nat.reduceLT, Nat.reduceEqDiff, Nat.reduceAdd, Nat.reduceSub, Nat.reduceMul]
    refine onT_intro ⟨by omega, by omega⟩ ?_
    have wj := wrap_nat hlt' (show s.args.length ≤ 9223372036854775807 by omega)
    have hnext : ∀ (N : List Bool) (lo' hi' : Nat), NP lo' hi' N → (lo' : Int) = g lo y0 → (hi' : Int) = max (hi : Int) y1 → NxtS σ.length (fun ρ σ' => ∃ (F : List Bool) (lo hi : Nat), ρ = [(1, .ptr σ.length 0), (4, .d (.sl (dbs F))), (16, vint .i64 ((j + 1 + 1 : Nat) : Int))] ∧ σ' = σ ++ [boxT s] ∧ NP lo hi F ∧ (lo : Int) = ((r.take (j + 1)).map (lenT false)).foldl g (lenT false x) ∧ (hi : Int) = ((r.take (j + 1)).map (lenT true)).foldl max (lenT true x)) [(1, .ptr σ.length 0), (4, .bsl (σ.length + 1) 0 401 1), (16, vint .i64 ((j + 1 + 1 : Nat) : Int))] (σ ++ [boxT s, vbs N]) .mk := fun N lo' hi' hN h1 h2 => by
      rw [hσ1]
      refine NxtS.frz (σ := σ ++ [boxT s]) (l := [vbs N]) [(1, .ptr σ.length 0), (4, .d (.sl (dbs N))), (16, vint .i64 ((j + 1 + 1 : Nat) : Int))] (by simp) hbx1 (fun p hp => ?_) ⟨N, lo', hi', rfl, rfl, hN, by rw [t0, h1, ← hlo, hy0], by rw [t1, h2, ← hhi, hy1]⟩
      simp only [List.mem_cons, List.not_mem_nil, or_false] at hp
      rcases hp with rfl | rfl | rfl
      · exact hsame _ _ (show V.under _ (V.ptr σ.length 0) = true by simp [V.under])
      · exact frz4 _ hN.len
      · exact hsame _ _ rfl
    simp -dsimp -implicitDefEqProofs only [aw, slots0, V.copy, V.lend, V.lend1, V.cells, V.boxable, over, bldV, boundV, rowsOf, plains, V.plain, Nat.reduceLeDiff, cond_true, cond_false, implies_true, eq_self, ne_eq, reduceIte, reduceCtorEq, Nat.reduceBEq, Nat.reduceLT, Nat.reduceEqDiff, Nat.reduceAdd, Nat.reduceSub, Nat.reduceMul, h401, hz2]
    by_cases o4 : s.op = 4
    · refine awp_forK [1, 4, 16, 17, 18, 178, 179] (R := fun (a : Nat) ρ σ' => ρ = [(1, .ptr σ.length 0), (4, .d (.sl (dbs F))), (16, vint .i64 ((j + 1 : Nat) : Int)), (17, .d (.sl (dbs S))), (18, .bsl (σ.length + 1) 0 401 1), (178, vint .i64 F.length), (179, vint .i64 a)] ∧ ∃ N, σ' = σ ++ [boxT s, vbs N] ∧ OrI F S N (min lo y0) (max hi y1) a 0) F.length ⟨rfl, Z, rfl, ⟨hzl, fun n hn => absurd hn (hzf n), fun _ _ h => by omega, fun _ _ h => by omega⟩⟩ ?_ _
      rintro a ρ' σ' ha ⟨rfl, N, rfl, hN⟩
      by_cases hla : a < F.length
      · have wa := wrap_nat hla (show F.length ≤ 9223372036854775807 by omega)
        simp -dsimp -implicitDefEqProofs only [aw, slots0, V.copy, V.lend, V.lend1, V.cells, V.boxable, over, bldV, boundV, rowsOf, plains, V.plain, Nat.reduceLeDiff, cond_true, cond_false, implies_true, eq_self, ne_eq, reduceIte, reduceCtorEq, Nat.reduceBEq, Nat.reduceLT, Nat.reduceEqDiff, Nat.reduceAdd, Nat.reduceSub, Nat.reduceMul, Int.ofNat_lt, hla, decide_true]
        refine awp_forK [1, 4, 16, 17, 18, 19, 178, 179, 183, 184] (R := fun (b : Nat) ρ σ' => ρ = [(1, .ptr σ.length 0), (4, .d (.sl (dbs F))), (16, vint .i64 ((j + 1 : Nat) : Int)), (17, .d (.sl (dbs S))), (18, .bsl (σ.length + 1) 0 401 1), (19, vint .i64 a), (178, vint .i64 F.length), (179, vint .i64 a), (183, vint .i64 S.length), (184, vint .i64 b)] ∧ ∃ N, σ' = σ ++ [boxT s, vbs N] ∧ OrI F S N (min lo y0) (max hi y1) a b) S.length ⟨rfl, N, rfl, hN⟩ ?_ _
        clear hN N
        rintro b ρ' σ' hb' ⟨rfl, N, rfl, hN⟩
        have hNl := hN.len
        have hvl : (vbs N).length = 401 := by rw [vbs, List.length_map, hNl]
        by_cases hlb : b < S.length
        · have wb := wrap_nat hlb (show S.length ≤ 9223372036854775807 by omega)
          have ha4 : a < 401 := by omega
          have hb4 : b < 401 := by omega
          have ha4' : a ≤ 400 := by omega
          have hb4' : b ≤ 400 := by omega
          have haN : a < N.length := by omega
          have hbN : b < N.length := by omega
          have hca : a + 1 ≤ N.length := by omega
          obtain ⟨N1, hN1⟩ : ∃ N1, N1 = N.set a (N[a] || F[a]) := ⟨_, rfl⟩
          have hN1l : N1.length = 401 := by rw [hN1, List.length_set, hNl]
          have hv1 : (vbs N1).length = 401 := by rw [vbs, List.length_map, hN1l]
          have hbN1 : b < N1.length := by omega
          have hcb : b + 1 ≤ N1.length := by omega
          have hst1 := vbs_set (L := N) (n := a) haN (N[a] || F[a])
          rw [← hN1] at hst1
          obtain ⟨N2, hN2⟩ : ∃ N2, N2 = N1.set b (N1[b] || S[b]) := ⟨_, rfl⟩
          have hst2 := vbs_set (L := N1) (n := b) hbN1 (N1[b] || S[b])
          rw [← hN2] at hst2
          have k1 : ∀ m : Nat, N[m]? = some true → N1[m]? = some true := fun m h => by rw [hN1]; exact set_keep_or haN h
          have k2 : ∀ m : Nat, N1[m]? = some true → N2[m]? = some true := fun m h => by rw [hN2]; exact set_keep_or hbN1 h
          have hfin : OrI F S N2 (min lo y0) (max hi y1) a (b + 1) := by
            refine ⟨by rw [hN2, List.length_set, hN1l], fun m hm => ?_, fun x' hx' hp => ?_, fun y' hy' hp => ?_⟩
            · rw [hN2] at hm
              have hm1 : N1[m]? = some true ∨ S[m]? = some true := by
                rcases set_or hm hbN1 with ⟨e, e2⟩ | e
                · subst e
                  rcases Bool.or_eq_true_iff.1 e2 with e3 | e3
                  · exact .inl (by rw [List.getElem?_eq_getElem hbN1, e3])
                  · exact .inr (by rw [List.getElem?_eq_getElem hlb, e3])
                · exact .inl e
              rcases hm1 with h | h
              · rw [hN1] at h
                rcases set_or h haN with ⟨e, e2⟩ | e
                · subst e
                  rcases Bool.or_eq_true_iff.1 e2 with e3 | e3
                  · exact hN.bd _ (by rw [List.getElem?_eq_getElem haN, e3])
                  · have := hF.bd _ (by rw [List.getElem?_eq_getElem hla, e3]); omega
                · exact hN.bd _ e
              · have := hS.bd _ h; omega
            · by_cases hp' : x' < a ∨ x' = a ∧ 0 < b
              · exact k2 _ (k1 _ (hN.one x' hx' hp'))
              · have e1 : x' = a := by omega
                subst e1
                rw [List.getElem?_eq_getElem hla] at hx'
                refine k2 _ ?_
                rw [hN1, List.getElem?_set_self haN, Option.some.inj hx', Bool.or_true]
            · by_cases hp' : 0 < a ∨ y' < b
              · exact k2 _ (k1 _ (hN.two y' hy' hp'))
              · have e1 : y' = b := by omega
                subst e1
                rw [List.getElem?_eq_getElem hlb] at hy'
                rw [hN2, List.getElem?_set_self hbN1, Option.some.inj hy', Bool.or_true]
          cases h1 : N[a] with
          | true =>
            rw [h1, Bool.true_or] at hst1
            cases h2 : N1[b] with
            | true =>
              rw [h2, Bool.true_or] at hst2
              simp -dsimp -implicitDefEqProofs only [aw, slots0, V.copy, V.lend, V.lend1, V.cells, V.boxable, over, bldV, boundV, rowsOf, plains, V.plain, Nat.reduceLeDiff, cond_true, cond_false, implies_true, eq_self, ne_eq, reduceIte, reduceCtorEq, Nat.reduceBEq, Nat.reduceLT, Nat.reduceEqDiff, Nat.reduceAdd, Nat.reduceSub, Nat.reduceMul, Int.ofNat_lt, hlb, decide_true, decide_eq_true o4, ha4, hb4, ha4', hb4', hca, hcb, hvl, hv1, vbs_pk haN, vbs_pk hbN1, h1, h2, hst1, hst2, Nat.mul_one, wb, List.getElem?_eq_getElem hla, List.getElem?_eq_getElem hlb]
              exact Nxt.same (by simp) (hbx N2) (by simp [slotsBelow, V.under]) ⟨rfl, N2, rfl, hfin⟩
            | false =>
              rw [h2, Bool.false_or] at hst2
              simp -dsimp -implicitDefEqProofs only [aw, slots0, V.copy, V.lend, V.lend1, V.cells, V.boxable, over, bldV, boundV, rowsOf, plains, V.plain, Nat.reduceLeDiff, cond_true, cond_false, implies_true, eq_self, ne_eq, reduceIte, reduceCtorEq, Nat.reduceBEq, Nat.reduceLT, Nat.reduceEqDiff, Nat.reduceAdd, Nat.reduceSub, Nat.reduceMul, Int.ofNat_lt, hlb, decide_true, decide_eq_true o4, ha4, hb4, ha4', hb4', hca, hcb, hvl, hv1, vbs_pk haN, vbs_pk hbN1, h1, h2, hst1, hst2, Nat.mul_one, wb, List.getElem?_eq_getElem hla, List.getElem?_eq_getElem hlb]
              exact Nxt.same (by simp) (hbx N2) (by simp [slotsBelow, V.under]) ⟨rfl, N2, rfl, hfin⟩
          | false =>
            rw [h1, Bool.false_or] at hst1
            cases h2 : N1[b] with
            | true =>
              rw [h2, Bool.true_or] at hst2
              simp -dsimp -implicitDefEqProofs only [aw, slots0, V.copy, V.lend, V.lend1, V.cells, V.boxable, over, bldV, boundV, rowsOf, plains, V.plain, Nat.reduceLeDiff, cond_true, cond_false, implies_true, eq_self, ne_eq, reduceIte, reduceCtorEq, Nat.reduceBEq, Nat.reduceLT, Nat.reduceEqDiff, Nat.reduceAdd, Nat.reduceSub, Nat.reduceMul, Int.ofNat_lt, hlb, decide_true, decide_eq_true o4, ha4, hb4, ha4', hb4', hca, hcb, hvl, hv1, vbs_pk haN, vbs_pk hbN1, h1, h2, hst1, hst2, Nat.mul_one, wb, List.getElem?_eq_getElem hla, List.getElem?_eq_getElem hlb]
              exact Nxt.same (by simp) (hbx N2) (by simp [slotsBelow, V.under]) ⟨rfl, N2, rfl, hfin⟩
            | false =>
              rw [h2, Bool.false_or] at hst2
              simp -dsimp -implicitDefEqProofs only [aw, slots0, V.copy, V.lend, V.lend1, V.cells, V.boxable, over, bldV, boundV, rowsOf, plains, V.plain, Nat.reduceLeDiff, cond_true, cond_false, implies_true, eq_self, ne_eq, reduceIte, reduceCtorEq, Nat.reduceBEq, Nat.reduceLT, Nat.reduceEqDiff, Nat.reduceAdd, Nat.reduceSub, Nat.reduceMul, Int.ofNat_lt, hlb, decide_true, decide_eq_true o4, ha4, hb4, ha4', hb4', hca, hcb, hvl, hv1, vbs_pk haN, vbs_pk hbN1, h1, h2, hst1, hst2, Nat.mul_one, wb, List.getElem?_eq_getElem hla, List.getElem?_eq_getElem hlb]
              exact Nxt.same (by simp) (hbx N2) (by simp [slotsBelow, V.under]) ⟨rfl, N2, rfl, hfin⟩
        · have hN2 : OrI F S N (min lo y0) (max hi y1) (a + 1) 0 := ⟨hN.len, hN.bd, fun x hx' hp => hN.one x hx' (by have := (List.getElem?_eq_some_iff.1 hx').1; omega), fun y' hy' _ => hN.two y' hy' (by have := (List.getElem?_eq_some_iff.1 hy').1; omega)⟩
          simp -dsimp -implicitDefEqProofs only [aw, slots0, V.copy, V.lend, V.lend1, V.cells, V.boxable, over, bldV, boundV, rowsOf, plains, V.plain, Nat.reduceLeDiff, cond_true, cond_false, implies_true, eq_self, ne_eq, reduceIte, reduceCtorEq, Nat.reduceBEq, Nat.reduceLT, Nat.reduceEqDiff, Nat.reduceAdd, Nat.reduceSub, Nat.reduceMul, Int.ofNat_lt, hlb, decide_false, wa]
          exact ⟨hla, Nxt.same (by simp) (hbx N) (by simp [slotsBelow, V.under]) ⟨rfl, N, rfl, hN2⟩⟩
      · simp -dsimp -implicitDefEqProofs only [aw, slots0, V.copy, V.lend, V.lend1, V.cells, V.boxable, over, bldV, boundV, rowsOf, plains, V.plain, Nat.reduceLeDiff, cond_true, cond_false, implies_true, eq_self, ne_eq, reduceIte, reduceCtorEq, Nat.reduceBEq, Nat.reduceLT, Nat.reduceEqDiff, Nat.reduceAdd, Nat.reduceSub, Nat.reduceMul, Int.ofNat_lt, hla, decide_false, wj]
        exact ⟨hlt, hnext N _ _ ⟨hN.len, hN.bd, by rcases Nat.le_total lo y0 with h | h; · { rw [Nat.min_eq_left h]; exact hN.one _ hF.lo (by have := (List.getElem?_eq_some_iff.1 hF.lo).1; omega) }; · { rw [Nat.min_eq_right h]; exact hN.two _ hS.lo (by omega) }, by rcases Nat.le_total hi y1 with h | h; · { rw [Nat.max_eq_right h]; exact hN.two _ hS.hi (by omega) }; · { rw [Nat.max_eq_left h]; exact hN.one _ hF.hi (by have := (List.getElem?_eq_some_iff.1 hF.hi).1; omega) }⟩ (by rw [hgd]; simp only [if_pos o4]; omega) (by omega)⟩
    · refine awp_forK [1, 4, 16, 17, 18, 178, 179] (R := fun (a : Nat) ρ σ' => ρ = [(1, .ptr σ.length 0), (4, .d (.sl (dbs F))), (16, vint .i64 ((j + 1 : Nat) : Int)), (17, .d (.sl (dbs S))), (18, .bsl (σ.length + 1) 0 401 1), (178, vint .i64 F.length), (179, vint .i64 a)] ∧ ∃ N, σ' = σ ++ [boxT s, vbs N] ∧ AndI F S N (max lo y0) (max hi y1) a 0) F.length ⟨rfl, Z, rfl, ⟨hzl, fun n hn => absurd hn (hzf n), fun _ _ _ _ h => by omega⟩⟩ ?_ _
      rintro a ρ' σ' ha ⟨rfl, N, rfl, hN⟩
      by_cases hla : a < F.length
      · have wa := wrap_nat hla (show F.length ≤ 9223372036854775807 by omega)
        simp -dsimp -implicitDefEqProofs only [aw, slots0, V.copy, V.lend, V.lend1, V.cells, V.boxable, over, bldV, boundV, rowsOf, plains, V.plain, Nat.reduceLeDiff, cond_true, cond_false, implies_true, eq_self, ne_eq, reduceIte, reduceCtorEq, Nat.reduceBEq, Nat.reduceLT, Nat.reduceEqDiff, Nat.reduceAdd, Nat.reduceSub, Nat.reduceMul, Int.ofNat_lt, hla, decide_true]
        refine awp_forK [1, 4, 16, 17, 18, 19, 178, 179, 183, 184] (R := fun (b : Nat) ρ σ' => ρ = [(1, .ptr σ.length 0), (4, .d (.sl (dbs F))), (16, vint .i64 ((j + 1 : Nat) : Int)), (17, .d (.sl (dbs S))), (18, .bsl (σ.length + 1) 0 401 1), (19, vint .i64 a), (178, vint .i64 F.length), (179, vint .i64 a), (183, vint .i64 S.length), (184, vint .i64 b)] ∧ ∃ N, σ' = σ ++ [boxT s, vbs N] ∧ AndI F S N (max lo y0) (max hi y1) a b) S.length ⟨rfl, N, rfl, hN⟩ ?_ _
        clear hN N
        rintro b ρ' σ' hb' ⟨rfl, N, rfl, hN⟩
        have hNl := hN.len
        have hvl : (vbs N).length = 401 := by rw [vbs, List.length_map, hNl]
        by_cases hlb : b < S.length
        · have wb := wrap_nat hlb (show S.length ≤ 9223372036854775807 by omega)
          have ha4 : a < 401 := by omega
          have hb4 : b < 401 := by omega
          have ha4' : a ≤ 400 := by omega
          have hb4' : b ≤ 400 := by omega
          obtain ⟨m, hm⟩ : ∃ m, m = max a b := ⟨_, rfl⟩
          have hmx : max (a : Int) (b : Int) = (m : Int) := by omega
          have hm4 : m < 401 := by omega
          have hm4' : m ≤ 400 := by omega
          have hmN : m < N.length := by omega
          have hst := vbs_set (L := N) (n := m) hmN true
          have hskip : (F[a] && S[b]) = false → AndI F S N (max lo y0) (max hi y1) a (b + 1) := fun hf => ⟨hN.len, hN.bd, fun x' y' hx' hy' hp => by
            by_cases hp' : x' < a ∨ x' = a ∧ y' < b
            · exact hN.both x' y' hx' hy' hp'
            · have e1 : x' = a := by omega
              have e2 : y' = b := by omega
              subst e1; subst e2
              rw [List.getElem?_eq_getElem hla] at hx'
              rw [List.getElem?_eq_getElem hlb] at hy'
              rw [Option.some.inj hx', Option.some.inj hy'] at hf
              cases hf⟩
          cases h1 : F[a] with
          | false =>
            have hfin := hskip (by rw [h1]; rfl)
            simp -dsimp -implicitDefEqProofs only [aw, slots0, V.copy, V.lend, V.lend1, V.cells, V.boxable, over, bldV, boundV, rowsOf, plains, V.plain, Nat.reduceLeDiff, cond_true, cond_false, implies_true, eq_self, ne_eq, reduceIte, reduceCtorEq, Nat.reduceBEq, Nat.reduceLT, Nat.reduceEqDiff, Nat.reduceAdd, Nat.reduceSub, Nat.reduceMul, Int.ofNat_lt, hlb, decide_true, decide_eq_false o4, List.getElem?_eq_getElem hla, h1, wb]
            exact Nxt.same (by simp) (hbx N) (by simp [slotsBelow, V.under]) ⟨rfl, N, rfl, hfin⟩
          | true =>
            cases h2 : S[b] with
            | false =>
              have hfin := hskip (by rw [h2, Bool.and_false])
              simp -dsimp -implicitDefEqProofs only [aw, slots0, V.copy, V.lend, V.lend1, V.cells, V.boxable, over, bldV, boundV, rowsOf, plains, V.plain, Nat.reduceLeDiff, cond_true, cond_false, implies_true, eq_self, ne_eq, reduceIte, reduceCtorEq, Nat.reduceBEq, Nat.reduceLT, Nat.reduceEqDiff, Nat.reduceAdd, Nat.reduceSub, Nat.reduceMul, Int.ofNat_lt, hlb, decide_true, decide_eq_false o4, List.getElem?_eq_getElem hla, List.getElem?_eq_getElem hlb, h1, h2, wb]
              exact Nxt.same (by simp) (hbx N) (by simp [slotsBelow, V.under]) ⟨rfl, N, rfl, hfin⟩
            | true =>
              have hfin : AndI F S (N.set m true) (max lo y0) (max hi y1) a (b + 1) := by
                refine ⟨by rw [List.length_set, hNl], fun q hq => ?_, fun x' y' hx' hy' hp => ?_⟩
                · rcases set_true hq hmN with e | e
                  · have e1 := hF.bd a (by rw [List.getElem?_eq_getElem hla, h1])
                    have e2 := hS.bd b (by rw [List.getElem?_eq_getElem hlb, h2])
                    omega
                  · exact hN.bd q e
                · by_cases hp' : x' < a ∨ x' = a ∧ y' < b
                  · exact set_keep (hN.both x' y' hx' hy' hp')
                  · have e1 : max x' y' = m := by omega
                    rw [e1]; exact List.getElem?_set_self hmN
              simp -dsimp -implicitDefEqProofs only [aw, slots0, V.copy, V.lend, V.lend1, V.cells, V.boxable, over, bldV, boundV, rowsOf, plains, V.plain, Nat.reduceLeDiff, cond_true, cond_false, implies_true, eq_self, ne_eq, reduceIte, reduceCtorEq, Nat.reduceBEq, Nat.reduceLT, Nat.reduceEqDiff, Nat.reduceAdd, Nat.reduceSub, Nat.reduceMul, Int.ofNat_lt, hlb, decide_true, decide_eq_false o4, List.getElem?_eq_getElem hla, List.getElem?_eq_getElem hlb, h1, h2, hmx, hm4, hm4', hvl, hst, Nat.mul_one, wb, if_true]
              exact Nxt.same (by simp) (hbx _) (by simp [slotsBelow, V.under]) ⟨rfl, _, rfl, hfin⟩
        · have hN2 : AndI F S N (max lo y0) (max hi y1) (a + 1) 0 := ⟨hN.len, hN.bd, fun x' y' hx' hy' hp => hN.both x' y' hx' hy' (by have := (List.getElem?_eq_some_iff.1 hy').1; omega)⟩
          simp -dsimp -implicitDefEqProofs only [aw, slots0, V.copy, V.lend, V.lend1, V.cells, V.boxable, over, bldV, boundV, rowsOf, plains, V.plain, Nat.reduceLeDiff, cond_true, cond_false, implies_true, eq_self, ne_eq, reduceIte, reduceCtorEq, Nat.reduceBEq, Nat.reduceLT, Nat.reduceEqDiff, Nat.reduceAdd, Nat.reduceSub, Nat.reduceMul, Int.ofNat_lt, hlb, decide_false, wa]
          exact ⟨hla, Nxt.same (by simp) (hbx N) (by simp [slotsBelow, V.under]) ⟨rfl, N, rfl, hN2⟩⟩
      · simp -dsimp -implicitDefEqProofs only [aw, slots0, V.copy, V.lend, V.lend1, V.cells, V.boxable, over, bldV, boundV, rowsOf, plains, V.plain, Nat.reduceLeDiff, cond_true, cond_false, implies_true, eq_self, ne_eq, reduceIte, reduceCtorEq, Nat.reduceBEq, Nat.reduceLT, Nat.reduceEqDiff, Nat.reduceAdd, Nat.reduceSub, Nat.reduceMul, Int.ofNat_lt, hla, decide_false, wj]
        exact ⟨hlt, hnext N _ _ ⟨hN.len, hN.bd, hN.both _ _ hF.lo hS.lo (by have := (List.getElem?_eq_some_iff.1 hF.lo).1; omega), hN.both _ _ hF.hi hS.hi (by have := (List.getElem?_eq_some_iff.1 hF.hi).1; omega)⟩ (by rw [hgd]; simp only [if_neg o4]; omega) (by omega)⟩
  · have hlt' : ¬ j + 1 < s.args.length := by omega
    rw [List.take_of_length_le (show r.length ≤ j by omega)] at hlo hhi
    simp -dsimp -implicitDefEqProofs only [aw, slots0, V.copy, V.lend, V.lend1, V.cells, V.boxable, over, bldV, boundV, rowsOf, plains, V.plain, Nat.reduceLeDiff, cond_true, cond_false, implies_true, eq_self, ne_eq, reduceIte, reduceCtorEq, Nat.reduceBEq, Nat.reduceLT, Nat.reduceEqDiff, Nat.reduceAdd, Nat.reduceSub, Nat.reduceMul, Int.ofNat_lt, hlt', decide_false]
    exact out1 F (hend F lo hi hF hlo hhi)
end Go.Proofs.YtbhippphcmkjnaaGreatDoor
