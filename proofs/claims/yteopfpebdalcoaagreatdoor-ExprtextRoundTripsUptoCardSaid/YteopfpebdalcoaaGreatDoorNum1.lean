/-
  Arguments as plain data: all of memory taken as facts, and readers for slices, numbers, texts. No program is in sight here. From an argument that reads to plain data, with what else is known of the elements. No program is in sight here. The reference's reader of sources, in the plain world: bytes, places, lines, blanks. The reference's numbers in the plain world: sums, products by ten, numerals.
-/
import Derived.Test.YteopfpebdalcoaaGreatDoorA20
import Derived.ProofKit
import Derived.Deep.Slices
import Derived.ChangeArms
import Derived.Test.YteopfpebdalcoaaGreatDoorElem
set_option linter.unusedVariables false
set_option linter.unusedSimpArgs false
set_option linter.unusedSectionVars false
namespace Go.Proofs.YteopfpebdalcoaaGreatDoor
open Go.RowKit
def mem (w : World) : Facts := fun b o => w.cell? ⟨b, o, none⟩
theorem mem_hold (w : World) : (mem w).hold w := fun _ _ _ h => h
theorem inv_start (w : World) : Inv (mem w) [] [] (fun _ _ => none) (fun b => b < w.heap.size) w :=
  { facts := mem_hold w, len := rfl, box := fun i b cs h => by simp at h, free := fun b h => by simp at h, bmnd := List.nodup_nil,
    tok := fun i j g h => (nomatch h), inj := fun i j i' j' g h => (nomatch h), prlt := fun b h => h }
def DReps (M : Facts) (ds : List D) (cs : List Value) : Prop := cs.length = ds.length ∧ ∀ i (h : i < ds.length) (h' : i < cs.length), DRep M ds[i] cs[i]
theorem DReps.nil {M : Facts} : DReps M [] [] := ⟨rfl, fun i h => by simp at h⟩
theorem DReps.cons {M : Facts} {d : D} {v : Value} {ds : List D} {cs : List Value} (h : DRep M d v) (hs : DReps M ds cs) : DReps M (d :: ds) (v :: cs) :=
  ⟨by simp [hs.1], fun i h1 h2 => by
    cases i with
    | zero => exact h
    | succ i => exact hs.2 i (by simpa using h1) (by simpa using h2)⟩
theorem DReps.rep {M : Facts} {bm : List Nat} {ds : List D} {cs : List Value} (h : DReps M ds cs) : Rep M bm (.agg (ds.map V.d)) (.agg cs.toArray) := by
  refine .agg (by simp [h.1]) (fun i g g' => ?_) (fun v hv => ?_)
  · simp only [List.getElem_map]
    exact .d (h.2 i (by simpa using g) g')
  · obtain ⟨i, hi, rfl⟩ := List.getElem_of_mem hv
    exact (h.2 i (by rw [← h.1]; exact hi) hi).one
theorem spot_of_cell {w : World} {a : Addr} {v : Value} (h : w.cell? a = some v) : a.spot = none := by
  unfold World.cell? at h
  split at h
  · split at h
    · cases h
    · rename_i hs; simpa using hs
  · cases h
section
variable {H : Type} {enc : TypeId × Value → H} {P : Program} {W : World} {base : Nat} {spare : Nat → Bool} {held : Bool} {fuel : Nat} {t : TypeId} {cs : List Value} {x : DataW H × List MemPlace}
theorem int_reads (hu : P.underlying t = some (.int .i64)) (h : DataW.trod enc P W base spare held fuel t cs = some x) : ∃ n, cs = [.int .i64 n] ∧ Fits (.int .i64 n) := by
  obtain ⟨n, rfl, -, w0⟩ := DataW.trod_int hu h
  exact ⟨n, rfl, by simpa [Fits, Lit.wf, IntKind.min, IntKind.max, IntKind.signed, IntKind.bits] using w0⟩
theorem str_reads (hu : P.underlying t = some .string) (h : DataW.trod enc P W base spare held fuel t cs = some x) : ∃ s : ByteArray, cs = [.string s] ∧ Fits (.string s) := by
  obtain ⟨n, rfl, -, w0⟩ := DataW.trod_string hu h
  exact ⟨n, rfl, w0⟩
end
end Go.Proofs.YteopfpebdalcoaaGreatDoor
namespace Go.Proofs.YteopfpebdalcoaaGreatDoor
open Go.RowKit
section
variable {H : Type} {enc : TypeId × Value → H} {P : Program} {W : World} {base : Nat} {spare : Nat → Bool} {held : Bool} {fuel : Nat} {t : TypeId} {cs : List Value} {x : DataW H × List MemPlace}
theorem slice_readsQ {e : TypeId} {k : Nat} (hu : P.underlying t = some (.slice e)) (hk : P.cellsOf e = k) (hk0 : 0 < k) {α : Type} [Inhabited α] (dr : α → List D) (hdr : ∀ a, (dr a).length = k) (Q : α → DataW H → Prop)
    (h : DataW.trod enc P W base spare held fuel t cs = some x) (he : ∀ n, n < fuel → ∀ cs' y, DataW.trod enc P W base spare held n e cs' = some y → ∃ a, DReps (mem W) (dr a) cs' ∧ Q a y.1) :
    ∃ (l : List α) (v : Value), cs = [v] ∧ DRep (mem W) (.sl (l.map dr)) v ∧ ((x.1 = .nil ∧ l = []) ∨ ∃ elems rest : List (DataW H), x.1 = .slice elems rest ∧ elems.length = l.length ∧ ∀ i (h : i < l.length) (h' : i < elems.length), Q l[i] elems[i]) := by
  rcases DataW.trod_slice hu h with ⟨rfl, hx⟩ | ⟨ad, len, cap, elems, rest, n', hn', rfl, hx, hb, hl, hm, hlen2, hel, -, -⟩
  · exact ⟨[], _, rfl, DRep.nil _, .inl ⟨by rw [hx], rfl⟩⟩
  · have hsp : 0 < len → ad.spot = none := by
      intro hi
      have h1 := hel 0 hi
      rw [hk, List.getElem?_eq_getElem (by omega)] at h1
      obtain ⟨cs', hc, ht⟩ := Option.bind_eq_some_iff.1 h1
      obtain ⟨-, hcl, hcc⟩ := World.cells?_some hc
      have h2 := hcc 0 hk0
      rw [List.getElem?_eq_getElem (by omega)] at h2
      have h3 := spot_of_cell h2
      simpa [Addr.add] using h3
    have hall : ∀ i, i < len → ∃ q : α × List Value, ad.spot = none ∧ (∀ j, j < k → mem W ad.block (ad.off + i * k + j) = some (q.2[j]?.getD .nilIface)) ∧ q.2.length = k ∧ DReps (mem W) (dr q.1) q.2 ∧ ∀ y, elems[i]? = some y → Q q.1 y.1 := by
      intro i hi
      have h1 := hel i hi
      rw [hk, List.getElem?_eq_getElem (by omega)] at h1
      obtain ⟨cs', hc, ht⟩ := Option.bind_eq_some_iff.1 h1
      obtain ⟨a, ha, hq⟩ := he n' (by omega) cs' _ ht
      obtain ⟨-, hcl, hcc⟩ := World.cells?_some hc
      have hs0 := hsp (by omega)
      refine ⟨(a, cs'), hs0, fun j hj => ?_, hcl, ha, fun y hy => by rw [List.getElem?_eq_getElem (by omega)] at hy; cases hy; exact hq⟩
      have h2 := hcc j hj
      rw [List.getElem?_eq_getElem (by omega)] at h2
      have ha : (ad.add (i * k)).add j = ⟨ad.block, ad.off + i * k + j, none⟩ := by
        cases ad
        simp only at hs0
        subst hs0
        unfold Addr.add
        by_cases h1 : i * k = 0
        · by_cases h2 : j = 0
          · subst h2; simp [h1]
          · simp [h1, h2]
        · by_cases h2 : j = 0
          · subst h2; simp [h1]
          · simp [h1, h2]
      rw [ha] at h2
      show mem W _ _ = some (cs'[j]?.getD .nilIface)
      rw [List.getElem?_eq_getElem (by omega), Option.getD_some]
      exact h2
    obtain ⟨f, hfx⟩ := Go.Deep.choose_lt hall
    refine ⟨(List.range len).map fun i => (f i).1, _, rfl, ?_, .inr ⟨_, _, by rw [hx], by simp [hlen2], fun i h1 h2 => ?_⟩⟩
    · have hlen : (((List.range len).map fun i => (f i).1).map dr).length = len := by simp
      generalize hrs : ((List.range len).map fun i => (f i).1).map dr = rows at hlen
      have hri : ∀ i (h : i < rows.length), rows[i] = dr (f i).1 := fun i h => by subst hrs; simp
      subst hlen
      refine .sl rows k (some ad) cap (fun i j => (f i).2[j]?.getD .nilIface) (fun r hr => ?_) (fun i j hi hj => ?_) (fun i hi => ?_) hl hm
      · obtain ⟨i, hi, rfl⟩ := List.getElem_of_mem hr
        rw [hri i hi]; exact hdr _
      · obtain ⟨k1, k2, k3, k4, -⟩ := hfx i hi
        have hjk : j < k := by rw [hri i hi, hdr] at hj; exact hj
        simp only [hri i hi]
        rw [List.getElem?_eq_getElem (by omega : j < (f i).2.length), Option.getD_some]
        exact k4.2 j (by rw [hdr]; exact hjk) (by omega)
      · obtain ⟨k1, k2, k3, k4, -⟩ := hfx i hi
        exact ⟨ad.block, ad.off, by cases ad; simp_all, fun j hj => k2 j hj⟩
    · have hi : i < len := by simpa using h1
      obtain ⟨-, -, -, -, hq⟩ := hfx i hi
      simp only [List.getElem_map, List.getElem_range]
      exact hq _ (List.getElem?_eq_getElem (by omega))
end
end Go.Proofs.YteopfpebdalcoaaGreatDoor
namespace Go.Proofs.YteopfpebdalcoaaGreatDoor
open Go.RowKit
theorem r7small_fun (c : Int) (σ : List (List V)) : Fun G 50 [.d (.lit (.int .u8 c))] σ (RetV (.d (.lit (.bool (lowB c)))) σ) := by
  refine fun_code Tryz.func50 k50 rfl fun hb hw => ?_
  delta c50 oM oV kI kS kT kF; unfold lowB
  by_cases h1 : 97 ≤ c <;> by_cases h2 : c ≤ 122
  all_goals
    simp -dsimp -implicitDefEqProofs only [aw, slots0, V.copy, cond_true, eq_self, reduceIte, reduceCtorEq, Nat.reduceBEq, Nat.reduceLT, Nat.reduceEqDiff, h1, h2, decide_true, decide_false]
    first | exact fin_ret hb rfl rfl List.take_length ⟨rfl, rfl⟩
theorem r7digit_fun (c : Int) (σ : List (List V)) : Fun G 53 [.d (.lit (.int .u8 c))] σ (RetV (.d (.lit (.bool (digB c)))) σ) := by
  refine fun_code Tryz.func53 k53 rfl fun hb hw => ?_
  delta c53 oM oV kI kS kT kF; unfold digB
  by_cases h1 : 48 ≤ c <;> by_cases h2 : c ≤ 57
  all_goals
    simp -dsimp -implicitDefEqProofs only [aw, slots0, V.copy, cond_true, eq_self, reduceIte, reduceCtorEq, Nat.reduceBEq, Nat.reduceLT, Nat.reduceEqDiff, h1, h2, decide_true, decide_false]
    first | exact fin_ret hb rfl rfl List.take_length ⟨rfl, rfl⟩
theorem r7inner_fun (c : Int) (σ : List (List V)) : Fun G 90 [.d (.lit (.int .u8 c))] σ (RetV (.d (.lit (.bool (folB c)))) σ) := by
  refine fun_code Tryz.func90 k90 rfl fun hb hw => ?_
  delta c90 oM oV kI kS kT kF; unfold folB
  simp -dsimp -implicitDefEqProofs only [aw, slots0, V.copy, V.lend, eq_self, reduceIte, reduceCtorEq, Nat.reduceBEq, Nat.reduceLT]
  refine fun_ret (r7small_fun c _) ?_
  cases lowB c with
  | true =>
    simp -dsimp -implicitDefEqProofs only [aw, V.copy, eq_self, reduceIte, reduceCtorEq, Nat.reduceBEq, Nat.reduceLT, Nat.reduceEqDiff]
    exact fin_ret hb rfl rfl List.take_length ⟨rfl, rfl⟩
  | false =>
    simp -dsimp -implicitDefEqProofs only [aw, V.copy, V.lend, eq_self, reduceIte, reduceCtorEq, Nat.reduceLT, Nat.reduceEqDiff]
    refine fun_ret (r7digit_fun c _) ?_
    cases digB c with
    | true =>
      simp -dsimp -implicitDefEqProofs only [aw, V.copy, cond_false, eq_self, reduceIte, reduceCtorEq, Nat.reduceBEq, Nat.reduceLT, Nat.reduceEqDiff]
      exact fin_ret hb rfl rfl List.take_length ⟨rfl, rfl⟩
    | false =>
      unfold uppB
      cases e1 : decide (65 ≤ c) <;> cases e2 : decide (c ≤ 90) <;> cases e3 : decide (c = 95)
      all_goals
        simp -dsimp -implicitDefEqProofs only [aw, V.copy, cond_true, cond_false, eq_self, reduceIte, reduceCtorEq, Nat.reduceBEq, Nat.reduceLT, Nat.reduceEqDiff, e1, e2, e3]
        first | exact fin_ret hb rfl rfl List.take_length ⟨rfl, rfl⟩
theorem r7has_fun (l : List ByteArray) (s : ByteArray) (hl : l.length ≤ 1000000) (σ : List (List V)) : Fun G 91 [.d (dstrs l), .d (dstr s)] σ (RetV (.d (.lit (.bool (inB s l)))) σ) := by
  refine fun_code Tryz.func91 k91 rfl fun hb hw => ?_
  delta c91 oM oV kI kS kT kF
  simp -dsimp -implicitDefEqProofs only [aw, slots0, V.copy, eq_self, reduceIte, reduceCtorEq, Nat.reduceBEq, Nat.reduceLT, Nat.reduceEqDiff]
  refine awp_for (R := fun (j : Nat) ρ σ' => ρ = [(0, .d (dstrs l)), (1, .d (dstr s)), (5, vint .i64 j)] ∧ σ' = σ ∧ inB s l = inB s (l.drop j)) l.length ⟨rfl, rfl, rfl⟩ ?_ _
  rintro j ρ' σ' hj ⟨rfl, rfl, hr⟩
  by_cases hlt : j < l.length
  · have hd : inB s (l.drop j) = (decide (l[j] = s) || inB s (l.drop (j + 1))) := by rw [List.drop_eq_getElem_cons hlt]; rfl
    by_cases he : l[j] = s
    · simp -dsimp -implicitDefEqProofs only [aw, V.copy, Nat.reduceLeDiff, eq_self, reduceIte, reduceCtorEq, Nat.reduceBEq, Nat.reduceLT, Nat.reduceEqDiff, dstrs, Int.ofNat_lt, hlt, decide_true, List.getElem?_eq_getElem hlt, decide_eq_true he]
      rw [hd, decide_eq_true he] at hr
      exact fin_ret hb rfl rfl List.take_length ⟨by rw [hr]; rfl, rfl⟩
    · simp -dsimp -implicitDefEqProofs only [aw, V.copy, Nat.reduceLeDiff, eq_self, reduceIte, reduceCtorEq, Nat.reduceBEq, Nat.reduceLT, Nat.reduceEqDiff, dstrs, Int.ofNat_lt, hlt, decide_true, List.getElem?_eq_getElem hlt, decide_eq_false he, wrap_nat hlt (show l.length ≤ 9223372036854775807 by omega)]
      rw [hd, decide_eq_false he, Bool.false_or] at hr
      exact Nxt.same (Nat.le_refl _) hb rfl ⟨rfl, rfl, hr⟩
  · simp -dsimp -implicitDefEqProofs only [aw, V.copy, eq_self, reduceIte, reduceCtorEq, Nat.reduceBEq, Nat.reduceLT, Nat.reduceEqDiff, dstrs, Int.ofNat_lt, hlt, decide_false]
    rw [List.drop_eq_nil_of_le (by omega)] at hr
    exact fin_ret hb rfl rfl List.take_length ⟨by rw [hr]; rfl, rfl⟩
theorem r7keywords_fun (σ : List (List V)) : Fun G 92 [] σ (RetV (.d (dstrs kwList)) σ) := by
  refine fun_code Tryz.func92 k92 rfl fun hb hw => ?_
  delta c92 oM oV kI kS kT kF
  simp -dsimp -implicitDefEqProofs only [aw, slots0, V.copy, V.cells, rowsOf, plains, V.plain, eq_self, reduceIte, reduceCtorEq, Nat.reduceBEq, Nat.reduceLT]
  exact fin_ret hb rfl rfl List.take_length ⟨rfl, rfl⟩
def markSs : List ByteArray := markList.map bs
theorem r7iskw_fun (s : ByteArray) (σ : List (List V)) : Fun G 52 [.d (dstr s)] σ (RetV (.d (.lit (.bool (inB s kwList)))) σ) := by
  refine fun_code Tryz.func52 k52 rfl fun hb hw => ?_
  delta c52 oM oV kI kS kT kF
  simp -dsimp -implicitDefEqProofs only [aw, slots0, V.copy, V.lend, eq_self, reduceIte, reduceCtorEq, Nat.reduceBEq, Nat.reduceLT]
  refine fun_ret (r7keywords_fun _) ?_
  simp -dsimp -implicitDefEqProofs only [aw, V.copy, V.lend, eq_self, reduceIte, reduceCtorEq, Nat.reduceLT, Nat.reduceEqDiff]
  refine fun_ret (r7has_fun kwList s (by decide) _) ?_
  simp -dsimp -implicitDefEqProofs only [aw, V.copy, eq_self, reduceIte, reduceCtorEq, Nat.reduceBEq, Nat.reduceLT, Nat.reduceEqDiff]
  exact fin_ret hb rfl rfl List.take_length ⟨rfl, rfl⟩
end Go.Proofs.YteopfpebdalcoaaGreatDoor
namespace Go.Proofs.YteopfpebdalcoaaGreatDoor
open Go.RowKit
end Go.Proofs.YteopfpebdalcoaaGreatDoor
