/-
  Arguments as plain data: all of memory taken as facts, and readers for slices, numbers, texts. No program is in sight here.
-/
import Derived.Test.YtinenohgemndiaaA20
import Derived.ProofKit
import Derived.Deep.Slices
import Derived.ChangeArms
set_option linter.unusedVariables false
set_option linter.unusedSimpArgs false
set_option linter.unusedSectionVars false
namespace Go.Proofs.Ytinenohgemndiaa
open Go.RowKit
def mem (w : World) : Facts := fun b o => w.cell? ⟨b, o, none⟩
theorem mem_hold (w : World) : (mem w).hold w := fun _ _ _ h => h
theorem inv_start (w : World) : Inv (mem w) [] [] (fun _ _ => none) (fun b => b < w.heap.size) w :=
  { facts := mem_hold w, len := rfl, box := fun i b cs h => by simp at h, free := fun b h => by simp at h, bmnd := List.nodup_nil,
    tok := fun i j g h => (nomatch h), inj := fun i j i' j' g h => (nomatch h), prlt := fun b h => h }
def DReps (M : Facts) (ds : List D) (cs : List Value) : Prop := cs.length = ds.length ∧ ∀ i (h : i < ds.length) (h' : i < cs.length), DRep M ds[i] cs[i]
theorem DReps.nil {M : Facts} : DReps M [] [] := ⟨rfl, fun i h => by simp at h⟩
theorem DReps.cons {M : Facts} {d : D} {v : Value} {ds : List D} {cs : List Value} (h : DRep M d v) (hs : DReps M ds cs) : DReps M (d :: ds) (v :: cs) :=
  ⟨by simp [hs.1], fun i h1 h2 => by
    cases i with
    | zero => exact h
    | succ i => exact hs.2 i (by simpa using h1) (by simpa using h2)⟩
theorem spot_of_cell {w : World} {a : Addr} {v : Value} (h : w.cell? a = some v) : a.spot = none := by
  unfold World.cell? at h
  split at h
  · split at h
    · cases h
    · rename_i hs; simpa using hs
  · cases h
section
variable {H : Type} {enc : TypeId × Value → H} {P : Program} {W : World} {base : Nat} {spare : Nat → Bool} {held : Bool} {fuel : Nat} {t : TypeId} {cs : List Value} {x : DataW H × List MemPlace}
theorem int_reads (hu : P.underlying t = some (.int .i64)) (h : DataW.trod enc P W base spare held fuel t cs = some x) : ∃ n, cs = [.int .i64 n] ∧ Fits (.int .i64 n) := by
  obtain ⟨n, rfl, -, w0⟩ := DataW.trod_int hu h
  exact ⟨n, rfl, by simpa [Fits, Lit.wf, IntKind.min, IntKind.max, IntKind.signed, IntKind.bits] using w0⟩
theorem slice_reads {e : TypeId} {k : Nat} (hu : P.underlying t = some (.slice e)) (hk : P.cellsOf e = k) (hk0 : 0 < k) {α : Type} [Inhabited α] (dr : α → List D) (hdr : ∀ a, (dr a).length = k)
    (h : DataW.trod enc P W base spare held fuel t cs = some x) (he : ∀ n, n < fuel → ∀ cs' y, DataW.trod enc P W base spare held n e cs' = some y → ∃ a, DReps (mem W) (dr a) cs') :
    ∃ (l : List α) (v : Value), cs = [v] ∧ DRep (mem W) (.sl (l.map dr)) v := by
  rcases DataW.trod_slice hu h with ⟨rfl, -⟩ | ⟨ad, len, cap, elems, rest, n', hn', rfl, -, hb, hl, hm, hlen2, hel, -, -⟩
  · exact ⟨[], _, rfl, DRep.nil _⟩
  · have hsp : 0 < len → ad.spot = none := by
      intro hi
      have h1 := hel 0 hi
      rw [hk, List.getElem?_eq_getElem (by omega)] at h1
      obtain ⟨cs', hc, ht⟩ := Option.bind_eq_some_iff.1 h1
      obtain ⟨-, hcl, hcc⟩ := World.cells?_some hc
      have h2 := hcc 0 hk0
      rw [List.getElem?_eq_getElem (by omega)] at h2
      have h3 := spot_of_cell h2
      simpa [Addr.add] using h3
    have hall : ∀ i, i < len → ∃ q : α × List Value, ad.spot = none ∧ (∀ j, j < k → mem W ad.block (ad.off + i * k + j) = some (q.2[j]?.getD .nilIface)) ∧ q.2.length = k ∧ DReps (mem W) (dr q.1) q.2 := by
      intro i hi
      have h1 := hel i hi
      rw [hk, List.getElem?_eq_getElem (by omega)] at h1
      obtain ⟨cs', hc, ht⟩ := Option.bind_eq_some_iff.1 h1
      obtain ⟨a, ha⟩ := he n' (by omega) cs' _ ht
      obtain ⟨-, hcl, hcc⟩ := World.cells?_some hc
      have hs0 := hsp (by omega)
      refine ⟨(a, cs'), hs0, fun j hj => ?_, hcl, ha⟩
      have h2 := hcc j hj
      rw [List.getElem?_eq_getElem (by omega)] at h2
      have ha : (ad.add (i * k)).add j = ⟨ad.block, ad.off + i * k + j, none⟩ := by
        cases ad
        simp only at hs0
        subst hs0
        unfold Addr.add
        by_cases h1 : i * k = 0
        · by_cases h2 : j = 0
          · subst h2; simp [h1]
          · simp [h1, h2]
        · by_cases h2 : j = 0
          · subst h2; simp [h1]
          · simp [h1, h2]
      rw [ha] at h2
      show mem W _ _ = some (cs'[j]?.getD .nilIface)
      rw [List.getElem?_eq_getElem (by omega), Option.getD_some]
      exact h2
    obtain ⟨f, hfx⟩ := Go.Deep.choose_lt hall
    refine ⟨(List.range len).map fun i => (f i).1, _, rfl, ?_⟩
    have hlen : (((List.range len).map fun i => (f i).1).map dr).length = len := by simp
    generalize hrs : ((List.range len).map fun i => (f i).1).map dr = rows at hlen
    have hri : ∀ i (h : i < rows.length), rows[i] = dr (f i).1 := fun i h => by subst hrs; simp
    subst hlen
    refine .sl rows k (some ad) cap (fun i j => (f i).2[j]?.getD .nilIface) (fun r hr => ?_) (fun i j hi hj => ?_) (fun i hi => ?_) hl hm
    · obtain ⟨i, hi, rfl⟩ := List.getElem_of_mem hr
      rw [hri i hi]; exact hdr _
    · obtain ⟨k1, k2, k3, k4⟩ := hfx i hi
      have hjk : j < k := by rw [hri i hi, hdr] at hj; exact hj
      simp only [hri i hi]
      rw [List.getElem?_eq_getElem (by omega : j < (f i).2.length), Option.getD_some]
      exact k4.2 j (by rw [hdr]; exact hjk) (by omega)
    · obtain ⟨k1, k2, k3, k4⟩ := hfx i hi
      exact ⟨ad.block, ad.off, by cases ad; simp_all, fun j hj => k2 j hj⟩
end
end Go.Proofs.Ytinenohgemndiaa
