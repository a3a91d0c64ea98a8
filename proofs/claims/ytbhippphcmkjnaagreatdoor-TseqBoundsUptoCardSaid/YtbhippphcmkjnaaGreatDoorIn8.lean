/-
  From memory into the plain world: at a call's start all of memory never turns.
-/
import Derived.Test.YtbhippphcmkjnaaGreatDoorBr8
import Derived.Test.YtbhippphcmkjnaaGreatDoorRead
import Derived.Test.YtbhippphcmkjnaaGreatDoorData
set_option linter.unusedVariables false
set_option linter.unusedSimpArgs false
namespace Go.Proofs.YtbhippphcmkjnaaGreatDoor
open Go.RowKit

theorem drep_ex {w : World} {e : Ex} {cs : List Value} (h : ExRep w e cs) : cs.length = 4 ∧ ∀ i (h : i < (dex e).length) (h' : i < cs.length), DRep (mem w) (dex e)[i] cs[i] := by
  induction h with
  | mk o n s l v css hl hc hv ho hn hs ih =>
  refine ⟨rfl, fun i h h' => ?_⟩
  have h3 : DRep (mem w) (.sl (l.map dex)) v := by
    obtain ⟨p, cap, rfl, h1, h2, h3⟩ := hv
    have hlen : css.length = (l.map dex).length := by simp [hl]
    rw [hlen]
    refine .sl _ 4 p cap (fun i j => (css[i]?.getD [])[j]?.getD .nilIface) (fun r hr => ?_) (fun i j hi hj => ?_) (fun i hi => ?_) (by omega) h2
    · obtain ⟨a, -, rfl⟩ := List.mem_map.1 hr
      rw [dex_eq]; rfl
    · have hi' : i < l.length := by simpa using hi
      have hic : i < css.length := by omega
      obtain ⟨h4, h5⟩ := ih i hi' hic
      have hj4 : j < 4 := by simp only [List.getElem_map] at hj; rw [dex_eq] at hj; simpa using hj
      have := h5 j (by simpa using hj) (by omega)
      simp only [List.getElem_map, List.getElem?_eq_getElem hic, Option.getD_some]
      rw [List.getElem?_eq_getElem (by omega : j < css[i].length)]
      exact this
    · have hi' : i < l.length := by simpa using hi
      have hic : i < css.length := by omega
      obtain ⟨b, off, h4, h5, h6⟩ := h3 i _ (List.getElem?_eq_getElem hic)
      refine ⟨b, off, h4, fun j hj => ?_⟩
      simp only [List.getElem?_eq_getElem hic, Option.getD_some]
      rw [List.getElem?_eq_getElem (by omega : j < css[i].length)]
      exact h6 j _ (List.getElem?_eq_getElem (by omega))
  have e1 := dex_eq (.mk o n s l)
  match i, h' with
  | 0, _ => simp only [e1, List.getElem_cons_zero]; exact .lit _ (by simpa [Fits, IntKind.min, IntKind.max, IntKind.signed, IntKind.bits, Ex.op] using ho)
  | 1, _ => simp only [e1, List.getElem_cons_zero, List.getElem_cons_succ]; exact .lit _ (by simpa [Fits, IntKind.min, IntKind.max, IntKind.signed, IntKind.bits, Ex.num] using hn)
  | 2, _ => simp only [e1, List.getElem_cons_zero, List.getElem_cons_succ]; exact .lit _ hs
  | 3, _ => simp only [e1, List.getElem_cons_zero, List.getElem_cons_succ]; exact h3
theorem rep_ex {w : World} {bm : List Nat} {e : Ex} {v : Value} (h : ExVal w e v) : Rep (mem w) bm (vex e) v := by
  obtain ⟨cs, h1, rfl⟩ := h
  obtain ⟨h2, h3⟩ := drep_ex h1
  have h4 : (dex e).length = 4 := by rw [dex_eq]; rfl
  unfold vex
  refine .agg (by simp [h2, h4]) (fun i g g' => ?_) (fun v hv => ?_)
  · simp only [List.getElem_map]
    exact .d (h3 i (by simpa using g) g')
  · obtain ⟨i, hi, rfl⟩ := List.getElem_of_mem hv
    exact (h3 i (by omega) hi).one
theorem glob_mem {w : World} (h : Keys w) : G.glob (mem w) (fun b => b < w.heap.size) w := by
  refine ⟨?_, fun g p hg => by cases hg⟩
  intro g cs hg
  have h1 : g = 0 ∧ cs = [dstrs kwList] := by
    change (if g = 0 then some [dstrs kwList] else none) = some cs at hg
    split at hg
    · rename_i h; exact ⟨h, by simpa using hg.symm⟩
    · cases hg
  obtain ⟨rfl, rfl⟩ := h1
  obtain ⟨v, h2, p, cap, rfl, h4, h5, h6⟩ := h
  refine ⟨fun _ => .slice p kwList.length cap, fun j hj => ?_, fun j hj => ?_⟩
  · have hj0 : j = 0 := by simpa using hj
    subst hj0
    exact h2
  · have hj0 : j = 0 := by simpa using hj
    subst hj0
    have hlen : kwList.length = (kwList.map fun s => [dstr s]).length := by simp
    simp only [List.getElem_cons_zero, dstrs]
    rw [hlen]
    refine .sl _ 1 p cap (fun i _ => .string (kwList[i]?.getD ⟨#[]⟩)) (fun r hr => ?_) (fun i j hi hj => ?_) (fun i hi => ?_) (by omega) h5
    · obtain ⟨s, -, rfl⟩ := List.mem_map.1 hr
      rfl
    · have hi' : i < kwList.length := by simpa using hi
      have hj0 : j = 0 := by simpa using hj
      subst hj0
      simp only [List.getElem_map, List.getElem_cons_zero, List.getElem?_eq_getElem hi', Option.getD_some]
      exact .lit _ ((of_decide_eq_true (by decide +kernel) : ∀ s, s ∈ kwList → s.size ≤ maxLen) _ (List.getElem_mem hi'))
    · have hi' : i < kwList.length := by simpa using hi
      obtain ⟨b, off, h7, h8⟩ := h6 i _ (List.getElem?_eq_getElem hi')
      refine ⟨b, off, h7, fun j hj => ?_⟩
      have hj0 : j = 0 := by omega
      subst hj0
      simp only [List.getElem?_eq_getElem hi', Option.getD_some]
      simpa [mem] using h8
/-- A function of the plain world, called on memory as it is. -/
theorem calls_of_fun {f : FuncId} {args : List V} {vs : List Value} {u : Value} {w : World} (hk : Keys w) (h : Fun G f args [] (RetV (.d (.lit u)) [])) (hl : vs.length = args.length)
    (hr : ∀ i (h : i < args.length) (h' : i < vs.length), Rep (mem w) [] args[i] vs[i]) : Calls Tryz.prog f vs.toArray w fun e w' => e = .returned u ∧ Ext w w' := by
  refine (h.2 _ _ _ _ _ _ (glob_mem hk) (inv_start w) (fun _ => rfl) hl hr).mono fun e w' ⟨M', bm', tk', σ', o, ⟨h1, h2⟩, h3, h4, h5⟩ => ?_
  subst h1
  obtain ⟨v, h6, h7, -⟩ := h5.1 _ rfl
  cases h7 with
  | d h7 =>
  cases h7 with
  | lit _ _ => exact ⟨h6, h4.os, h4.tape, h4.output, h4.size, fun b hb => h4.keep b hb⟩
end Go.Proofs.YtbhippphcmkjnaaGreatDoor
