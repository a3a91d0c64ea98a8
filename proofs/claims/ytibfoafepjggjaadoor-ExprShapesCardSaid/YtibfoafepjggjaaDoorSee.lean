/-
  Walks: the reference's walk over the nodes: what it gathers, and how that lies in memory.
-/
import Derived.Test.YtibfoafepjggjaaDoorNamesE
import Derived.Test.YtibfoafepjggjaaDoorWrong
namespace Go.Proofs.YtibfoafepjggjaaDoor
open Go.RowKit

theorem has8_any (l : List ByteArray) (s : ByteArray) (v : Value) (w : World) (hv : StrsVal w l v) :
    Calls Tryd.prog 69 #[v, .string s] w fun e w' => e = .returned (.bool (inB s l)) ∧ w = w' := by
  have hv' := hv
  obtain ⟨p, cap, rfl, h1, h2, h3⟩ := hv'
  have H3 := Lib.hid h3; clear h3
  have HV := Lib.hid hv; clear hv
  go_enter Tryd.func69, Tryd.ntmps69
  go_wp2_with fail
  go_loop [5] (fun i => ∃ j : Nat, i = .int .i64 j ∧ j ≤ l.length ∧ (s ∈ l.drop j ↔ s ∈ l)) (fun i => l.length - (intOf i).toNat)
  case atStart => exact ⟨0, rfl, Nat.zero_le _, by simp⟩
  case round =>
    obtain ⟨j, rfl, hj, hrec⟩ := hrel
    have HR := Lib.hid hrec; clear hrec
    by_cases hlt : j < l.length
    · obtain ⟨b, off, rfl, hc⟩ := strs_at HV.out hlt
      by_cases he : l[j] = s
      · have he' : ((l[j]).toList == s.toList) = true := by rw [str_eq]; simpa using he
        have HE := Lib.hid he; clear he
        go_wp2_with fail
        go_ret
        exact ⟨ret_bool (by rw [← HE.out]; exact (inB_iff.2 (List.getElem_mem _)).symm), rfl⟩
      · have he' : ((l[j]).toList == s.toList) = false := by rw [str_eq]; simpa using he
        have HE := Lib.hid he; clear he
        go_wp2_with fail
        go_round
        case rel => exact ⟨j + 1, by go_num, by omega, by rw [← HR.out, List.drop_eq_getElem_cons hlt, List.mem_cons]; exact ⟨.inr, fun h => h.resolve_left fun e => HE.out e.symm⟩⟩
        case measure => simp [intOf]; omega
    · have : j = l.length := by omega
      subst this
      have hn : s ∉ l := fun h => by have := HR.out.2 h; simp at this
      have HN := Lib.hid hn; clear hn
      go_wp2_with fail
      go_ret
      exact ⟨ret_bool (inB_not.2 HN.out).symm, rfl⟩
/-- Five cells. -/
def St5 (b : Nat) (v0 v1 v2 v3 v4 : Value) (w : World) : Prop := w.heap[b]? = some (.cells #[v0, v1, v2, v3, v4] 55 (0, 0))
section
variable {b : Nat} {v0 v1 v2 v3 v4 : Value} {w : World} (h : St5 b v0 v1 v2 v3 v4 w)
include h
theorem St5.cells : w.cell? ⟨b, 0, none⟩ = some v0 ∧ w.cell? ⟨b, 1, none⟩ = some v1 ∧ w.cell? ⟨b, 2, none⟩ = some v2 ∧ w.cell? ⟨b, 3, none⟩ = some v3 ∧ w.cell? ⟨b, 4, none⟩ = some v4 := by
  unfold St5 at h; simp [World.cell?, h]
theorem St5.frozen : w.frozen? ⟨b, 0, none⟩ = false ∧ w.frozen? ⟨b, 1, none⟩ = false ∧ w.frozen? ⟨b, 2, none⟩ = false ∧ w.frozen? ⟨b, 3, none⟩ = false ∧ w.frozen? ⟨b, 4, none⟩ = false := by
  unfold St5 at h; simp [World.frozen?, h]
theorem St5.lt : b < w.heap.size := (Array.getElem?_eq_some_iff.1 h).1
theorem St5.keep {O : Nat → Prop} {w' : World} (hk : Keep O w w') (hn : ¬ O b) : St5 b v0 v1 v2 v3 v4 w' := hk.heap hn h
theorem St5.set0 (u : Value) : St5 b u v1 v2 v3 v4 (w.setCell ⟨b, 0, none⟩ u) := by
  unfold St5 at h ⊢; simp [World.setCell, Array.getElem?_modify, h]
theorem St5.set1 (u : Value) : St5 b v0 u v2 v3 v4 (w.setCell ⟨b, 1, none⟩ u) := by
  unfold St5 at h ⊢; simp [World.setCell, Array.getElem?_modify, h]
theorem St5.set2 (u : Value) : St5 b v0 v1 u v3 v4 (w.setCell ⟨b, 2, none⟩ u) := by
  unfold St5 at h ⊢; simp [World.setCell, Array.getElem?_modify, h]
theorem St5.set3 (u : Value) : St5 b v0 v1 v2 u v4 (w.setCell ⟨b, 3, none⟩ u) := by
  unfold St5 at h ⊢; simp [World.setCell, Array.getElem?_modify, h]
theorem St5.set4 (u : Value) : St5 b v0 v1 v2 v3 u (w.setCell ⟨b, 4, none⟩ u) := by
  unfold St5 at h ⊢; simp [World.setCell, Array.getElem?_modify, h]
end

/-- What the walk gathers. -/
structure See where
  nodes : Int
  deep : Int
  first : Int
  vars : List ByteArray
  arrs : List ByteArray

structure SeeIn (b : Nat) (N : List ByteArray) (O : Nat → Prop) (x : See) (w : World) (va vr : Value) : Prop where
  own : ∀ k, O k ↔ (k = b ∨ va.ownBlock = some k ∨ vr.ownBlock = some k)
  st : St5 b (.int .i64 x.nodes) (.int .i64 x.deep) (.int .i64 x.first) va vr w
  rowA : w.ownsRow 0 9 1 va x.vars.length (x.vars.map Value.string)
  rowR : w.ownsRow 0 9 1 vr x.arrs.length (x.arrs.map Value.string)
  neA : ∀ k, va.ownBlock = some k → b < k
  neR : ∀ k, vr.ownBlock = some k → b < k
  apart : ∀ k, va.ownBlock = some k → vr.ownBlock ≠ some k
  nodA : x.vars.Nodup
  subA : ∀ s, s ∈ x.vars → s ∈ N
  nodR : x.arrs.Nodup
  subR : ∀ s, s ∈ x.arrs → s ∈ N
def SeeI (b : Nat) (N : List ByteArray) (O : Nat → Prop) (x : See) (w : World) : Prop := ∃ va vr, SeeIn b N O x w va vr
/-- A step: what it owns then, and what it let be. -/
def Step (b : Nat) (N : List ByteArray) (O : Nat → Prop) (x : See) (w w' : World) : Prop := ∃ O', SeeI b N O' x w' ∧ (∀ k, O' k → O k ∨ w.heap.size ≤ k) ∧ Keep O w w'

theorem Step.trans {b : Nat} {N : List ByteArray} {O : Nat → Prop} {x y : See} {w w1 w2 : World} {O1 : Nat → Prop} (_h : SeeI b N O1 x w1) (ho : ∀ k, O1 k → O k ∨ w.heap.size ≤ k) (hk : Keep O w w1) :
    Step b N O1 y w1 w2 → Step b N O y w w2
  | ⟨O2, h2, ho2, hk2⟩ => ⟨O2, h2, fun k h => (ho2 k h).elim (ho k) (fun h => .inr (Nat.le_trans hk.size h)), hk.trans hk2 ho⟩

theorem row_kept {w w' : World} {O : Nat → Prop} (hk : Keep O w w') {T : TypeId} {v : Value} {n : Nat} {xs : List Value} (h : w.ownsRow 0 T 1 v n xs) (hn : ∀ k, v.ownBlock = some k → ¬ O k) : w'.ownsRow 0 T 1 v n xs := by
  refine ⟨h.1, h.2.imp id ?_⟩
  rintro ⟨g, cap, cur, rfl, hb, hh, hr⟩
  exact ⟨g, cap, cur, rfl, hb, hk.heap (hn g rfl) hh, hr⟩

section
variable {b : Nat} {N : List ByteArray} {O : Nat → Prop} {x : See} {w : World} {va vr : Value} (h : SeeIn b N O x w va vr)
include h
theorem SeeIn.ob : O b := (h.own b).2 (.inl rfl)
theorem SeeIn.ge {k : Nat} (hk : O k) : b ≤ k := by
  rcases (h.own k).1 hk with rfl | hk | hk
  · exact Nat.le_refl _
  · exact Nat.le_of_lt (h.neA k hk)
  · exact Nat.le_of_lt (h.neR k hk)
theorem SeeIn.lt {k : Nat} (hk : O k) : k < w.heap.size := by
  rcases (h.own k).1 hk with rfl | hk | hk
  · exact h.st.lt
  · exact (h.rowA.lt k hk).2
  · exact (h.rowR.lt k hk).2
/-- Other blocks may turn. -/
theorem SeeIn.stays {w' : World} (hs : ∀ k, O k → w'.heap[k]? = w.heap[k]?) : SeeIn b N O x w' va vr := by
  have hr : ∀ {v : Value} {n : Nat} {xs : List Value}, w.ownsRow 0 9 1 v n xs → (∀ k, v.ownBlock = some k → O k) → w'.ownsRow 0 9 1 v n xs := by
    intro v n xs h1 h2
    refine ⟨h1.1, h1.2.imp id ?_⟩
    rintro ⟨g, cap, cur, rfl, hb, hh, hr⟩
    exact ⟨g, cap, cur, rfl, hb, by rw [hs g (h2 g rfl)]; exact hh, hr⟩
  exact ⟨h.own, by unfold St5; rw [hs b h.ob]; exact h.st, hr h.rowA (fun k hk => (h.own k).2 (.inr (.inl hk))), hr h.rowR (fun k hk => (h.own k).2 (.inr (.inr hk))), h.neA, h.neR, h.apart, h.nodA, h.subA, h.nodR, h.subR⟩
theorem SeeIn.alloc (o : Obj) : SeeIn b N O x (w.alloc o) va vr := h.stays fun k hk => Below.heap_alloc _ _ _ (h.lt hk)
/-- A store into one of the three numbers. -/
theorem SeeIn.put {x' : See} {w' : World} (hst : St5 b (.int .i64 x'.nodes) (.int .i64 x'.deep) (.int .i64 x'.first) va vr w') (hb : ∀ k, k ≠ b → w'.heap[k]? = w.heap[k]?) (h1 : x'.vars = x.vars) (h2 : x'.arrs = x.arrs) : SeeIn b N O x' w' va vr := by
  have hr : ∀ {v : Value} {n : Nat} {xs : List Value}, w.ownsRow 0 9 1 v n xs → (∀ k, v.ownBlock = some k → b < k) → w'.ownsRow 0 9 1 v n xs := by
    intro v n xs h1 h2
    refine ⟨h1.1, h1.2.imp id ?_⟩
    rintro ⟨g, cap, cur, rfl, hb', hh, hr⟩
    exact ⟨g, cap, cur, rfl, hb', by rw [hb g (by have := h2 g rfl; omega)]; exact hh, hr⟩
  refine ⟨h.own, hst, ?_, ?_, h.neA, h.neR, h.apart, ?_, ?_, ?_, ?_⟩
  · rw [h1]; exact hr h.rowA h.neA
  · rw [h2]; exact hr h.rowR h.neR
  · rw [h1]; exact h.nodA
  · rw [h1]; exact h.subA
  · rw [h2]; exact h.nodR
  · rw [h2]; exact h.subR
end

theorem row_set {w : World} {b : Nat} {i : Nat} {T : TypeId} {v : Value} {n : Nat} {xs : List Value} (h : w.ownsRow 0 T 1 v n xs) (hn : ∀ k, v.ownBlock = some k → k ≠ b) (u : Value) : (w.setCell ⟨b, i, none⟩ u).ownsRow 0 T 1 v n xs :=
  ownsRow_setCell_other h (fun e => hn b e rfl) u
theorem drewN_heap (w : World) (n k : Nat) : (w.drewN n).heap[k]? = w.heap[k]? := rfl

theorem SeeIn.afterA {b : Nat} {N : List ByteArray} {O : Nat → Prop} {x : See} {w : World} {va vr : Value} (h : SeeIn b N O x w va vr) {n : Nat} {xs : List Value} {w1 w2 : World} {g cap : Nat}
    (h1 : Ext w w1) (hg : Grew w1 9 1 va n xs g cap w2) : w2.cell? ⟨b, 3, none⟩ = some va ∧ w2.frozen? ⟨b, 3, none⟩ = false := by
  have hk : Keep (fun k => va.ownBlock = some k) w w2 := (Keep.of_ext h1).grown hg.grown (fun k hk => .inl hk)
  have hst := h.st.keep hk (fun e => by have := h.neA b e; omega)
  exact ⟨hst.cells.2.2.2.1, hst.frozen.2.2.2.1⟩
theorem SeeIn.afterR {b : Nat} {N : List ByteArray} {O : Nat → Prop} {x : See} {w : World} {va vr : Value} (h : SeeIn b N O x w va vr) {n : Nat} {xs : List Value} {w1 w2 : World} {g cap : Nat}
    (h1 : Ext w w1) (hg : Grew w1 9 1 vr n xs g cap w2) : w2.cell? ⟨b, 4, none⟩ = some vr ∧ w2.frozen? ⟨b, 4, none⟩ = false := by
  have hk : Keep (fun k => vr.ownBlock = some k) w w2 := (Keep.of_ext h1).grown hg.grown (fun k hk => .inl hk)
  have hst := h.st.keep hk (fun e => by have := h.neR b e; omega)
  exact ⟨hst.cells.2.2.2.2, hst.frozen.2.2.2.2⟩
/-- An append to the first list, and the store of what it gives. -/
theorem SeeIn.grewA {b : Nat} {N : List ByteArray} {O : Nat → Prop} {x : See} {w : World} {va vr : Value} (h : SeeIn b N O x w va vr) {s : ByteArray} {w1 w2 : World} {g cap : Nat}
    (h1 : Ext w w1) (hg : Grew w1 9 1 va (x.vars.length + 1) (x.vars.map Value.string ++ [.string s]) g cap w2) (hs : s ∉ x.vars) (hN : s ∈ N) :
    Step b N O { x with vars := x.vars ++ [s] } w (w2.setCell ⟨b, 3, none⟩ (.slice (some ⟨g, 0, none⟩) (x.vars.length + 1) cap)) := by
  have hnew : va.ownBlock = some g ∨ w.heap.size ≤ g := hg.new.imp id (fun h => Nat.le_trans h1.size h)
  have hk : Keep (fun k => va.ownBlock = some k) w w2 := (Keep.of_ext h1).grown hg.grown (fun k hk => .inl hk)
  have hgb : b < g := hnew.elim (h.neA g) (fun hh => Nat.lt_of_lt_of_le h.st.lt hh)
  have hst : St5 b (.int .i64 x.nodes) (.int .i64 x.deep) (.int .i64 x.first) va vr w2 := h.st.keep hk (fun e => by have := h.neA b e; omega)
  have hgr : ∀ k, vr.ownBlock = some k → g ≠ k := fun k hk e => hnew.elim (fun hh => h.apart g hh (e ▸ hk)) (fun hh => by have := (h.rowR.lt k hk).2; omega)
  refine ⟨fun k => k = b ∨ k = g ∨ vr.ownBlock = some k, ⟨.slice (some ⟨g, 0, none⟩) (x.vars.length + 1) cap, vr, ?_⟩, ?_, ?_⟩
  · refine ⟨fun k => by simp [Value.ownBlock, eq_comm], hst.set3 _, ?_, ?_, fun k hk => ?_, h.neR, fun k hk => ?_, ?_, ?_, h.nodR, h.subR⟩
    · have := row_set hg.row (b := b) (i := 3) (fun k hk e => by simp [Value.ownBlock] at hk; omega) (.slice (some ⟨g, 0, none⟩) (x.vars.length + 1) cap)
      simpa using this
    · exact row_set (row_kept hk h.rowR (fun k hk hx => h.apart k hx hk)) (fun k hk e => by have := h.neR k hk; omega) _
    · simp [Value.ownBlock] at hk; omega
    · simp only [Value.ownBlock, Option.some.injEq] at hk; subst hk; exact fun e => hgr _ e rfl
    · exact List.nodup_append.2 ⟨h.nodA, by simp, fun a ha b' hb => by simp at hb; subst hb; exact fun e => hs (e ▸ ha)⟩
    · intro y hy; rcases List.mem_append.1 hy with hh | hh
      · exact h.subA y hh
      · simp at hh; subst hh; exact hN
  · intro k hk
    rcases hk with rfl | rfl | hk
    · exact .inl h.ob
    · exact hnew.imp (fun e => (h.own _).2 (.inr (.inl e))) id
    · exact .inl ((h.own k).2 (.inr (.inr hk)))
  · exact (hk.mono fun k hk => (h.own k).2 (.inr (.inl hk))).setCell (.inl h.ob) _
/-- An append to the second list, and the store of what it gives. -/
theorem SeeIn.grewR {b : Nat} {N : List ByteArray} {O : Nat → Prop} {x : See} {w : World} {va vr : Value} (h : SeeIn b N O x w va vr) {s : ByteArray} {w1 w2 : World} {g cap : Nat}
    (h1 : Ext w w1) (hg : Grew w1 9 1 vr (x.arrs.length + 1) (x.arrs.map Value.string ++ [.string s]) g cap w2) (hs : s ∉ x.arrs) (hN : s ∈ N) :
    Step b N O { x with arrs := x.arrs ++ [s] } w (w2.setCell ⟨b, 4, none⟩ (.slice (some ⟨g, 0, none⟩) (x.arrs.length + 1) cap)) := by
  have hnew : vr.ownBlock = some g ∨ w.heap.size ≤ g := hg.new.imp id (fun h => Nat.le_trans h1.size h)
  have hk : Keep (fun k => vr.ownBlock = some k) w w2 := (Keep.of_ext h1).grown hg.grown (fun k hk => .inl hk)
  have hgb : b < g := hnew.elim (h.neR g) (fun hh => Nat.lt_of_lt_of_le h.st.lt hh)
  have hst : St5 b (.int .i64 x.nodes) (.int .i64 x.deep) (.int .i64 x.first) va vr w2 := h.st.keep hk (fun e => by have := h.neR b e; omega)
  have hgr : ∀ k, va.ownBlock = some k → g ≠ k := fun k hk e => hnew.elim (fun hh => h.apart k hk (e ▸ hh)) (fun hh => by have := (h.rowA.lt k hk).2; omega)
  refine ⟨fun k => k = b ∨ va.ownBlock = some k ∨ k = g, ⟨va, .slice (some ⟨g, 0, none⟩) (x.arrs.length + 1) cap, ?_⟩, ?_, ?_⟩
  · refine ⟨fun k => by simp [Value.ownBlock, eq_comm], hst.set4 _, ?_, ?_, h.neA, fun k hk => ?_, fun k hk => ?_, h.nodA, h.subA, ?_, ?_⟩
    · exact row_set (row_kept hk h.rowA (fun k hk hx => h.apart k hk hx)) (fun k hk e => by have := h.neA k hk; omega) _
    · have := row_set hg.row (b := b) (i := 4) (fun k hk e => by simp [Value.ownBlock] at hk; omega) (.slice (some ⟨g, 0, none⟩) (x.arrs.length + 1) cap)
      simpa using this
    · simp [Value.ownBlock] at hk; omega
    · simp only [Value.ownBlock, ne_eq, Option.some.injEq]; exact hgr k hk
    · exact List.nodup_append.2 ⟨h.nodR, by simp, fun a ha b' hb => by simp at hb; subst hb; exact fun e => hs (e ▸ ha)⟩
    · intro y hy; rcases List.mem_append.1 hy with hh | hh
      · exact h.subR y hh
      · simp at hh; subst hh; exact hN
  · intro k hk
    rcases hk with rfl | hk | rfl
    · exact .inl h.ob
    · exact .inl ((h.own k).2 (.inr (.inl hk)))
    · exact hnew.imp (fun e => (h.own _).2 (.inr (.inr e))) id
  · exact (hk.mono fun k hk => (h.own k).2 (.inr (.inr hk))).setCell (.inl h.ob) _

/-- What a node adds. -/
def seeN (x : See) (d : Int) (e : Ex) : See :=
  { nodes := wrap64 (x.nodes + 1), deep := if x.deep < d then d else x.deep, first := if x.first = 0 then exErr e else x.first,
    vars := addName [2] x.vars e.op e.name, arrs := addName [3, 24] x.arrs e.op e.name }
mutual
def seeE (d : Int) : Ex → See → See
  | .mk o n s l, x => seeL (d + 1) l (seeN x d (.mk o n s l))
def seeL (d : Int) : List Ex → See → See
  | [], x => x
  | a :: r, x => seeL d r (seeE d a x)
end
end Go.Proofs.YtibfoafepjggjaaDoor
