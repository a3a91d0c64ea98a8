/-
  Walks: the reference's Size, Depth, Valid, Names, Arrays.
-/
import Derived.Test.YtibfoafepjggjaaDoorSeeWalk
import Derived.Test.YtibfoafepjggjaaDoorNames2
namespace Go.Proofs.YtibfoafepjggjaaDoor
open Go.RowKit

/-- What the reference gathers of an expression. -/
def seeOf (e : Ex) : See := seeE 1 e ⟨0, 0, 0, [], []⟩
def RetSee (e : Ex) (w : World) (en : Ending) (w' : World) : Prop :=
  ∃ b O va vr, en = .returned (.pointer (some ⟨b, 0, none⟩)) ∧ SeeIn b (allE e) O (seeOf e) w' va vr ∧ (∀ k, O k → w.heap.size ≤ k) ∧ Ext w w'

set_option maxRecDepth 100000 in
theorem over_any (e : Ex) (w : World) (v : Value) (hv : ExVal w e v) (hs : esize e ≤ 1000000) (hd : edepth e ≤ 999999) :
    Calls Tryd.prog 38 #[v] w (RetSee e w) := by
  obtain ⟨p, cp, rfl, hl, h1, h2, -, -, -⟩ := ex_open hv
  have hS : SeeIn (w.heap.size + 1) (allE e) (fun k => k = w.heap.size + 1) ⟨0, 0, 0, [], []⟩ ((w.alloc (.cells #[.int .i64 e.op, .int .i64 e.num, .string e.name, .slice p e.args.length cp] 24)).alloc (.cells #[.int .i64 0, .int .i64 0, .int .i64 0, .slice none 0 0, .slice none 0 0] 55)) (.slice none 0 0) (.slice none 0 0) := by
    refine ⟨fun k => by simp [Value.ownBlock], ?_, World.ownsRow_nil _ _ _ _, World.ownsRow_nil _ _ _ _, by simp [Value.ownBlock], by simp [Value.ownBlock], by simp [Value.ownBlock], by simp, by simp, by simp, by simp⟩
    have : ((w.alloc (.cells #[.int .i64 e.op, .int .i64 e.num, .string e.name, .slice p e.args.length cp] 24)).alloc (.cells #[.int .i64 0, .int .i64 0, .int .i64 0, .slice none 0 0, .slice none 0 0] 55)).heap[(w.alloc (.cells #[.int .i64 e.op, .int .i64 e.num, .string e.name, .slice p e.args.length cp] 24)).heap.size]? = some (.cells #[.int .i64 0, .int .i64 0, .int .i64 0, .slice none 0 0, .slice none 0 0] 55 (0, 0)) := heap_alloc_new _ _
    unfold St5
    simpa only [World.size_alloc] using this
  have hw := see_any (w.alloc (.cells #[.int .i64 e.op, .int .i64 e.num, .string e.name, .slice p e.args.length cp] 24)) (w.heap.size + 1) (by simp) (allE e) (by rw [allE_len]; exact hs) e _ _ 1 _ _ (fun _ h => h) (by omega) (by omega) ((Ext.refl _).alloc _) (hv.ext ((Ext.refl w).alloc _)) ⟨_, _, hS⟩
  have HW := Lib.hid hw; clear hw
  clear hS hl hv
  go_enter Tryd.func38, Tryd.ntmps38
  go_wp2_with fail
  refine HW.out.mono ?_
  rintro en w1 ⟨rfl, O1, ⟨va, vr, hI⟩, hO1, hk1⟩
  have hx : Ext w w1 := hk1.ext (w0 := w) (((Ext.refl w).alloc _).alloc _) (fun x hx => by omega)
  have HI := Lib.hid hI; clear hI
  have HO := Lib.hid hO1; clear hO1
  have HX := Lib.hid hx; clear hx
  clear hk1
  go_wp2_with fail
  go_ret
  exact ⟨_, O1, va, vr, rfl, HI.out, fun k hk => (HO.out k hk).elim (fun h => by omega) (fun h => by simp at h; omega), HX.out⟩

set_option maxRecDepth 100000 in
theorem rsize_any (e : Ex) (w : World) (v : Value) (hv : ExVal w e v) (hs : esize e ≤ 1000000) (hd : edepth e ≤ 999999) :
    Calls Tryd.prog 14 #[v] w fun en w' => en = .returned (.int .i64 (seeOf e).nodes) ∧ Ext w w' := by
  obtain ⟨p, cp, rfl, hl, h1, h2, -, -, -⟩ := ex_open hv
  have hw := over_any e _ _ (hv.ext ((Ext.refl w).alloc (.cells #[.int .i64 e.op, .int .i64 e.num, .string e.name, .slice p e.args.length cp] 24))) hs hd
  have HW := Lib.hid hw; clear hw
  clear hl hv
  go_enter Tryd.func14, Tryd.ntmps14
  go_wp2_with fail
  refine HW.out.mono ?_
  rintro en w1 ⟨b, O, va, vr, rfl, hI, -, hx⟩
  have c := hI.st.cells
  obtain ⟨c0, c1, c2, c3, c4⟩ := c
  have HX := Lib.hid hx.past; clear hx
  clear hI
  go_wp2_with fail
  go_ret
  exact ⟨rfl, HX.out⟩
set_option maxRecDepth 100000 in
theorem rdepth_any (e : Ex) (w : World) (v : Value) (hv : ExVal w e v) (hs : esize e ≤ 1000000) (hd : edepth e ≤ 999999) :
    Calls Tryd.prog 16 #[v] w fun en w' => en = .returned (.int .i64 (seeOf e).deep) ∧ Ext w w' := by
  obtain ⟨p, cp, rfl, hl, h1, h2, -, -, -⟩ := ex_open hv
  have hw := over_any e _ _ (hv.ext ((Ext.refl w).alloc (.cells #[.int .i64 e.op, .int .i64 e.num, .string e.name, .slice p e.args.length cp] 24))) hs hd
  have HW := Lib.hid hw; clear hw
  clear hl hv
  go_enter Tryd.func16, Tryd.ntmps16
  go_wp2_with fail
  refine HW.out.mono ?_
  rintro en w1 ⟨b, O, va, vr, rfl, hI, -, hx⟩
  have c := hI.st.cells
  obtain ⟨c0, c1, c2, c3, c4⟩ := c
  have HX := Lib.hid hx.past; clear hx
  clear hI
  go_wp2_with fail
  go_ret
  exact ⟨rfl, HX.out⟩
set_option maxRecDepth 100000 in
theorem rnames_any (e : Ex) (w : World) (v : Value) (hv : ExVal w e v) (hs : esize e ≤ 1000000) (hd : edepth e ≤ 999999) :
    Calls Tryd.prog 19 #[v] w (RetOwnS (seeOf e).vars w) := by
  obtain ⟨p, cp, rfl, hl, h1, h2, -, -, -⟩ := ex_open hv
  have hw := over_any e _ _ (hv.ext ((Ext.refl w).alloc (.cells #[.int .i64 e.op, .int .i64 e.num, .string e.name, .slice p e.args.length cp] 24))) hs hd
  have HW := Lib.hid hw; clear hw
  clear hl hv
  go_enter Tryd.func19, Tryd.ntmps19
  go_wp2_with fail
  refine HW.out.mono ?_
  rintro en w1 ⟨b, O, va, vr, rfl, hI, hO, hx⟩
  obtain ⟨c0, c1, c2, c3, c4⟩ := hI.st.cells
  have hr := hI.rowA
  have hn : ∀ k, va.ownBlock = some k → w.heap.size ≤ k := fun k hk => by
    have := hO k ((hI.own k).2 (.inr (.inl hk))); simp at this; omega
  have HX := Lib.hid hx.past; clear hx
  have HR := Lib.hid hr; clear hr
  have HN := Lib.hid hn; clear hn
  clear hI hO
  go_wp2_with fail
  go_ret
  exact ⟨_, rfl, HR.out, HN.out, HX.out⟩
set_option maxRecDepth 100000 in
theorem rarrays_any (e : Ex) (w : World) (v : Value) (hv : ExVal w e v) (hs : esize e ≤ 1000000) (hd : edepth e ≤ 999999) :
    Calls Tryd.prog 21 #[v] w (RetOwnS (seeOf e).arrs w) := by
  obtain ⟨p, cp, rfl, hl, h1, h2, -, -, -⟩ := ex_open hv
  have hw := over_any e _ _ (hv.ext ((Ext.refl w).alloc (.cells #[.int .i64 e.op, .int .i64 e.num, .string e.name, .slice p e.args.length cp] 24))) hs hd
  have HW := Lib.hid hw; clear hw
  clear hl hv
  go_enter Tryd.func21, Tryd.ntmps21
  go_wp2_with fail
  refine HW.out.mono ?_
  rintro en w1 ⟨b, O, va, vr, rfl, hI, hO, hx⟩
  obtain ⟨c0, c1, c2, c3, c4⟩ := hI.st.cells
  have hr := hI.rowR
  have hn : ∀ k, vr.ownBlock = some k → w.heap.size ≤ k := fun k hk => by
    have := hO k ((hI.own k).2 (.inr (.inr hk))); simp at this; omega
  have HX := Lib.hid hx.past; clear hx
  have HR := Lib.hid hr; clear hr
  have HN := Lib.hid hn; clear hn
  clear hI hO
  go_wp2_with fail
  go_ret
  exact ⟨_, rfl, HR.out, HN.out, HX.out⟩

def rvalidE (e : Ex) : Int := if (seeOf e).first = 0 ∧ (24 < (seeOf e).deep ∨ 400 < (seeOf e).nodes) then 2 else (seeOf e).first
set_option maxRecDepth 100000 in
theorem rvalid_any (e : Ex) (w : World) (v : Value) (hv : ExVal w e v) (hs : esize e ≤ 1000000) (hd : edepth e ≤ 999999) :
    Calls Tryd.prog 23 #[v] w fun en w' => en = .returned (.int .i64 (rvalidE e)) ∧ Ext w w' := by
  obtain ⟨p, cp, rfl, hl, h1, h2, -, -, -⟩ := ex_open hv
  have hw := over_any e _ _ (hv.ext ((Ext.refl w).alloc (.cells #[.int .i64 e.op, .int .i64 e.num, .string e.name, .slice p e.args.length cp] 24))) hs hd
  have HW := Lib.hid hw; clear hw
  clear hl hv
  have hq : rvalidE e = if (seeOf e).first = 0 ∧ (24 < (seeOf e).deep ∨ 400 < (seeOf e).nodes) then 2 else (seeOf e).first := rfl
  unfold RetSee at HW
  generalize rvalidE e = R at *
  generalize seeOf e = S at *
  have HQ := Lib.hid hq; clear hq
  go_enter Tryd.func23, Tryd.ntmps23
  go_wp2_with fail
  refine HW.out.mono ?_
  rintro en w1 ⟨b, O, va, vr, rfl, hI, -, hx⟩
  obtain ⟨c0, c1, c2, c3, c4⟩ := hI.st.cells
  have HX := Lib.hid hx.past; clear hx
  clear hI
  go_wp2_with fail
  all_goals go_ret
  all_goals (go_light; refine ⟨ret_int ?_, HX.out⟩; rw [HQ.out]; (try simp only [beq_iff_eq, beq_eq_false_iff_ne, ne_eq] at *); first | (rw [if_pos (by omega)]; done) | (rw [if_neg (by omega)]; done) | (rw [if_neg (by omega)]; omega))
end Go.Proofs.YtibfoafepjggjaaDoor
