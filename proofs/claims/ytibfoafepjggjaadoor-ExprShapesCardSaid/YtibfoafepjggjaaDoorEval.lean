/-
  Walks: Eval.
-/
import Derived.Test.YtibfoafepjggjaaDoorValueW
namespace Go.Proofs.YtibfoafepjggjaaDoor
open Go.RowKit

theorem nameWalk_true (ops : List Int) (e : Ex) : ∀ x, (walkE (nextName ops) e x).2 = true := by
  induction e using Ex.ind with
  | h o n s l ih =>
    intro x
    have H : ∀ (r : List Ex), (∀ a, a ∈ r → a ∈ l) → ∀ x, (walkL (nextName ops) r x).2 = true := by
      intro r
      induction r with
      | nil => intro _ x; rfl
      | cons a r ihr => intro hm x; rw [walkL, if_pos (ih a (hm a (by simp)) x)]; exact ihr (fun y hy => hm y (by simp [hy])) _
    rw [walkE, if_pos (show (nextName ops x (Ex.mk o n s l)).2 = true from rfl)]; exact H l (fun _ h => h) _
theorem addName_mem {ops : List Int} {l : List ByteArray} {o : Int} {s t : ByteArray} (h : t ∈ addName ops l o s) : t ∈ l ∨ (t = s ∧ o ∈ ops) := by
  unfold addName at h
  by_cases hc : o ∈ ops ∧ inB s l = false
  · rw [if_pos hc] at h
    rcases List.mem_append.1 h with h | h
    · exact .inl h
    · exact .inr ⟨by simpa using h, hc.1⟩
  · rw [if_neg hc] at h; exact .inl h
theorem names_ok (e : Ex) : errE e = 0 → ∀ x : List ByteArray, (∀ s, s ∈ x → nameB s = true) → ∀ s, s ∈ (walkE (nextName [3, 24]) e x).1 → nameB s = true := by
  induction e using Ex.ind with
  | h o n s l ih =>
    intro he x hx
    obtain ⟨hnode, herl⟩ := errE_node he
    have hok := node_ok hnode
    have hm := errL_mem herl
    have H : ∀ (r : List Ex), (∀ a, a ∈ r → a ∈ l) → ∀ x : List ByteArray, (∀ s, s ∈ x → nameB s = true) → ∀ s, s ∈ (walkL (nextName [3, 24]) r x).1 → nameB s = true := by
      intro r
      induction r with
      | nil => intro _ x hx; exact hx
      | cons a r ihr =>
        intro hr x hx
        rw [walkL, if_pos (nameWalk_true _ a x)]
        exact ihr (fun y hy => hr y (by simp [hy])) _ (ih a (hr a (by simp)) (hm a (hr a (by simp))) x hx)
    rw [walkE, if_pos (show (nextName [3, 24] x (Ex.mk o n s l)).2 = true from rfl)]
    refine H l (fun _ h => h) _ ?_
    intro t ht
    rcases addName_mem ht with h | ⟨rfl, h⟩
    · exact hx t h
    · exact hok.2.2.2.2.2.1 (by simpa [Ex.op] using h)

set_option maxRecDepth 100000 in
set_option maxHeartbeats 1000000 in
theorem eval_any (e : Ex) (env : List Sig) (v vs : Value) (w : World) (hv : ExVal w e v) (hs : SigsVal w env vs) (hk : Keys w) (hd : edepth e ≤ 1000000) (hz : esize e ≤ 1000000) :
    Calls Tryd.prog 25 #[v, vs] w (RetEval (evalE e env) w) := by
  have hs' := hs
  obtain ⟨p, cap, rfl, -, -, -⟩ := hs'
  obtain ⟨q, cp, rfl, hl, h1, h2, -, -, -⟩ := ex_open hv
  have hV := fun w hv hk => valid_any e w (.agg #[.int .i64 e.op, .int .i64 e.num, .string e.name, .slice q e.args.length cp]) hv hk hd hz
  have HVA := Lib.hid hV; clear hV
  have hq : evalE e env = if validE e = 0 then (if knownB env e = true then (valE env e, 0) else (0, 7)) else (0, 1) := rfl
  generalize evalE e env = R at *
  have HQ := Lib.hid hq; clear hq
  have hok : validE e = 0 → errE e = 0 := validE_err
  have hkn : validE e = 0 → ∀ w, SigsVal w env (.slice p env.length cap) → ExVal w e (.agg #[.int .i64 e.op, .int .i64 e.num, .string e.name, .slice q e.args.length cp]) → _ :=
    fun h0 w hs hv => known_any env e (.agg #[.int .i64 e.op, .int .i64 e.num, .string e.name, .slice q e.args.length cp]) p cap w hs hv hz (fun s hs => by
      have := nameB_size (names_ok e (hok h0) [] (by simp) s hs); omega)
  have hva : validE e = 0 → ∀ w, SigsVal w env (.slice p env.length cap) → ExVal w e (.agg #[.int .i64 e.op, .int .i64 e.num, .string e.name, .slice q e.args.length cp]) → _ :=
    fun h0 w hs hv => value_any env p cap e _ w (hok h0) hs hv
  have HKN := Lib.hid hkn; clear hkn
  have HVL := Lib.hid hva; clear hva
  clear hok hl
  generalize hve : validE e = ve at *
  have HVE := Lib.hid hve; clear hve
  have HV := Lib.hid hv; clear hv
  have HS := Lib.hid hs; clear hs
  have HK := Lib.hid hk; clear hk
  have hE : Ext w ((w.alloc (.cells #[.int .i64 e.op, .int .i64 e.num, .string e.name, .slice q e.args.length cp] 24)).alloc (.cells #[.slice p env.length cap] 61)) := ((Ext.refl w).alloc _).alloc _
  have HE := Lib.hid hE; clear hE
  have BX : Hid (∀ w1, Ext ((w.alloc (.cells #[.int .i64 e.op, .int .i64 e.num, .string e.name, .slice q e.args.length cp] 24)).alloc (.cells #[.slice p env.length cap] 61)) w1 → (w1.cell? ⟨w.heap.size, 0, none⟩ = some (.int .i64 e.op) ∧ w1.cell? ⟨w.heap.size, 1, none⟩ = some (.int .i64 e.num) ∧ w1.cell? ⟨w.heap.size, 2, none⟩ = some (.string e.name) ∧ w1.cell? ⟨w.heap.size, 3, none⟩ = some (.slice q e.args.length cp)) ∧ w1.cell? ⟨w.heap.size + 1, 0, none⟩ = some (.slice p env.length cap)) :=
    Lib.hid fun w1 h => ⟨⟨h.cell (by simp [World.cell?_alloc_new]), h.cell (by simp [World.cell?_alloc_new]), h.cell (by simp [World.cell?_alloc_new]), h.cell (by simp [World.cell?_alloc_new])⟩, h.cell (by simp [World.cell?_alloc_new])⟩
  go_enter Tryd.func25, Tryd.ntmps25
  go_wp2_with fail
  refine (HVA.out _ (HV.out.ext HE.out) (HK.out.ext HE.out)).mono ?_
  rintro en w1 ⟨rfl, hx⟩
  obtain ⟨⟨c0, c1, c2, c3⟩, c4⟩ := BX.out _ hx
  have HX := Lib.hid hx; clear hx
  by_cases hz : ve = 0
  · subst hz
    go_wp2_with fail
    refine (HKN.out (by first | rfl | trivial) _ (HS.out.ext (HE.out.trans HX.out)) (HV.out.ext (HE.out.trans HX.out))).mono ?_
    rintro en w2 ⟨rfl, hy⟩
    obtain ⟨⟨d0, d1, d2, d3⟩, d4⟩ := BX.out _ (HX.out.trans hy)
    have HY := Lib.hid hy; clear hy
    clear c0 c1 c2 c3 c4
    cases hkb : knownB env e with
    | true =>
      have HKB := Lib.hid hkb; clear hkb
      go_wp2_with fail
      refine (HVL.out (by first | rfl | trivial) _ (HS.out.ext ((HE.out.trans HX.out).trans HY.out)) (HV.out.ext ((HE.out.trans HX.out).trans HY.out))).mono ?_
      rintro en w3 ⟨rfl, hz⟩
      have HZ := Lib.hid hz; clear hz
      go_wp2_with fail
      go_ret2
      refine ⟨?_, ((HE.out.trans HX.out).trans HY.out).trans HZ.out⟩
      rw [HQ.out, if_pos trivial, if_pos HKB.out]; rfl
    | false =>
      have HKB := Lib.hid hkb; clear hkb
      go_wp2_with fail
      go_ret2
      refine ⟨?_, (HE.out.trans HX.out).trans HY.out⟩
      rw [HQ.out, if_pos trivial, if_neg (by rw [HKB.out]; simp)]; rfl
  · have hz1 : (ve != 0) = true := bne_iff_ne.2 hz
    have HZ := Lib.hid hz; clear hz
    go_wp2_with fail
    go_ret2
    refine ⟨?_, HE.out.trans HX.out⟩
    rw [HQ.out, if_neg HZ.out]; rfl
end Go.Proofs.YtibfoafepjggjaaDoor
