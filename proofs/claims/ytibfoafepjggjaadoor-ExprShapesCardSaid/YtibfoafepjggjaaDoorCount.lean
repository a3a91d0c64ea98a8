/-
  Walks: count, Few.
-/
import Derived.Test.YtibfoafepjggjaaDoorRows
import Derived.Test.YtibfoafepjggjaaDoorData
import Derived.WalkKit
import Derived.WalkSpells
import Derived.Outline
import Derived.WalkLawsBesides
namespace Go.Proofs.YtibfoafepjggjaaDoor
open Go.RowKit

mutual
def cnt : Ex → Int → Int
  | .mk _ _ _ l, n => cntL l 1 n
def cntL : List Ex → Int → Int → Int
  | [], k, _ => k
  | a :: r, k, n => if k ≤ n then cntL r (k + cnt a (n - k)) n else k
end

theorem cnt_bd (e : Ex) : ∀ n, 0 ≤ n → 1 ≤ cnt e n ∧ cnt e n ≤ n + 1 := by
  induction e using Ex.ind with
  | h o m s l ih =>
    intro n hn
    suffices H : ∀ (r : List Ex), (∀ a, a ∈ r → a ∈ l) → ∀ k, 1 ≤ k → k ≤ n + 1 → 1 ≤ cntL r k n ∧ cntL r k n ≤ n + 1 by
      simp only [cnt]; exact H l (fun _ h => h) 1 (by omega) (by omega)
    intro r
    induction r with
    | nil => intro _ k h1 h2; simp only [cntL]; omega
    | cons a r ihr =>
      intro hm k h1 h2
      simp only [cntL]
      split
      · have := ih a (hm a (by simp)) (n - k) (by omega)
        exact ihr (fun x hx => hm x (by simp [hx])) _ (by omega) (by omega)
      · omega

set_option maxHeartbeats 400000 in
set_option maxRecDepth 100000 in
theorem count_any (e : Ex) : ∀ (n : Int) (v : Value) (w : World), 0 ≤ n → n ≤ 1000 → ExVal w e v →
    Calls Tryd.prog 33 #[v, .int .i64 n] w fun en w' => en = .returned (.int .i64 (cnt e n)) ∧ Ext w w' := by
  induction e using Ex.ind with
  | h o m s l ih =>
    intro n v w hn hn' hv
    obtain ⟨p, cap, rfl, hl, h1, h2, -, -, -⟩ := ex_open hv
    simp only [Ex.op, Ex.num, Ex.name, Ex.args] at *
    have HL := Lib.hid hl; clear hl
    have HV := Lib.hid hv; clear hv
    have IH := Lib.hid ih; clear ih
    go_enter Tryd.func33, Tryd.ntmps33
    go_wp2_with fail
    go_loopw [5, 6] (fun k i wr => ∃ (kk : Int) (j : Nat), k = .int .i64 kk ∧ i = .int .i64 j ∧ j ≤ l.length ∧ 1 ≤ kk ∧ kk ≤ n + 1 ∧ cntL (l.drop j) kk n = cntL l 1 n ∧ Ext (w.alloc (.cells #[.int .i64 o, .int .i64 m, .string s, .slice p l.length cap] 24)) wr) (fun _ i _ => l.length - (intOf i).toNat)
    case atStart => exact ⟨1, 0, rfl, rfl, Nat.zero_le _, by omega, by omega, rfl, Ext.refl _⟩
    case round =>
      obtain ⟨kk, j, rfl, rfl, hj, hk1, hk2, hrec, hext⟩ := hrel
      have HR := Lib.hid hrec; clear hrec
      have c0 : wr.cell? ⟨w.heap.size, 3, none⟩ = some (.slice p l.length cap) := hext.cell (by simp [World.cell?_alloc_new])
      have HX := Lib.hid hext; clear hext
      have hE := Ext.trans ((Ext.refl w).alloc _) HX.out
      have HE := Lib.hid hE; clear hE
      by_cases hlt : j < l.length
      · by_cases hkn : kk ≤ n
        · obtain ⟨b, off, cs, rfl, hr, hc⟩ := exs_at HL.out hlt
          obtain ⟨sv, g1, -, g2, g3, g4, g5⟩ := ex_row (hr.ext HE.out) (hc.ext HE.out)
          clear hr hc
          have G1 := Lib.hid g1; clear g1
          go_wp2_with fail
          have hb := cnt_bd l[j] (n - kk) (by omega)
          refine (IH.out l[j] (by simp) (n - kk) _ _ (by omega) (by omega) G1.out).mono ?_
          rintro e w' ⟨rfl, hx⟩
          have HY := Lib.hid hx; clear hx
          go_wp2_with fail
          go_roundw
          case rel => exact ⟨kk + cnt l[j] (n - kk), j + 1, rfl, by go_num, by omega, by omega, by omega, by rw [← HR.out, List.drop_eq_getElem_cons hlt]; simp only [cntL]; rw [if_pos hkn], HX.out.trans HY.out⟩
          case measure => simp [intOf]; omega
        · go_wp2_with fail
          go_ret
          exact ⟨ret_int (by rw [cnt, ← HR.out, List.drop_eq_getElem_cons hlt]; simp only [cntL]; rw [if_neg (by omega)]), HE.out⟩
      · have : j = l.length := by omega
        subst this
        go_wp2_with fail
        go_ret
        exact ⟨ret_int (by rw [cnt, ← HR.out]; simp [cntL]), HE.out⟩

theorem few_any (e : Ex) (n : Int) (v : Value) (w : World) (hn : 0 ≤ n) (hn' : n ≤ 1000) (hv : ExVal w e v) :
    Calls Tryd.prog 9 #[v, .int .i64 n] w fun en w' => en = .returned (.bool (decide (cnt e n ≤ n))) ∧ Ext w w' := by
  have hb := cnt_bd e n hn
  obtain ⟨p, cap, rfl, hl, h1, h2, -, -, -⟩ := ex_open hv
  have HV := Lib.hid hv; clear hv
  have HL := Lib.hid hl; clear hl
  go_enter Tryd.func9, Tryd.ntmps9
  go_wp2_with fail
  refine (count_any e n _ _ hn hn' (HV.out.ext ((Ext.refl w).alloc _))).mono ?_
  rintro e' w' ⟨rfl, hx⟩
  have HY := Lib.hid hx; clear hx
  go_wp2_with fail
  go_ret
  exact ⟨rfl, ((Ext.refl w).alloc _).trans HY.out⟩
end Go.Proofs.YtibfoafepjggjaaDoor
