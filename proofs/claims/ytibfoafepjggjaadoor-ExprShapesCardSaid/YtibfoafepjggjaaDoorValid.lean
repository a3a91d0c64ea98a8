/-
  Walks: Valid.
-/
import Derived.Test.YtibfoafepjggjaaDoorSizes
import Derived.Test.YtibfoafepjggjaaDoorDepth
namespace Go.Proofs.YtibfoafepjggjaaDoor
open Go.RowKit


mutual
/-- The error of the first node that has one. -/
def errE : Ex → Int
  | .mk o m s l => if nodeErr o m s l.length = 0 then errL l else nodeErr o m s l.length
def errL : List Ex → Int
  | [] => 0
  | a :: r => if errE a = 0 then errL r else errE a
end
def nextErr (_ : Int) (e : Ex) : Int × Bool := (exErr e, exErr e == 0)
theorem err_walk (e : Ex) : ∀ n, walkE nextErr e n = (errE e, errE e == 0) := by
  induction e using Ex.ind with
  | h o m s l ih =>
    intro n
    have H : ∀ (r : List Ex), (∀ a, a ∈ r → a ∈ l) → walkL nextErr r 0 = (errL r, errL r == 0) := by
      intro r
      induction r with
      | nil => intro _; simp [walkL, errL]
      | cons a r ihr =>
        intro hm
        simp only [walkL, ih a (hm a (by simp)), errL]
        by_cases h : errE a = 0
        · rw [h]; simp only [BEq.rfl, if_true]; exact ihr (fun x hx => hm x (by simp [hx]))
        · simp [h]
    simp only [walkE, nextErr, errE, exErr, Ex.op, Ex.num, Ex.name, Ex.args]
    by_cases h : nodeErr o m s l.length = 0
    · simp [h, H l (fun _ h => h)]
    · simp [h]

def ValidI (b : Nat) (O : Nat → Prop) (n : Int) (w : World) : Prop := (∀ k, O k ↔ k = b) ∧ One b 32 (.int .i64 n) w

set_option maxRecDepth 100000 in
theorem valid_visits (w0 : World) (b : Nat) (hb : w0.heap.size ≤ b) (hk : Keys w0) : Visits Tryd.prog w0 40 #[.pointer (some ⟨b, 0, none⟩)] nextErr (ValidI b) (fun _ => True) where
  sub := fun _ _ _ => trivial
  stays := fun h hs => ⟨h.1, by unfold One; rw [hs b ((h.1 b).2 rfl)]; exact h.2⟩
  lt := fun h k hk => by have := (h.1 k).1 hk; subst this; exact ⟨hb, h.2.lt⟩
  call := by
    intro O s w e v _ h0 hI hv
    obtain ⟨p, cp, rfl, hl, h1, h2, -, -, h3⟩ := ex_open hv
    have c0 := hI.2.cell
    have l0 := hI.2.lt
    have HI := Lib.hid hI; clear hI
    have HK := Lib.hid (hk.ext h0); clear hk
    have hlen : e.args.length ≤ 9223372036854775807 := by omega
    have hn := fun w hk => node_any e.op e.num e.name p e.args.length cp w hlen h3 hk
    change ∀ w hk, Calls _ _ _ _ (ErrPost (exErr e) w) at hn
    have HN := Lib.hid hn; clear hn
    clear hv hl
    go_enter Tryd.func40, Tryd.ntmps40
    go_wp2_with fail
    refine (HN.out _ (HK.out.ext ((Ext.refl w).alloc _))).mono ?_
    rintro en w1 ⟨rfl, hx⟩
    have o1 := (One.keep (Keep.of_ext (O := fun _ => False) hx.past) id HI.out.2)
    have c1 := o1.cell
    have f1 := o1.frozen
    have HX := Lib.hid hx.past; clear hx
    have O1 := Lib.hid o1; clear o1
    clear c0
    go_wp2_with fail
    go_ret
    exact ⟨rfl, O, ⟨HI.out.1, O1.out.set _⟩, fun k hk => .inl hk, (Keep.of_ext HX.out).setCell (.inl ((HI.out.1 b).2 rfl)) _⟩

/-- What Valid answers. -/
def validE (e : Ex) : Int := if errE e = 0 ∧ (24 < edepth e ∨ 400 < esize e) then 2 else errE e

set_option maxRecDepth 100000 in
set_option maxHeartbeats 1000000 in
theorem valid_any (e : Ex) (w : World) (v : Value) (hv : ExVal w e v) (hk : Keys w) (hd : edepth e ≤ 1000000) (hs : esize e ≤ 1000000) :
    Calls Tryd.prog 22 #[v] w fun en w' => en = .returned (.int .i64 (validE e)) ∧ Ext w w' := by
  have hq : validE e = if errE e = 0 ∧ (24 < edepth e ∨ 400 < esize e) then 2 else errE e := rfl
  generalize validE e = R at *
  have HQ := Lib.hid hq; clear hq
  obtain ⟨p, cp, rfl, hl, h1, h2, -, -, -⟩ := ex_open hv
  have HV := Lib.hid hv; clear hv
  clear hl
  have hW := walk_any (σ := Int) (Q := fun _ => True) (F := 40) (next := nextErr) (callFunc_enter Tryd.func40 (by kernel_rfl) (by kernel_rfl)) (valid_visits (w.alloc (.cells #[.int .i64 e.op, .int .i64 e.num, .string e.name, .slice p e.args.length cp] 24)) (w.heap.size + 1) (by simp) (hk.ext ((Ext.refl w).alloc _))) e
    (fun k => k = w.heap.size + 1) 0 ((w.alloc (.cells #[.int .i64 e.op, .int .i64 e.num, .string e.name, .slice p e.args.length cp] 24)).alloc (.cells #[.int .i64 0] 32)) _ trivial ((Ext.refl _).alloc _) (HV.out.ext ((Ext.refl w).alloc _)) ⟨fun k => Iff.rfl, by simpa using One.new (w.alloc (.cells #[.int .i64 e.op, .int .i64 e.num, .string e.name, .slice p e.args.length cp] 24)) 32 (.int .i64 0)⟩
  rw [err_walk] at hW
  have HW := Lib.hid hW; clear hW
  have hsz : wrap64 (esize e : Int) = (esize e : Int) := wrap64_of _ (by omega) (by omega)
  have hS := fun w hv => size_any e w (.agg #[.int .i64 e.op, .int .i64 e.num, .string e.name, .slice p e.args.length cp]) hv
  rw [hsz] at hS
  have HS := Lib.hid hS; clear hS hsz
  have hD := fun w hv => depth_any e (.agg #[.int .i64 e.op, .int .i64 e.num, .string e.name, .slice p e.args.length cp]) w hd hv
  have HD := Lib.hid hD; clear hD
  have hd0 : (0 : Int) ≤ edepth e := by omega
  generalize errE e = er at *
  go_enter Tryd.func22, Tryd.ntmps22
  go_wp2_with fail
  refine HW.out.mono ?_
  rintro en w1 ⟨rfl, O1, hI1, hO1, hk1⟩
  have c0 := hI1.2.cell
  have hx : Ext w w1 := hk1.ext (w0 := w) (((Ext.refl w).alloc _).alloc _) (fun x hx => by omega)
  have b0 : ∀ q : Nat, q = w.heap.size → ¬ (q = w.heap.size + 1) := fun q h => by omega
  have d0 : w1.cell? ⟨w.heap.size, 0, none⟩ = some (.int .i64 e.op) := hk1.cell (by simp) (by simp [World.cell?_alloc_new])
  have d1 : w1.cell? ⟨w.heap.size, 1, none⟩ = some (.int .i64 e.num) := hk1.cell (by simp) (by simp [World.cell?_alloc_new])
  have d2 : w1.cell? ⟨w.heap.size, 2, none⟩ = some (.string e.name) := hk1.cell (by simp) (by simp [World.cell?_alloc_new])
  have d3 : w1.cell? ⟨w.heap.size, 3, none⟩ = some (.slice p e.args.length cp) := hk1.cell (by simp) (by simp [World.cell?_alloc_new])
  have HX := Lib.hid hx; clear hx
  clear hI1 hO1 hk1 b0
  go_wp2_with (first | (go_at_call 15; refine (HD.out _ (HV.out.ext HX.out)).mono ?_; rintro e w' ⟨rfl, hy⟩; have q0 := hy.cell c0; have q1 := hy.cell d0; have q2 := hy.cell d1; have q3 := hy.cell d2; have q4 := hy.cell d3) | (go_at_call 13; refine (HS.out _ (HV.out.ext (HX.out.trans hy))).mono ?_; rintro e w' ⟨rfl, hz⟩; have q5 := hz.cell q0))
  all_goals go_ret
  all_goals (go_light; refine ⟨ret_int ?_, (by first | exact (HX.out.trans hy).trans hz | exact HX.out.trans hy | exact HX.out)⟩; rw [HQ.out]; first | (rw [if_pos (by omega)]; done) | (rw [if_neg (by omega)]; done) | (rw [if_neg (by omega)]; omega))
end Go.Proofs.YtibfoafepjggjaaDoor
