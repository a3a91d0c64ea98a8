/-
  Temporal sequences as plain data, as values of the plain world, and what is computed of them by a fold. No program is in sight here but for the numbers of types.
-/
import Derived.Test.YtbhippphcmkjnaaGreatDoorNew
set_option linter.unusedVariables false
set_option linter.unusedSimpArgs false
namespace Go.Proofs.YtbhippphcmkjnaaGreatDoor
open Go.RowKit

/-- A temporal sequence. -/
inductive Ts where
  | mk (op lo hi : Int) (e : Ex) (name : ByteArray) (args : List Ts)
namespace Ts
def op : Ts → Int | mk o _ _ _ _ _ => o
def lo : Ts → Int | mk _ a _ _ _ _ => a
def hi : Ts → Int | mk _ _ b _ _ _ => b
def ex : Ts → Ex | mk _ _ _ e _ _ => e
def name : Ts → ByteArray | mk _ _ _ _ s _ => s
def args : Ts → List Ts | mk _ _ _ _ _ l => l
end Ts
mutual
theorem Ts.ind {P : Ts → Prop} (h : ∀ s : Ts, (∀ a, a ∈ s.args → P a) → P s) : ∀ s, P s
  | .mk o a b e s l => h (.mk o a b e s l) (Ts.inds h l)
theorem Ts.inds {P : Ts → Prop} (h : ∀ s : Ts, (∀ a, a ∈ s.args → P a) → P s) : ∀ l : List Ts, ∀ a, a ∈ l → P a
  | [], _, ha => nomatch ha
  | b :: r, a, ha => by
    rcases List.mem_cons.1 ha with e | e
    · rw [e]; exact Ts.ind h b
    · exact Ts.inds h r a e
end
mutual
/-- The cells of a sequence. -/
def dts : Ts → List D
  | .mk o a b e s l => [dint o, dint a, dint b, dint e.op, dint e.num, dstr e.name, .sl (e.args.map dex), dstr s, .sl (dtss l)]
def dtss : List Ts → List (List D)
  | [] => []
  | a :: r => dts a :: dtss r
end
theorem dtss_map (l : List Ts) : dtss l = l.map dts := by
  induction l with
  | nil => rfl
  | cons a r ih => simp only [dtss, ih, List.map_cons]
theorem dts_eq (s : Ts) : dts s = [dint s.op, dint s.lo, dint s.hi, dint s.ex.op, dint s.ex.num, dstr s.ex.name, .sl (s.ex.args.map dex), dstr s.name, .sl (s.args.map dts)] := by
  cases s; simp only [dts, dtss_map, Ts.op, Ts.lo, Ts.hi, Ts.ex, Ts.name, Ts.args]
/-- A sequence as a value. -/
def vts (s : Ts) : V := .agg ((dts s).map V.d)
theorem vts_eq (s : Ts) : vts s = .agg [.d (dint s.op), .d (dint s.lo), .d (dint s.hi), .d (dint s.ex.op), .d (dint s.ex.num), .d (dstr s.ex.name), .d (.sl (s.ex.args.map dex)), .d (dstr s.name), .d (.sl (s.args.map dts))] := by
  unfold vts; rw [dts_eq]; rfl
theorem dts_len (s : Ts) : (dts s).length = 9 := by rw [dts_eq]; rfl

mutual
/-- Nodes, those of the expressions among them. -/
def tbig : Ts → Nat
  | .mk _ _ _ e _ l => 1 + esize e + tbigs l
def tbigs : List Ts → Nat
  | [] => 0
  | a :: r => tbig a + tbigs r
end
theorem tbig_eq (s : Ts) : tbig s = 1 + esize s.ex + tbigs s.args := by cases s; rfl
theorem tbigs_mem {l : List Ts} {a : Ts} (h : a ∈ l) : tbig a ≤ tbigs l := by
  induction l with
  | nil => cases h
  | cons b r ih =>
    simp only [tbigs]
    rcases List.mem_cons.1 h with e | e
    · subst e; omega
    · have := ih e; omega
theorem tbig_arg {s a : Ts} (h : a ∈ s.args) : tbig a < tbig s := by
  have := tbigs_mem h
  rw [tbig_eq s]; omega
theorem tbigs_len (l : List Ts) : l.length ≤ tbigs l := by
  induction l with
  | nil => simp [tbigs]
  | cons b r ih =>
    have := tbig_eq b
    simp only [tbigs, List.length_cons]; omega
theorem tbig_len (s : Ts) : s.args.length < tbig s := by
  have := tbigs_len s.args
  rw [tbig_eq s]; omega
theorem edepth_le (e : Ex) : edepth e ≤ esize e := by
  induction e using Ex.ind with
  | h o m s l ih =>
  simp only [edepth, esize]
  have H : ∀ (r : List Ex), (∀ a, a ∈ r → a ∈ l) → edepths r ≤ esizes r := by
    intro r
    induction r with
    | nil => intro _; simp [edepths, esizes]
    | cons a r ihr =>
      intro hm
      have h1 := ih a (hm a (by simp))
      have h2 := ihr (fun x hx => hm x (by simp [hx]))
      simp only [edepths, esizes]
      omega
  have := H l (fun _ h => h)
  omega

mutual
/-- The number of nodes. -/
def tsz : Ts → Nat
  | .mk _ _ _ _ _ l => 1 + tszs l
def tszs : List Ts → Nat
  | [] => 0
  | a :: r => tsz a + tszs r
end
theorem tszs_sum (l : List Ts) : tszs l = (l.map tsz).sum := by
  induction l with
  | nil => rfl
  | cons a r ih => simp only [tszs, ih, List.map_cons, List.sum_cons]
theorem tsz_eq (s : Ts) : tsz s = 1 + (s.args.map tsz).sum := by cases s; simp only [tsz, tszs_sum, Ts.args]
theorem tsz_le (s : Ts) : tsz s ≤ tbig s := by
  induction s using Ts.ind with
  | h s ih =>
  rw [tsz_eq, tbig_eq]
  have H : ∀ l : List Ts, (∀ a, a ∈ l → tsz a ≤ tbig a) → (l.map tsz).sum ≤ tbigs l := by
    intro l
    induction l with
    | nil => intro _; simp [tbigs]
    | cons a r ihr =>
      intro h
      have h1 := h a (by simp)
      have h2 := ihr (fun x hx => h x (by simp [hx]))
      simp only [List.map_cons, List.sum_cons, tbigs]; omega
  have := H s.args ih
  omega
mutual
/-- The depth. -/
def tdp : Ts → Nat
  | .mk _ _ _ _ _ l => 1 + tdps l
def tdps : List Ts → Nat
  | [] => 0
  | a :: r => max (tdp a) (tdps r)
end
theorem tdp_eq (s : Ts) : tdp s = 1 + tdps s.args := by cases s; rfl
theorem tdps_mem {l : List Ts} {a : Ts} (h : a ∈ l) : tdp a ≤ tdps l := by
  induction l with
  | nil => cases h
  | cons b r ih =>
    simp only [tdps]
    rcases List.mem_cons.1 h with e | e
    · subst e; omega
    · have := ih e; omega
theorem tdp_le (s : Ts) : tdp s ≤ tbig s := by
  induction s using Ts.ind with
  | h s ih =>
  rw [tdp_eq, tbig_eq]
  have H : ∀ l : List Ts, (∀ a, a ∈ l → tdp a ≤ tbig a) → tdps l ≤ tbigs l := by
    intro l
    induction l with
    | nil => intro _; simp [tdps]
    | cons a r ihr =>
      intro h
      have h1 := h a (by simp)
      have h2 := ihr (fun x hx => h x (by simp [hx]))
      simp only [tdps, tbigs]; omega
  have := H s.args ih
  omega
end Go.Proofs.YtbhippphcmkjnaaGreatDoor
