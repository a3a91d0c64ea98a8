/-
  What the rows of this chapter share. What the rows of this chapter share: expressions that are read, with their size; the second form's bound. The grammar of expressions, on tokens. No program is in sight here.
-/
import Derived.Test.YteopfpebdalcoaaGreatDoorLaid7
import Derived.ChangeSame
import Derived.ChangeVars
import Derived.JoinedOf
import Derived.RowKit
import Derived.RowKitTokens
import Derived.LaidLaws
import Derived.ChangeOld
import Derived.Below
import Derived.OpenShut
import Derived.Test.YteopfpebdalcoaaGreatDoorNum1
import Derived.Test.YteopfpebdalcoaaGreatDoorBrE
import Derived.WalkKit
import Derived.ProofKit
import Derived.Deep.DeepHandedRow
import Derived.Deep.DeepWitnessRowRef
import Derived.Test.YteopfpebdalcoaaGreatDoorBs
import Derived.Test.YteopfpebdalcoaaGreatDoorData
set_option linter.unusedVariables false
set_option linter.unusedSimpArgs false
set_option linter.unusedSectionVars false
namespace Go.Proofs.YteopfpebdalcoaaGreatDoor
open Go.ChangeShapes Go.WideShapes Go.RowKit
set_option maxRecDepth 100000
theorem Tryz.own : ownKnob Tryz.prog.godebug = none := by kernel_rfl
theorem Tryz.laidOut : laidOutB Tryz.prog = true := by kernel_rfl
def setBlock (w : World) (g : Nat) (cs : Array Value) : World :=
  { w with heap := w.heap.modify g fun
      | .cells _ t frozen => .cells cs t frozen
      | o => o }
noncomputable def laidWorld (os : Os) : World :=
  let w0 := World.holding Tryz.prog os ⟨#[], #[], []⟩
  let n := w0.heap.size
  let w1 := (((w0.alloc (.cells (kwList.map Value.string).toArray 9)).alloc (.cells (markSs.map Value.string).toArray 9)).alloc (.cells #[.string ⟨#[118, 97, 108, 117, 101, 32, 111, 117, 116, 32, 111, 102, 32, 114, 97, 110, 103, 101]⟩] 158)).alloc (.cells #[.string ⟨#[105, 110, 118, 97, 108, 105, 100, 32, 115, 121, 110, 116, 97, 120]⟩] 158)
  let w2 := setBlock w1 1 #[.slice (some ⟨n, 0, none⟩) 24 24]
  let w3 := setBlock w2 0 #[.slice (some ⟨n + 1, 0, none⟩) 36 36]
  let w4 := setBlock w3 5 #[.iface 156 (.pointer (some ⟨n + 2, 0, none⟩))]
  let w5 := setBlock w4 4 #[.iface 156 (.pointer (some ⟨n + 3, 0, none⟩))]
  let w6 := setBlock w5 3 (Lib.pow10Tab.map fun z => Value.int .u64 z).toArray
  let w7 := setBlock w6 6 (([0, 1, 28, 2, 29, 14, 24, 3, 30, 22, 20, 15, 25, 17, 4, 8, 31, 27, 13, 23, 21, 19, 16, 7, 26, 12, 18, 6, 11, 5, 10, 9] : List Int).map fun z => Value.int .u8 z).toArray
  setBlock w7 7 (([0, 1, 56, 2, 57, 49, 28, 3, 61, 58, 42, 50, 38, 29, 17, 4, 62, 47, 59, 36, 45, 43, 51, 22, 53, 39, 33, 30, 24, 18, 12, 5, 63, 55, 48, 27, 60, 41, 37, 16, 46, 35, 44, 21, 52, 32, 23, 11, 54, 26, 40, 15, 34, 20, 31, 10, 25, 14, 19, 9, 13, 8, 7, 6] : List Int).map fun z => Value.int .u8 z).toArray
theorem laidWorld_met (os : Os) (args : Array Value) : laidMet Tryz.prog row7 ((laidWorld os).forCall (fun _ _ => 0) ⟨#[], args, []⟩).memory :=
  laidMet_of_run' 8 (by kernel_rfl) (by kernel_rfl)
theorem Ext.below {w w' : World} (h : Ext w w') : Below w.heap.size w w' := ⟨h.os, h.tape, h.output, h.size, h.block⟩
theorem lt_of_trod {H : Type} {enc : TypeId × Value → H} {w : World} {t : TypeId} {v : Value} {d : DataW H} {p : List MemPlace} {base : Nat} {spare : Nat → Bool} {held : Bool} (h : DataW.Trod enc Tryz.prog w base spare held t v d p) : ∀ x ∈ p, x.block < w.heap.size := by
  obtain ⟨m, hm⟩ := h
  exact DataW.trod_lt m _ _ _ hm
section
variable {H : Type} {enc : TypeId × Value → H} {w : World} {v : Value} {d : DataW H} {p : List MemPlace} {base : Nat} {spare : Nat → Bool} {held : Bool}
instance : Inhabited Tok := ⟨⟨0, 0, ⟨#[]⟩, 0⟩⟩
end
end Go.Proofs.YteopfpebdalcoaaGreatDoor
namespace Go.Proofs.YteopfpebdalcoaaGreatDoor
open Go.ChangeShapes Go.WideShapes Go.ChangeAt Go.RowKit
def exZero : Array Value := #[.int .i64 0, .int .i64 0, .string ⟨#[]⟩, .slice none 0 0]
instance : Inhabited Ex := ⟨.mk 0 0 ⟨#[]⟩ []⟩
theorem bulk_one {H : Type} (d : DataW H) : 1 ≤ Rows.uptoBulk d := by
  cases d with
  | lit l => cases l <;> simp [Rows.uptoBulk]
  | nil => simp [Rows.uptoBulk]
  | ptr d => simp [Rows.uptoBulk]
  | slice elems spare => simp [Rows.uptoBulk]
  | agg parts => simp [Rows.uptoBulk]
  | iface t d => simp [Rows.uptoBulk]
  | map entries => simp [Rows.uptoBulk]
  | held h => simp [Rows.uptoBulk]
theorem bulk_sum {H : Type} {α : Type} (g : α → Nat) : ∀ (l : List α) (es : List (DataW H)), es.length = l.length → (∀ i (h : i < l.length) (h' : i < es.length), 5 * g l[i] ≤ Rows.uptoBulk es[i]) → 5 * (l.map g).sum ≤ Rows.uptoBulkAll es
  | [], es, _, _ => by simp
  | a :: r, e :: es, hl, h => by
    have h1 := h 0 (by simp) (by simp)
    have h2 := bulk_sum g r es (by simpa using hl) (fun i g1 g2 => h (i + 1) (by simpa using g1) (by simpa using g2))
    simp only [List.getElem_cons_zero] at h1
    simp only [List.map_cons, List.sum_cons, Rows.uptoBulkAll]
    omega
theorem bulk_slice {H : Type} {α : Type} (g : α → Nat) {l : List α} {d : DataW H} (h : (d = .nil ∧ l = []) ∨ ∃ elems rest : List (DataW H), d = .slice elems rest ∧ elems.length = l.length ∧ ∀ i (h : i < l.length) (h' : i < elems.length), 5 * g l[i] ≤ Rows.uptoBulk elems[i]) : 5 * (l.map g).sum + 1 ≤ Rows.uptoBulk d := by
  rcases h with ⟨rfl, rfl⟩ | ⟨es, rest, rfl, h1, h2⟩
  · simp [Rows.uptoBulk]
  · have := bulk_sum g l es h1 h2
    simp only [Rows.uptoBulk]; omega
theorem esizes_sum (l : List Ex) : esizes l = (l.map esize).sum := by
  induction l with
  | nil => rfl
  | cons a r ih => simp only [esizes, ih, List.map_cons, List.sum_cons]
section
variable {H : Type} {enc : TypeId × Value → H} {w : World} {v : Value} {d : DataW H} {p : List MemPlace} {base : Nat} {spare : Nat → Bool} {held : Bool}
set_option maxRecDepth 100000 in
theorem ex_reads : ∀ (n : Nat) {cs : List Value} {y : DataW H × List MemPlace}, DataW.trod enc Tryz.prog w base spare held n 24 cs = some y → ∃ e : Ex, DReps (mem w) (dex e) cs ∧ 5 * esize e ≤ Rows.uptoBulk y.1 := by
  intro n
  induction n using Nat.strongRecOn with
  | _ n ih =>
  intro cs y h
  obtain ⟨xs, m, rfl, rfl, hlen, hxs, hf⟩ := DataW.trod_struct Tryz.underlying24 h
  rw [show Tryz.prog.cellsOf 24 = 4 by kernel_rfl] at hlen
  match cs, hlen with
  | [a, b, c, e], _ =>
    have hx2 : xs.length = 4 := hxs
    match xs, hx2 with
    | [x0, x1, x2, x3], _ =>
    have f0 : DataW.trod enc Tryz.prog w base spare held m 3 [a] = some x0 := hf 0 _ rfl
    have f1 : DataW.trod enc Tryz.prog w base spare held m 3 [b] = some x1 := hf 1 _ rfl
    have f2 : DataW.trod enc Tryz.prog w base spare held m 9 [c] = some x2 := hf 2 _ rfl
    have f3 : DataW.trod enc Tryz.prog w base spare held m 22 [e] = some x3 := hf 3 _ rfl
    obtain ⟨o, g0, k0⟩ := int_reads Tryz.underlying3 f0
    obtain ⟨q, g1, k1⟩ := int_reads Tryz.underlying3 f1
    obtain ⟨s, g2, k2⟩ := str_reads Tryz.underlying9 f2
    obtain ⟨l, v', g3, k3, hb⟩ := slice_readsQ (k := 4) Tryz.underlying22 (by kernel_rfl) (by decide) dex (fun a => by rw [dex_eq]; rfl) (fun e d => 5 * esize e ≤ Rows.uptoBulk d) f3 (fun n' hn cs' y hy => ih n' (by omega) hy)
    cases g0; cases g1; cases g2; cases g3
    refine ⟨.mk o q s l, by rw [dex_eq]; exact .cons (.lit _ k0) (.cons (.lit _ k1) (.cons (.lit _ k2) (.cons k3 .nil))), ?_⟩
    have hb' := bulk_slice esize hb
    have b0 := bulk_one x0.1
    have b1 := bulk_one x1.1
    have b2 := bulk_one x2.1
    simp only [esize, esizes_sum, List.map_cons, List.map_nil, Rows.uptoBulk, Rows.uptoBulkAll]
    omega
set_option maxRecDepth 100000 in
theorem ex_trod (h : DataW.Trod enc Tryz.prog w base spare held 24 v d p) (hv : Value.okWide Tryz.prog w .any base 24 v) : ∃ e : Ex, Rep (mem w) [] (vex e) v ∧ 5 * esize e ≤ Rows.uptoBulk d := by
  obtain ⟨fuel, hf⟩ := h
  obtain ⟨s, h1, h2⟩ := ex_reads fuel hf
  obtain ⟨cs, rfl, -⟩ := okWide_struct Tryz.underlying24 hv
  have h3 := h1.rep (bm := [])
  exact ⟨s, by simpa [vex, Value.cells] using h3, h2⟩
end
end Go.Proofs.YteopfpebdalcoaaGreatDoor
namespace Go.Proofs.YteopfpebdalcoaaGreatDoor
open Go.RowKit
inductive PR where
  | out
  | bad (e : Int) (r : List Tok)
  | ok (e : Ex) (r : List Tok)
def PR.bind (x : PR) (f : Ex → List Tok → PR) : PR := match x with
  | .out => .out
  | .bad e r => .bad e r
  | .ok e r => f e r
inductive PK where
  | W
  | I
  | L (k : Nat)
  | Lp (k : Nat) (a : Ex)
  | In (a : Ex)
  | Ip (args : List Ex)
  | U
  | P
def failP : List Tok → PR
  | [] => .bad 6 []
  | t :: r => .bad 5 (t :: r)
def mark1 (c : UInt8) : ByteArray := ⟨#[c]⟩
def mark2 (c d : UInt8) : ByteArray := ⟨#[c, d]⟩
def acc (m : ByteArray) : List Tok → Option (List Tok)
  | [] => none
  | t :: r => if vTok t = true ∧ (t.kind = 4 ∨ t.kind = 2) ∧ t.text = m then some r else none
def nodeE (o : Int) (l : List Ex) : Ex := .mk o 0 ⟨#[]⟩ l
def binTab : List (ByteArray × Int × Nat) := [(mark2 61 62, 21, 2), (mark2 124 124, 20, 3), (mark2 38 38, 19, 4), (mark1 124, 11, 5), (mark1 94, 12, 6), (mark1 38, 10, 7), (mark2 61 61, 15, 8), (mark2 33 61, 16, 8), (mark1 60, 17, 9), (mark2 60 61, 18, 9), (mark2 60 60, 13, 10), (mark2 62 62, 14, 10), (mark1 43, 7, 11), (mark1 45, 8, 11), (mark1 42, 9, 12)]
def operL : List (ByteArray × Int × Nat) → Nat → List Tok → Option (Int × List Tok)
  | [], _, _ => none
  | b :: l, k, r => if b.2.2 = k then (match acc b.1 r with | some r1 => some (b.2.1, r1) | none => operL l k r) else operL l k r
def operP (k : Nat) (r : List Tok) : Option (Int × Bool × List Tok) := match operL binTab k r with
  | some (o, r1) => some (o, false, r1)
  | none => if k = 9 then (match acc (mark1 62) r with
      | some r1 => some (17, true, r1)
      | none => match acc (mark2 62 61) r with
        | some r1 => some (18, true, r1)
        | none => none) else none
def insideW : ByteArray := ⟨#[105, 110, 115, 105, 100, 101]⟩
def sumW : ByteArray := ⟨#[115, 117, 109]⟩
def onesW : ByteArray := ⟨#[111, 110, 101, 115]⟩
def nameP : List Tok → Option (ByteArray × List Tok)
  | [] => none
  | t :: r => if vTok t = true ∧ t.kind = 1 then some (t.text, r) else none
def numP : List Tok → Option (Int × List Tok)
  | [] => none
  | t :: r => if vTok t = true ∧ t.kind = 3 then some (t.num, r) else none
def decS (n : Int) : ByteArray := ⟨(Lib.decDigits n.toNat).toArray⟩
def elemName (s : ByteArray) (n : Int) : ByteArray := s ++ (mark1 91 ++ (decS n ++ mark1 93))
def primP (rec : PK → List Tok → PR) (r : List Tok) : PR := match acc (mark1 40) r with
  | some r1 => (rec .W r1).bind fun e r2 => match acc (mark1 41) r2 with
    | some r3 => .ok e r3
    | none => failP r2
  | none => match numP r with
    | some (n, r1) => if 65535 < n then .bad 3 r else .ok (.mk 1 n ⟨#[]⟩ []) r1
    | none => match nameP r with
      | none => failP r
      | some (s, r1) => match (if s = sumW then acc (mark1 40) r1 else none) with
        | some r2 => match nameP r2 with
          | none => failP r2
          | some (a, r3) => match acc (mark1 41) r3 with
            | some r4 => .ok (.mk 24 0 a []) r4
            | none => failP r3
        | none => match (if s = onesW then acc (mark1 40) r1 else none) with
          | some r2 => (rec .W r2).bind fun e r3 => match acc (mark1 41) r3 with
            | some r4 => .ok (nodeE 25 [e]) r4
            | none => failP r3
          | none => match acc (mark1 91) r1 with
            | some r2 => (rec .W r2).bind fun e r3 => match acc (mark1 93) r3 with
              | some r4 => .ok (.mk 3 0 s [e]) r4
              | none => failP r3
            | none => match acc (mark1 64) r1 with
              | some r2 => match numP r2 with
                | none => failP r2
                | some (n, r3) => if 65535 < n then .bad 3 r2 else .ok (.mk 2 0 (elemName s n) []) r3
              | none => .ok (.mk 2 0 s []) r1
def stepP (rec : PK → List Tok → PR) : PK → List Tok → PR
  | .W, r => (rec .I r).bind fun c r1 => match acc (mark1 63) r1 with
    | none => .ok c r1
    | some r2 => (rec .W r2).bind fun a r3 => match acc (mark1 58) r3 with
      | none => failP r3
      | some r4 => (rec .W r4).bind fun b r5 => .ok (nodeE 22 [c, a, b]) r5
  | .I, r => (rec (.L 3) r).bind fun a r1 => match acc (mark2 61 62) r1 with
    | none => .ok a r1
    | some r2 => (rec .I r2).bind fun b r3 => .ok (nodeE 21 [a, b]) r3
  | .L k, r => if 12 < k then rec .U r else (rec (.L (k + 1)) r).bind fun a r1 => rec (.Lp k a) r1
  | .Lp k a, r => match (if k = 9 then acc insideW r else none) with
    | some r1 => (rec (.In a) r1).bind fun b r2 => rec (.Lp k b) r2
    | none => match operP k r with
      | none => .ok a r
      | some (o, ex, r1) => (rec (.L (k + 1)) r1).bind fun c r2 => rec (.Lp k (if ex then nodeE o [c, a] else nodeE o [a, c])) r2
  | .In a, r => match acc (mark1 123) r with
    | none => failP r
    | some r1 => rec (.Ip [a]) r1
  | .Ip args, r => (rec .W r).bind fun lo r1 => match acc (mark2 46 46) r1 with
    | none => failP r1
    | some r2 => (rec .W r2).bind fun hi r3 => match acc (mark1 44) r3 with
      | some r4 => rec (.Ip (args ++ [lo, hi])) r4
      | none => match acc (mark1 125) r3 with
        | some r5 => .ok (nodeE 23 (args ++ [lo, hi])) r5
        | none => failP r3
  | .U, r => match acc (mark1 33) r with
    | some r1 => (rec .U r1).bind fun a r2 => .ok (nodeE 4 [a]) r2
    | none => match acc (mark1 126) r with
      | some r1 => (rec .U r1).bind fun a r2 => .ok (nodeE 5 [a]) r2
      | none => match acc (mark1 45) r with
        | some r1 => (rec .U r1).bind fun a r2 => .ok (nodeE 6 [a]) r2
        | none => rec .P r
  | .P, r => primP rec r
def pfuel : Nat → PK → List Tok → PR
  | 0, _, _ => .out
  | n + 1, k, r => stepP (pfuel n) k r
end Go.Proofs.YteopfpebdalcoaaGreatDoor
