/-
  Walks: the reference's walk over the nodes: what it gathers, and how that lies in memory.
  Walks: see.
  Walks: the reference's Size, Depth, Valid, Names, Arrays. Plain laws: counts, sizes, the reference's walk. No program is in sight here. Expressions in the plain world (beside the texts of chapter 7), and the contracts that were proved over memory. The grammar of expressions, on tokens. No program is in sight here.
-/
import Derived.Test.YteopfpebdalcoaaGreatDoorNames2
import Derived.Test.YteopfpebdalcoaaGreatDoorWrong
import Derived.Test.YteopfpebdalcoaaGreatDoorData
import Derived.Deep.DeepCutAuto
import Derived.Deep.RegionLaw
import Derived.BigRegion
import Derived.BigQuiet
import Derived.Deep.QuietTactic
import Derived.Test.YteopfpebdalcoaaGreatDoorElem
import Derived.Test.YteopfpebdalcoaaGreatDoorBs
set_option linter.unusedVariables false
set_option linter.unusedSimpArgs false
set_option linter.unusedSectionVars false
namespace Go.Proofs.YteopfpebdalcoaaGreatDoor
open Go.RowKit
def St5 (b : Nat) (v0 v1 v2 v3 v4 : Value) (w : World) : Prop := w.heap[b]? = some (.cells #[v0, v1, v2, v3, v4] 46 (0, 0))
section
variable {b : Nat} {v0 v1 v2 v3 v4 : Value} {w : World} (h : St5 b v0 v1 v2 v3 v4 w)
include h
end
structure See where
  nodes : Int
  deep : Int
  first : Int
  vars : List ByteArray
  arrs : List ByteArray
structure SeeIn (b : Nat) (N : List ByteArray) (O : Nat → Prop) (x : See) (w : World) (va vr : Value) : Prop where
  own : ∀ k, O k ↔ (k = b ∨ va.ownBlock = some k ∨ vr.ownBlock = some k)
  st : St5 b (.int .i64 x.nodes) (.int .i64 x.deep) (.int .i64 x.first) va vr w
  rowA : w.ownsRow 0 9 1 va x.vars.length (x.vars.map Value.string)
  rowR : w.ownsRow 0 9 1 vr x.arrs.length (x.arrs.map Value.string)
  neA : ∀ k, va.ownBlock = some k → b < k
  neR : ∀ k, vr.ownBlock = some k → b < k
  apart : ∀ k, va.ownBlock = some k → vr.ownBlock ≠ some k
  nodA : x.vars.Nodup
  subA : ∀ s, s ∈ x.vars → s ∈ N
  nodR : x.arrs.Nodup
  subR : ∀ s, s ∈ x.arrs → s ∈ N
section
variable {b : Nat} {N : List ByteArray} {O : Nat → Prop} {x : See} {w : World} {va vr : Value} (h : SeeIn b N O x w va vr)
include h
end
end Go.Proofs.YteopfpebdalcoaaGreatDoor
namespace Go.Proofs.YteopfpebdalcoaaGreatDoor
open Go.RowKit
end Go.Proofs.YteopfpebdalcoaaGreatDoor
namespace Go.Proofs.YteopfpebdalcoaaGreatDoor
open Go.RowKit
end Go.Proofs.YteopfpebdalcoaaGreatDoor
namespace Go.Proofs.YteopfpebdalcoaaGreatDoor
open Go.RowKit
theorem depth_le (e : Ex) : edepth e ≤ esize e := by
  induction e using Ex.ind with
  | h o m s l ih =>
  simp only [edepth, esize]
  suffices H : ∀ (r : List Ex), (∀ a, a ∈ r → a ∈ l) → edepths r ≤ esizes r by have := H l (fun _ h => h); omega
  intro r
  induction r with
  | nil => intro _; simp [edepths, esizes]
  | cons a r ihr =>
    intro hm
    have h1 := ih a (hm a (by simp))
    have h2 := ihr (fun x hx => hm x (by simp [hx]))
    simp only [edepths, esizes]; omega
end Go.Proofs.YteopfpebdalcoaaGreatDoor
namespace Go.Proofs.YteopfpebdalcoaaGreatDoor
open Go.RowKit
mutual
def dex : Ex → List D
  | .mk o n s l => [dint o, dint n, dstr s, .sl (dexs l)]
def dexs : List Ex → List (List D)
  | [] => []
  | a :: r => dex a :: dexs r
end
theorem dexs_map (l : List Ex) : dexs l = l.map dex := by
  induction l with
  | nil => rfl
  | cons a r ih => simp only [dexs, ih, List.map_cons]
theorem dex_eq (e : Ex) : dex e = [dint e.op, dint e.num, dstr e.name, .sl (e.args.map dex)] := by
  cases e; simp only [dex, dexs_map, Ex.op, Ex.num, Ex.name, Ex.args]
def vex (e : Ex) : V := .agg ((dex e).map V.d)
theorem vex_eq (e : Ex) : vex e = .agg [.d (dint e.op), .d (dint e.num), .d (dstr e.name), .d (.sl (e.args.map dex))] := by
  unfold vex; rw [dex_eq]; rfl
section
variable {M : Facts} {w : World}
theorem exrep_of (hM : M.hold w) (e : Ex) : ∀ (vs : List Value), vs.length = (dex e).length → (∀ i (h : i < (dex e).length) (h' : i < vs.length), DRep M (dex e)[i] vs[i]) → ExRep w e vs := by
  induction e using Ex.ind with
  | h o n s l ih =>
  intro vs hl hr
  simp only [dex, dexs_map] at hl hr
  match vs, hl with
  | [v0, v1, v2, v3], _ =>
  have r0 := hr 0 (by simp) (by simp)
  have r1 := hr 1 (by simp) (by simp)
  have r2 := hr 2 (by simp) (by simp)
  have r3 := hr 3 (by simp) (by simp)
  simp only [List.getElem_cons_zero, List.getElem_cons_succ, dint, dstr] at r0 r1 r2 r3
  cases r0 with | lit _ h0 =>
  cases r1 with | lit _ h1 =>
  cases r2 with | lit _ h2 =>
  cases r3 with
  | sl _ k p cap val hk hd hf hc hm =>
  have hlen : (l.map dex).length = l.length := by simp
  have h4 : ∀ a : Ex, (dex a).length = 4 := fun a => by rw [dex_eq]; rfl
  refine .mk o n s l _ ((List.range l.length).map fun i => (List.range 4).map fun j => val i j) (by simp) (fun i h h' => ?_) ?_ ?_ ?_ h2
  · simp only [List.getElem_map, List.getElem_range]
    refine ih _ (List.getElem_mem h) _ (by rw [h4]; simp) (fun j g g' => ?_)
    simp only [List.getElem_map, List.getElem_range]
    have := hd i j (by simpa using h) (by simpa using g)
    simpa using this
  · refine ⟨p, cap, by simp, by simpa using hc, hm, fun i cs hi => ?_⟩
    rw [List.getElem?_map] at hi
    obtain ⟨q, hq, rfl⟩ := Option.map_eq_some_iff.1 hi
    have hql := (List.getElem?_eq_some_iff.1 hq).1
    have hqe : q = i := by have := (List.getElem?_eq_some_iff.1 hq).2; simpa using this.symm
    subst hqe
    have hlt : q < (l.map dex).length := by simpa using hql
    obtain ⟨b, off, h5, h6⟩ := hf q hlt
    have hk4 : k = 4 := by rw [← hk _ (List.getElem_mem hlt)]; simp [h4]
    subst hk4
    refine ⟨b, off, h5, by simp, fun j v hj => ?_⟩
    rw [List.getElem?_map] at hj
    obtain ⟨j', hj', rfl⟩ := Option.map_eq_some_iff.1 hj
    have hjl := (List.getElem?_eq_some_iff.1 hj').1
    have hje : j' = j := by have := (List.getElem?_eq_some_iff.1 hj').2; simpa using this.symm
    subst hje
    exact hM _ _ _ (h6 j' (by simpa using hjl))
  · simp only [Fits, IntKind.min, IntKind.max, IntKind.signed, IntKind.bits] at h0; simpa using h0
  · simp only [Fits, IntKind.min, IntKind.max, IntKind.signed, IntKind.bits] at h1; simpa using h1
theorem exval_of {bm : List Nat} (hM : M.hold w) {e : Ex} {v : Value} (h : Rep M bm (vex e) v) : ExVal w e v := by
  unfold vex at h
  generalize hcs : (dex e).map V.d = cs at h
  cases h with
  | @agg _ vs hl hh h1 =>
  refine ⟨vs, exrep_of hM e vs (by rw [hl, ← hcs]; simp) (fun i g g' => ?_), rfl⟩
  have := hh i (by rw [← hcs]; simpa using g) g'
  have e1 : cs[i]'(by rw [← hcs]; simpa using g) = .d (dex e)[i] := by subst hcs; simp
  rw [e1] at this
  cases this with | d h => exact h
end
theorem nodeErr_bd (o m : Int) (s : ByteArray) (k : Nat) : 0 ≤ nodeErr o m s k ∧ nodeErr o m s k ≤ 7 := by
  unfold nodeErr
  repeat' split
  all_goals omega
theorem errE_bd (e : Ex) : 0 ≤ errE e ∧ errE e ≤ 7 := by
  induction e using Ex.ind with
  | h o m s l ih =>
  have hL : ∀ (r : List Ex), (∀ a, a ∈ r → a ∈ l) → 0 ≤ errL r ∧ errL r ≤ 7 := by
    intro r
    induction r with
    | nil => intro _; simp [errL]
    | cons a r ihr =>
      intro hm
      have h1 := ih a (hm a (by simp))
      have h2 := ihr (fun x hx => hm x (by simp [hx]))
      simp only [errL]
      split <;> omega
  have h1 := nodeErr_bd o m s l.length
  have h2 := hL l (fun _ h => h)
  simp only [errE]
  split <;> omega
theorem valid_fits (e : Ex) : Fits (.int .i64 (validE e)) := by
  have h : 0 ≤ validE e ∧ validE e ≤ 7 := by
    have := errE_bd e
    unfold validE
    split <;> omega
  generalize validE e = y at h
  simp only [Fits, IntKind.min, IntKind.max, IntKind.signed, IntKind.bits, if_true]
  omega
theorem fun_valid (e : Ex) (hs : esize e ≤ 1000000) (hd : edepth e ≤ 1000000) (σ : List (List V)) : Fun G 16 [vex e] σ (RetV (.d (dint (validE e))) σ) :=
  fun_of1 Tryz.func16 (by kernel_rfl) (by kernel_rfl) (valid_fits e) fun M bm pr w v hG hM hr => valid_any e w v (exval_of hM hr) (keys_of hG.1 hM) hd hs
end Go.Proofs.YteopfpebdalcoaaGreatDoor
namespace Go.Proofs.YteopfpebdalcoaaGreatDoor
open Go.RowKit
inductive PR where
  | out
  | bad (e : Int) (r : List Tok)
  | ok (e : Ex) (r : List Tok)
def PR.bind (x : PR) (f : Ex → List Tok → PR) : PR := match x with
  | .out => .out
  | .bad e r => .bad e r
  | .ok e r => f e r
inductive PK where
  | W
  | I
  | L (k : Nat)
  | Lp (k : Nat) (a : Ex)
  | In (a : Ex)
  | Ip (args : List Ex)
  | U
  | P
def failP : List Tok → PR
  | [] => .bad 6 []
  | t :: r => .bad 5 (t :: r)
def mark1 (c : UInt8) : ByteArray := ⟨#[c]⟩
def mark2 (c d : UInt8) : ByteArray := ⟨#[c, d]⟩
def acc (m : ByteArray) : List Tok → Option (List Tok)
  | [] => none
  | t :: r => if vTok t = true ∧ (t.kind = 4 ∨ t.kind = 2) ∧ t.text = m then some r else none
def nodeE (o : Int) (l : List Ex) : Ex := .mk o 0 ⟨#[]⟩ l
def binTab : List (ByteArray × Int × Nat) := [(mark2 61 62, 21, 2), (mark2 124 124, 20, 3), (mark2 38 38, 19, 4), (mark1 124, 11, 5), (mark1 94, 12, 6), (mark1 38, 10, 7), (mark2 61 61, 15, 8), (mark2 33 61, 16, 8), (mark1 60, 17, 9), (mark2 60 61, 18, 9), (mark2 60 60, 13, 10), (mark2 62 62, 14, 10), (mark1 43, 7, 11), (mark1 45, 8, 11), (mark1 42, 9, 12)]
def operL : List (ByteArray × Int × Nat) → Nat → List Tok → Option (Int × List Tok)
  | [], _, _ => none
  | b :: l, k, r => if b.2.2 = k then (match acc b.1 r with | some r1 => some (b.2.1, r1) | none => operL l k r) else operL l k r
def operP (k : Nat) (r : List Tok) : Option (Int × Bool × List Tok) := match operL binTab k r with
  | some (o, r1) => some (o, false, r1)
  | none => if k = 9 then (match acc (mark1 62) r with
      | some r1 => some (17, true, r1)
      | none => match acc (mark2 62 61) r with
        | some r1 => some (18, true, r1)
        | none => none) else none
def insideW : ByteArray := ⟨#[105, 110, 115, 105, 100, 101]⟩
def sumW : ByteArray := ⟨#[115, 117, 109]⟩
def onesW : ByteArray := ⟨#[111, 110, 101, 115]⟩
def nameP : List Tok → Option (ByteArray × List Tok)
  | [] => none
  | t :: r => if vTok t = true ∧ t.kind = 1 then some (t.text, r) else none
def numP : List Tok → Option (Int × List Tok)
  | [] => none
  | t :: r => if vTok t = true ∧ t.kind = 3 then some (t.num, r) else none
def decS (n : Int) : ByteArray := ⟨(Lib.decDigits n.toNat).toArray⟩
def elemName (s : ByteArray) (n : Int) : ByteArray := s ++ (mark1 91 ++ (decS n ++ mark1 93))
def primP (rec : PK → List Tok → PR) (r : List Tok) : PR := match acc (mark1 40) r with
  | some r1 => (rec .W r1).bind fun e r2 => match acc (mark1 41) r2 with
    | some r3 => .ok e r3
    | none => failP r2
  | none => match numP r with
    | some (n, r1) => if 65535 < n then .bad 3 r else .ok (.mk 1 n ⟨#[]⟩ []) r1
    | none => match nameP r with
      | none => failP r
      | some (s, r1) => match (if s = sumW then acc (mark1 40) r1 else none) with
        | some r2 => match nameP r2 with
          | none => failP r2
          | some (a, r3) => match acc (mark1 41) r3 with
            | some r4 => .ok (.mk 24 0 a []) r4
            | none => failP r3
        | none => match (if s = onesW then acc (mark1 40) r1 else none) with
          | some r2 => (rec .W r2).bind fun e r3 => match acc (mark1 41) r3 with
            | some r4 => .ok (nodeE 25 [e]) r4
            | none => failP r3
          | none => match acc (mark1 91) r1 with
            | some r2 => (rec .W r2).bind fun e r3 => match acc (mark1 93) r3 with
              | some r4 => .ok (.mk 3 0 s [e]) r4
              | none => failP r3
            | none => match acc (mark1 64) r1 with
              | some r2 => match numP r2 with
                | none => failP r2
                | some (n, r3) => if 65535 < n then .bad 3 r2 else .ok (.mk 2 0 (elemName s n) []) r3
              | none => .ok (.mk 2 0 s []) r1
def stepP (rec : PK → List Tok → PR) : PK → List Tok → PR
  | .W, r => (rec .I r).bind fun c r1 => match acc (mark1 63) r1 with
    | none => .ok c r1
    | some r2 => (rec .W r2).bind fun a r3 => match acc (mark1 58) r3 with
      | none => failP r3
      | some r4 => (rec .W r4).bind fun b r5 => .ok (nodeE 22 [c, a, b]) r5
  | .I, r => (rec (.L 3) r).bind fun a r1 => match acc (mark2 61 62) r1 with
    | none => .ok a r1
    | some r2 => (rec .I r2).bind fun b r3 => .ok (nodeE 21 [a, b]) r3
  | .L k, r => if 12 < k then rec .U r else (rec (.L (k + 1)) r).bind fun a r1 => rec (.Lp k a) r1
  | .Lp k a, r => match (if k = 9 then acc insideW r else none) with
    | some r1 => (rec (.In a) r1).bind fun b r2 => rec (.Lp k b) r2
    | none => match operP k r with
      | none => .ok a r
      | some (o, ex, r1) => (rec (.L (k + 1)) r1).bind fun c r2 => rec (.Lp k (if ex then nodeE o [c, a] else nodeE o [a, c])) r2
  | .In a, r => match acc (mark1 123) r with
    | none => failP r
    | some r1 => rec (.Ip [a]) r1
  | .Ip args, r => (rec .W r).bind fun lo r1 => match acc (mark2 46 46) r1 with
    | none => failP r1
    | some r2 => (rec .W r2).bind fun hi r3 => match acc (mark1 44) r3 with
      | some r4 => rec (.Ip (args ++ [lo, hi])) r4
      | none => match acc (mark1 125) r3 with
        | some r5 => .ok (nodeE 23 (args ++ [lo, hi])) r5
        | none => failP r3
  | .U, r => match acc (mark1 33) r with
    | some r1 => (rec .U r1).bind fun a r2 => .ok (nodeE 4 [a]) r2
    | none => match acc (mark1 126) r with
      | some r1 => (rec .U r1).bind fun a r2 => .ok (nodeE 5 [a]) r2
      | none => match acc (mark1 45) r with
        | some r1 => (rec .U r1).bind fun a r2 => .ok (nodeE 6 [a]) r2
        | none => rec .P r
  | .P, r => primP rec r
def pfuel : Nat → PK → List Tok → PR
  | 0, _, _ => .out
  | n + 1, k, r => stepP (pfuel n) k r
end Go.Proofs.YteopfpebdalcoaaGreatDoor
