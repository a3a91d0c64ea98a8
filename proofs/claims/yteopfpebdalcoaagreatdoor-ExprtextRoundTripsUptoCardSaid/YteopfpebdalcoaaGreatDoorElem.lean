/-
  Contracts that were proved over memory, in the plain world. Walks: strings.Cut at one byte; element names.
-/
import Derived.Test.YteopfpebdalcoaaGreatDoorK
import Derived.Test.YteopfpebdalcoaaGreatDoorData
import Derived.Test.YteopfpebdalcoaaGreatDoorNames
import Derived.Test.YteopfpebdalcoaaGreatDoorSpan
import Derived.Lib.Bytealg
import Derived.Deep.RegionHeld3
import Derived.BigRegion
import Derived.Laws.Externs
import Derived.Deep.Light
import Derived.Lib.IndexLaws
set_option linter.unusedVariables false
set_option linter.unusedSimpArgs false
set_option linter.unusedSectionVars false
namespace Go.Proofs.YteopfpebdalcoaaGreatDoor
open Go.RowKit
abbrev dint (n : Int) : D := .lit (.int .i64 n)
abbrev dstr (s : ByteArray) : D := .lit (.string s)
def dstrs (l : List ByteArray) : D := .sl (l.map fun s => [dstr s])
section
variable {M : Facts} {w : World}
theorem strsval_of {bm : List Nat} (hM : M.hold w) {l : List ByteArray} {v : Value} (h : Rep M bm (.d (dstrs l)) v) : StrsVal w l v := by
  cases h with
  | d h =>
  unfold dstrs at h
  generalize hrs : (l.map fun s => [dstr s]) = rows at h
  have hlen : rows.length = l.length := by rw [← hrs]; simp
  cases h with
  | sl _ k p cap val hk hd hf hc hm =>
  rw [hlen]
  refine ⟨p, cap, rfl, by omega, hm, fun i s hi => ?_⟩
  have hil := (List.getElem?_eq_some_iff.1 hi).1
  have hir : i < rows.length := by omega
  obtain ⟨b, off, rfl, h6⟩ := hf i hir
  have hri : rows[i] = [dstr s] := by subst hrs; simp [(List.getElem?_eq_some_iff.1 hi).2]
  have hk1 : k = 1 := by rw [← hk _ (List.getElem_mem hir), hri]; rfl
  subst hk1
  refine ⟨b, off, rfl, ?_⟩
  have h7 := h6 0 (by omega)
  have h8 := hd i 0 hir (by rw [hri]; simp)
  simp only [hri, List.getElem_cons_zero, dstr] at h8
  generalize hv : val i 0 = u at h7 h8
  cases h8 with | lit _ _ =>
  have := hM _ _ _ h7
  simpa using this
theorem keys_of (hG : G.cells M) (hM : M.hold w) : Keys w := by
  obtain ⟨val, h1, h2⟩ := hG 1 [dstrs kwList] (by rfl)
  have h3 := h2 0 (by simp)
  have h4 := h1 0 (by simp)
  simp only [List.getElem_cons_zero] at h3
  exact ⟨val 0, hM _ _ _ h4, strsval_of (bm := []) hM (.d h3)⟩
end
theorem fun_of {f : FuncId} {fn : Func} {args : List V} {u : Value} {σ : List (List V)} (hf : Tryz.prog.funcs[f]? = some fn) (hn : (fn.name == "runtime.NumGoroutine") = false) (hb : fn.body.isNone = false) (hu : Fits u)
    (h : ∀ (M : Facts) (bm : List Nat) (pr : Nat → Prop) (w : World) (vs : List Value), G.glob M pr w → M.hold w → vs.length = args.length → (∀ i (h : i < args.length) (h' : i < vs.length), Rep M bm args[i] vs[i]) → Calls Tryz.prog f vs.toArray w fun e w' => e = .returned u ∧ Ext w w') :
    Fun G f args σ (RetV (.d (.lit u)) σ) := by
  refine ⟨callFunc_enters (P := Tryz.prog) hf hn hb, fun M bm tk pr w vs hG hI ht hl hr => (h M bm pr w vs hG hI.facts hl hr).mono fun e w' ⟨he, hx⟩ => ?_⟩
  obtain ⟨h1, h2⟩ := hI.ext hx
  refine ⟨M, bm, tk, σ, .ret (.d (.lit u)), ⟨rfl, rfl⟩, h1, h2, fun v e => ?_, fun v e => by cases e⟩
  cases e
  exact ⟨u, he, .d (.lit u hu), fun _ _ _ e => by cases e⟩
theorem fun_of1 {f : FuncId} {fn : Func} {a : V} {u : Value} {σ : List (List V)} (hf : Tryz.prog.funcs[f]? = some fn) (hn : (fn.name == "runtime.NumGoroutine") = false) (hb : fn.body.isNone = false) (hu : Fits u)
    (h : ∀ (M : Facts) (bm : List Nat) (pr : Nat → Prop) (w : World) (v : Value), G.glob M pr w → M.hold w → Rep M bm a v → Calls Tryz.prog f #[v] w fun e w' => e = .returned u ∧ Ext w w') : Fun G f [a] σ (RetV (.d (.lit u)) σ) :=
  fun_of hf hn hb hu fun M bm pr w vs hG hM hl hr => match vs, hl with
    | [v], _ => h M bm pr w v hG hM (hr 0 (by simp) (by simp))
theorem fun_of2 {f : FuncId} {fn : Func} {a b : V} {u : Value} {σ : List (List V)} (hf : Tryz.prog.funcs[f]? = some fn) (hn : (fn.name == "runtime.NumGoroutine") = false) (hb : fn.body.isNone = false) (hu : Fits u)
    (h : ∀ (M : Facts) (bm : List Nat) (pr : Nat → Prop) (w : World) (v v' : Value), G.glob M pr w → M.hold w → Rep M bm a v → Rep M bm b v' → Calls Tryz.prog f #[v, v'] w fun e w' => e = .returned u ∧ Ext w w') : Fun G f [a, b] σ (RetV (.d (.lit u)) σ) :=
  fun_of hf hn hb hu fun M bm pr w vs hG hM hl hr => match vs, hl with
    | [v, v'], _ => h M bm pr w v v' hG hM (hr 0 (by simp) (by simp)) (hr 1 (by simp) (by simp))
def newer (w w' : World) : Facts := fun b o => if w.heap.size ≤ b then w'.cell? ⟨b, o, none⟩ else none
theorem fun_of_new {f : FuncId} {fn : Func} {args : List V} {x : V} {σ : List (List V)} (hf : Tryz.prog.funcs[f]? = some fn) (hn : (fn.name == "runtime.NumGoroutine") = false) (hb : fn.body.isNone = false) (hx : ∀ T k rows, x ≠ .own T k rows)
    (h : ∀ (M : Facts) (bm : List Nat) (pr : Nat → Prop) (w : World) (vs : List Value), G.glob M pr w → M.hold w → vs.length = args.length → (∀ i (h : i < args.length) (h' : i < vs.length), Rep M bm args[i] vs[i]) →
      Calls Tryz.prog f vs.toArray w fun e w' => ∃ u, e = .returned u ∧ Ext w w' ∧ Rep (newer w w') [] x u) : Fun G f args σ (RetV x σ) := by
  refine ⟨callFunc_enters (P := Tryz.prog) hf hn hb, fun M bm tk pr w vs hG hI ht hl hr => (h M bm pr w vs hG hI.facts hl hr).mono fun e w' ⟨u, he, hx', hu⟩ => ?_⟩
  have hlt : ∀ b, b < w.heap.size → ∀ o, (if w.heap.size ≤ b then w'.cell? ⟨b, o, none⟩ else M b o) = M b o := fun b hb o => if_neg (by omega)
  have hle : M.le fun b o => if w.heap.size ≤ b then w'.cell? ⟨b, o, none⟩ else M b o := fun b o x hm => by
    have hb := hI.facts.lt hm
    show (if w.heap.size ≤ b then w'.cell? ⟨b, o, none⟩ else M b o) = some x
    rw [hlt b hb o]
    exact hm
  obtain ⟨h1, h2⟩ := hI.grow (M' := fun b o => if w.heap.size ≤ b then w'.cell? ⟨b, o, none⟩ else M b o) hx' hle (fun b o x hm => by
    by_cases hb : w.heap.size ≤ b
    · simpa only [if_pos hb] using hm
    · simp only [if_neg hb] at hm
      exact hx'.cell (hI.facts b o x hm)) hlt
  refine ⟨_, bm, tk, σ, .ret x, ⟨rfl, rfl⟩, h1, h2, fun v e => ?_, fun v e => by cases e⟩
  cases e
  refine ⟨u, he, hu.mono (fun b o x hm => ?_) (fun i b h => by simp at h), fun T k rows e => absurd e (hx T k rows)⟩
  unfold newer at hm
  split at hm
  · rename_i hb; simp only [if_pos hb]; exact hm
  · cases hm
end Go.Proofs.YteopfpebdalcoaaGreatDoor
namespace Go.Proofs.YteopfpebdalcoaaGreatDoor
open Go.RowKit
set_option maxRecDepth 100000 in
theorem indexbyte_any (s : ByteArray) (c : Int) (w : World) :
    Calls Tryz.prog 105 #[.string s, .int .u8 c] w fun e w' => e = .returned (.int .i64 (Lib.indexByte s.data.toList c.toNat.toUInt8)) ∧ w = w' := by
  have hx : ∀ w, (callFunc 125 #[.string s, .int .u8 c]).run Tryz.prog w = .ok (.value (.int .i64 (Lib.indexByte s.data.toList c.toNat.toUInt8))) w := fun w => by
    rw [run_callFunc_extern Tryz.func125 (by kernel_rfl) (by kernel_rfl) (by kernel_rfl) (e := Extern.BytealgIndexByte.indexByte) (by kernel_rfl), Lib.run_indexByteString]
    rfl
  go_enter Tryz.func105, Tryz.ntmps105
  go_wp2_with fail
  go_ret
  exact ⟨rfl, rfl⟩
theorem one_byte {s : ByteArray} {c : UInt8} (h : ([c] == s.toList) = true) : Lib.indexByte s.data.toList c = 0 := by
  rw [ByteArray.toList_eq] at h
  rw [← (beq_iff_eq.1 h)]
  simp [Lib.indexByte]
set_option maxRecDepth 100000 in
theorem index_one (s : ByteArray) (c : UInt8) (w : World) :
    Calls Tryz.prog 146 #[.string s, .string ⟨#[c]⟩] w fun e w' => e = .returned (.int .i64 (Lib.indexByte s.data.toList c)) ∧ w = w' := by
  by_cases he : ([c] == s.toList) = true
  · have h0 := one_byte he
    have H0 := Lib.hid h0; clear h0
    go_enter Tryz.func146, Tryz.ntmps146
    go_wp2_with (go_at_call 105; refine (indexbyte_any _ _ _).mono ?_; rintro e w' ⟨rfl, rfl⟩)
    go_ret
    exact ⟨ret_int H0.out.symm, rfl⟩
  · have he' : ([c] == s.toList) = false := by simpa using he
    clear he
    go_enter Tryz.func146, Tryz.ntmps146
    go_wp2_with (go_at_call 105; refine (indexbyte_any _ _ _).mono ?_; rintro e w' ⟨rfl, rfl⟩)
    go_ret
    exact ⟨ret_int (congrArg (Lib.indexByte s.data.toList) (by rfl)), rfl⟩
def cutA (s : ByteArray) (c : UInt8) : ByteArray := if Lib.indexByte s.data.toList c = -1 then s else s.extract 0 (Lib.indexByte s.data.toList c).toNat
def cutB (s : ByteArray) (c : UInt8) : ByteArray := if Lib.indexByte s.data.toList c = -1 then ⟨#[]⟩ else s.extract ((Lib.indexByte s.data.toList c).toNat + 1) s.size
def cutOk (s : ByteArray) (c : UInt8) : Bool := decide (0 ≤ Lib.indexByte s.data.toList c)
theorem byte_at {s : ByteArray} {c : UInt8} {o : Nat} (h : Lib.indexByte s.data.toList c = o) : o < s.size := by
  have := (Lib.indexByte_some h).1
  rw [Lib.size_eq]
  exact (List.getElem?_eq_some_iff.1 this).1
set_option maxRecDepth 100000 in
theorem lcut_any (s : ByteArray) (c : UInt8) (w : World) (hs : s.size ≤ 9223372036854775807) :
    Calls Tryz.prog 140 #[.string s, .string ⟨#[c]⟩] w fun e w' => e = .returned (.tuple #[.string (cutA s c), .string (cutB s c), .bool (cutOk s c)]) ∧ Ext w w' := by
  have h1 := Lib.indexByte_ge s.data.toList c
  unfold cutA cutB cutOk
  have hc := index_one s c
  by_cases hi : Lib.indexByte s.data.toList c = -1
  · rw [hi] at hc ⊢
    have HC := Lib.hid hc; clear hc
    clear h1 hi
    go_enter Tryz.func140, Tryz.ntmps140
    go_wp2_with (go_at_call 146; refine (HC.out _).mono ?_; rintro e w' ⟨rfl, rfl⟩)
    go_ret3
    exact ⟨rfl, Ext.refl _⟩
  · obtain ⟨o, ho⟩ := Int.eq_ofNat_of_zero_le (a := Lib.indexByte s.data.toList c) (by omega)
    have hlt := byte_at ho
    rw [ho] at hc ⊢
    have HC := Lib.hid hc; clear hc
    clear h1 hi
    have HO := Lib.hid ho; clear ho
    have e1 : IntKind.i64.wrap ((o : Int) + 1) = (o : Int) + 1 := IntWalk.i64_in _ (by omega)
    have e2 : ((o : Int) + 1).toNat = o + 1 := by omega
    go_enter Tryz.func140, Tryz.ntmps140
    go_wp2_with (go_at_call 146; refine (HC.out _).mono ?_; rintro e w' ⟨rfl, rfl⟩)
    go_quiet (fail)
    go_wp2_with fail
    go_ret3
    exact ⟨rfl, (Ext.refl w).drewN _⟩
theorem cut_any (s : ByteArray) (c : UInt8) (w : World) (hs : s.size ≤ 9223372036854775807) :
    Calls Tryz.prog 120 #[.string s, .string ⟨#[c]⟩] w fun e w' => e = .returned (.tuple #[.string (cutA s c), .string (cutB s c), .bool (cutOk s c)]) ∧ Ext w w' := by
  go_enter Tryz.func120, Tryz.ntmps120
  go_wp2_with (go_at_call 140; refine (lcut_any _ _ _ hs).mono ?_; rintro e w' ⟨rfl, hx⟩)
  go_ret3
  exact ⟨rfl, by assumption⟩
theorem cutA_le (s : ByteArray) (c : UInt8) : (cutA s c).size ≤ s.size := by
  unfold cutA; split
  · exact Nat.le_refl _
  · simp; omega
theorem cutB_le (s : ByteArray) (c : UInt8) : (cutB s c).size ≤ s.size := by
  unfold cutB; split
  · exact Nat.zero_le _
  · simp
def closeB (t : ByteArray) : Bool := if h : t.size = 2 then decide ((t[1]'(by omega)).toNat = 93) && decide (48 ≤ (t[0]'(by omega)).toNat) && decide ((t[0]'(by omega)).toNat < 56) else false
def elemB (s : ByteArray) : Bool := cutOk s 91 && nameB (cutA s 91) && closeB (cutB s 91)
def RetElem (eb : Bool) (w : World) (e : Ending) (w' : World) : Prop := ∃ a i, e = .returned (.tuple #[.string a, .int .i64 i, .bool eb]) ∧ Ext w w'
theorem retElem {eb b : Bool} {w w' : World} {a : ByteArray} {i : Int} (h : b = eb) (hx : Ext w w') : RetElem eb w (.returned (.tuple #[.string a, .int .i64 i, .bool b])) w' := ⟨a, i, by rw [h], hx⟩
theorem closeB_ne {t : ByteArray} (h : ¬ t.size = 2) : closeB t = false := by unfold closeB; rw [dif_neg h]
theorem closeB_eq {t : ByteArray} (h : t.size = 2) : closeB t = (decide ((t[1]'(by omega)).toNat = 93) && decide (48 ≤ (t[0]'(by omega)).toNat) && decide ((t[0]'(by omega)).toNat < 56)) := by unfold closeB; rw [dif_pos h]
set_option maxRecDepth 100000 in
theorem element_any (s : ByteArray) (w : World) (hs : s.size ≤ 9223372036854775807) (hk : Keys w) :
    Calls Tryz.prog 99 #[.string s] w (RetElem (elemB s) w) := by
  have hA := cutA_le s 91
  have hB := cutB_le s 91
  have hcut := fun w => cut_any s 91 w hs
  have hq : elemB s = (cutOk s 91 && nameB (cutA s 91) && closeB (cutB s 91)) := rfl
  generalize elemB s = eb at hq ⊢
  generalize cutA s 91 = a at *
  generalize cutB s 91 = b at *
  generalize cutOk s 91 = ok at *
  have HQ := Lib.hid hq; clear hq
  have HK := Lib.hid hk; clear hk
  have HC := Lib.hid hcut; clear hcut
  by_cases hz : b.size = 2
  · have k1 : 1 < b.size := by omega
    have k0 : 0 < b.size := by omega
    have HZ := Lib.hid hz; clear hz
    have hz2 : ((b.size : Int) != 2) = false := by rw [HZ.out]; rfl
    go_enter Tryz.func99, Tryz.ntmps99
    go_wp2_with (first | (go_at_call 120; refine (HC.out _).mono ?_; rintro e w' ⟨rfl, hx⟩) | (go_at_call 62; refine (isname_any _ _ (by omega) (HK.out.ext (by assumption))).mono ?_; rintro e w' ⟨rfl, hy⟩))
    all_goals (try (go_quiet (fail); go_wp2_with fail))
    all_goals go_ret3
    all_goals (go_light; refine retElem ?_ (by first | exact (hx.trans hy).drewN _ | exact hx.trans hy | exact hx); rw [HQ.out]; first | (simp [*]; done) | (rw [closeB_eq HZ.out]; simp [*]; done) | (rw [closeB_eq HZ.out, Bool.eq_iff_iff]; simp [*]; omega))
  · have hc := closeB_ne hz
    have HH := Lib.hid hc; clear hc
    have hz2 : ((b.size : Int) != 2) = true := by rw [bne_iff_ne]; omega
    clear hz
    go_enter Tryz.func99, Tryz.ntmps99
    go_wp2_with (first | (go_at_call 120; refine (HC.out _).mono ?_; rintro e w' ⟨rfl, hx⟩) | (go_at_call 62; refine (isname_any _ _ (by omega) (HK.out.ext (by assumption))).mono ?_; rintro e w' ⟨rfl, hy⟩))
    all_goals go_ret3
    all_goals (go_light; refine retElem ?_ (by first | exact hx.trans hy | exact hx); rw [HQ.out]; first | (simp [*]; done) | (rw [HH.out]; simp; done))
end Go.Proofs.YteopfpebdalcoaaGreatDoor
