/-
  Functions of the library in the plain world: Count, HasPrefix, ContainsRune, ParseInt, Itoa, Join; the lexer's span.
-/
import Derived.Test.YtdglhbelfjcffaaDoorBrG
import Derived.Test.YtdglhbelfjcffaaDoorShelf
set_option linter.unusedVariables false
set_option linter.unusedSimpArgs false
namespace Go.Proofs.YtdglhbelfjcffaaDoor
open Go.RowKit

theorem rep_lit {M : Facts} {bm : List Nat} {u v : Value} (h : Rep M bm (.d (.lit u)) v) : v = u := by
  cases h with
  | d h => cases h with
  | lit _ _ => rfl
theorem fun_lit1 {f : FuncId} {fn : Func} {a u : Value} {σ : List (List V)} (hf : Tryd.prog.funcs[f]? = some fn) (hn : (fn.name == "runtime.NumGoroutine") = false) (hb : fn.body.isNone = false) (hu : Fits u)
    (h : ∀ pr w, G.kept pr w → Calls Tryd.prog f #[a] w fun e w' => e = .returned u ∧ Ext w w') : Fun G f [.d (.lit a)] σ (RetV (.d (.lit u)) σ) :=
  fun_of1 hf hn hb hu fun M bm pr w v hG hM h1 => by cases rep_lit h1; exact h pr w hG.2
theorem fun_lit2 {f : FuncId} {fn : Func} {a b u : Value} {σ : List (List V)} (hf : Tryd.prog.funcs[f]? = some fn) (hn : (fn.name == "runtime.NumGoroutine") = false) (hb : fn.body.isNone = false) (hu : Fits u)
    (h : ∀ pr w, G.kept pr w → Calls Tryd.prog f #[a, b] w fun e w' => e = .returned u ∧ Ext w w') : Fun G f [.d (.lit a), .d (.lit b)] σ (RetV (.d (.lit u)) σ) :=
  fun_of2 hf hn hb hu fun M bm pr w v v' hG hM h1 h2 => by cases rep_lit h1; cases rep_lit h2; exact h pr w hG.2
theorem same_ext {P : Program} {f : FuncId} {args : Array Value} {w : World} {u : Value} (h : Calls P f args w fun e w' => e = .returned u ∧ w' = w) : Calls P f args w fun e w' => e = .returned u ∧ Ext w w' :=
  h.mono fun e w' ⟨he, hw⟩ => ⟨he, hw ▸ Ext.refl _⟩
theorem fits_nat {n : Nat} (h : n ≤ 9223372036854775807) : Fits (.int .i64 n) := by
  simp only [Fits, IntKind.min, IntKind.max, IntKind.signed, IntKind.bits]; omega
theorem fun_count (l : Bs) (hl : l.length ≤ 9223372036854775807) (σ : List (List V)) : Fun G 59 [.d (dstr (bs l)), .d (dstr ⟨#[10]⟩)] σ (RetV (.d (dint (l.count 10 : Nat))) σ) :=
  fun_lit2 Tryd.func59 (by kernel_rfl) (by kernel_rfl) (fits_nat (Nat.le_trans List.count_le_length hl)) fun pr w _ => by
    have := same_ext (Tryd.strings_Count_one (bs l) 10 w)
    rw [bs_list] at this
    exact this
theorem fun_hasprefix (s p : Bs) (σ : List (List V)) : Fun G 36 [.d (dstr (bs s)), .d (dstr (bs p))] σ (RetV (.d (.lit (.bool (p.isPrefixOf s)))) σ) :=
  fun_lit2 Tryd.func36 (by kernel_rfl) (by kernel_rfl) trivial fun pr w _ => by
    have := same_ext (Tryd.strings_HasPrefix (bs s) (bs p) w)
    rw [bs_list, bs_list] at this
    exact this
theorem blank_low : ∀ c : Nat, c < 128 → decide (0 ≤ Lib.indexByte [32, 9, 10] ((c : Int).toNat.toUInt8)) = (c == 32 || c == 9 || c == 10) := by decide
theorem fun_itoa (n : Int) (h0 : -9223372036854775808 ≤ n) (h1 : n ≤ 9223372036854775807) (hs : (Lib.itoa n).length ≤ maxLen) (σ : List (List V)) : Fun G 53 [.d (dint n)] σ (RetV (.d (dstr (bs (Lib.itoa n)))) σ) :=
  fun_lit1 Tryd.func53 (by kernel_rfl) (by kernel_rfl) (by show (bs (Lib.itoa n)).size ≤ maxLen; rw [bs_size]; exact hs) fun pr w hk => by
    obtain ⟨-, cs, T, z, g1, rfl⟩ := hk 5 _ (by rfl)
    refine (Tryd.strconv_Itoa n h0 h1 w ?_).mono fun e w' ⟨he, k, os, hw⟩ => ⟨he, ?_⟩
    · have hg : Tryd.prog.globalNamed "internal/strconv.uint64pow10" = some 5 := by kernel_rfl
      simp only [Lib.TabIs, World.var?, hg, Option.bind_some, g1]
    · subst hw
      exact ⟨rfl, rfl, rfl, by simp [Sort.grow, World.drewN], fun i hi => by
        show ((w.drewN k).heap ++ os)[i]? = _
        rw [Array.getElem?_append_left (by show i < w.heap.size; omega)]
        rfl⟩
theorem fun_parse_ok (l : Bs) (v : Int) (hl : l.length ≤ 9223372036854775806) (hp : Lib.parseIntB 64 l = .ok v) (hv : Fits (.int .i64 v)) (σ : List (List V)) : Fun G 61 [.d (dstr (bs l)), .d (dint 10), .d (dint 64)] σ (RetV (.tup [.d (dint v), .d (.lit .nilIface)]) σ) :=
  fun_of_new Tryd.func61 (by kernel_rfl) (by kernel_rfl) (fun T k rows e => by cases e) fun M bm pr w vs hG hM hl' hr => by
    match vs, hl' with
    | [a, b, c], _ =>
    have e1 := rep_lit (hr 0 (by simp) (by simp))
    have e2 := rep_lit (hr 1 (by simp) (by simp))
    have e3 := rep_lit (hr 2 (by simp) (by simp))
    simp only [List.getElem_cons_zero, List.getElem_cons_succ] at e1 e2 e3
    subst e1 e2 e3
    refine (Tryd.strconv_ParseInt_10_at64_ok (bs l) (by rw [bs_size]; exact hl) v (by rw [bs_list]; exact hp) w).mono fun e w' ⟨he, hw⟩ => ⟨_, he, ?_, ?_⟩
    · rcases hw with rfl | ⟨t, rfl⟩
      · exact Ext.refl _
      · exact Lib.bytesWorld_below _ _ _
    · refine .tup (vs := [_, _]) rfl fun i g g' => ?_
      match i with
      | 0 => exact .d (.lit _ hv)
      | 1 => exact .d (.lit _ trivial)
theorem fun_parse_range (l : Bs) (hl : l.length ≤ 281474976710656) (hp : Lib.parseIntB 64 l = .range) (σ : List (List V)) : Fun G 61 [.d (dstr (bs l)), .d (dint 10), .d (dint 64)] σ (RetV (.tup [.junk, .iface 87 .junk]) σ) :=
  fun_of_new Tryd.func61 (by kernel_rfl) (by kernel_rfl) (fun T k rows e => by cases e) fun M bm pr w vs hG hM hl' hr => by
    match vs, hl' with
    | [a, b, c], _ =>
    have e1 := rep_lit (hr 0 (by simp) (by simp))
    have e2 := rep_lit (hr 1 (by simp) (by simp))
    have e3 := rep_lit (hr 2 (by simp) (by simp))
    simp only [List.getElem_cons_zero, List.getElem_cons_succ] at e1 e2 e3
    subst e1 e2 e3
    obtain ⟨-, cs, T, z, g1, t, x, g2⟩ := hG.2 4 _ (by rfl)
    refine (Tryd.strconv_ParseInt_10_at64_range (bs l) (by rw [bs_size]; exact hl) (by rw [bs_list]; exact hp) (.iface t x) w (by simp [World.cell?, g1, g2]) (.inr ⟨_, _, rfl⟩)).mono fun e w' ⟨N, he, h1, h2, h3⟩ => ⟨_, he, h3, ?_⟩
    refine .tup (vs := [_, _]) rfl fun i g g' => ?_
    match i with
    | 0 => exact .junk _
    | 1 => exact .iface (.junk _)
theorem fun_join (l : List ByteArray) (hn : l.length ≤ 140737488355328) (hlen : (Lib.join (l.map (·.data.toList)) [32]).length ≤ 140737488355328) (σ : List (List V)) :
    Fun G 34 [.d (dstrs l), .d (dstr ⟨#[32]⟩)] σ (RetV (.d (dstr (bs (Lib.join (l.map (·.data.toList)) [32])))) σ) :=
  fun_of2 Tryd.func34 (by kernel_rfl) (by kernel_rfl) (by show (bs _).size ≤ maxLen; rw [bs_size]; unfold maxLen; omega) fun M bm pr w v v' hG hM h1 h2 => by
    cases rep_lit h2
    obtain ⟨p, cap, rfl, g1, g2, g3⟩ := strsval_of hM h1
    by_cases h0 : l = []
    · subst h0
      exact same_ext (Tryd.strings_Join_none p cap ⟨#[32]⟩ w)
    · have hp : 0 < l.length := List.length_pos_iff.2 h0
      obtain ⟨b, off, rfl, g4⟩ := g3 0 (l[0]'hp) (List.getElem?_eq_getElem hp)
      refine Tryd.strings_Join b off cap l ⟨#[32]⟩ w (fun j x hj => ?_) (Lib.lt_of_cell g4) hn g1 hlen
      obtain ⟨b', off', e, g5⟩ := g3 j x hj
      cases e
      exact g5
theorem byte_inn : ByteP inn folB := ⟨fun b hb => rfl, false, fun c h => folB_high h, fun b hb => folB_high (by omega)⟩
theorem byte_dig : ByteP dig digB := ⟨fun b hb => rfl, false, fun c h => by simp only [digB, Bool.and_eq_false_iff, decide_eq_false_iff_not]; omega, fun b hb => by simp only [dig, digB, Bool.and_eq_false_iff, decide_eq_false_iff_not]; omega⟩
theorem byte_line : ByteP (fun b => b != 10) (fun c => decide (c ≠ 10)) := by
  refine ⟨fun b hb => ?_, true, fun c h => by simp; omega, fun b hb => ?_⟩
  · rw [Bool.eq_iff_iff]
    simp only [ne_eq, decide_eq_true_eq, bne_iff_ne]
    refine not_congr ⟨fun h => UInt8.toNat_inj.1 (by show b.toNat = 10; omega), fun h => by rw [h]; rfl⟩
  · simp only [bne_iff_ne, ne_eq]; intro e; rw [e] at hb; revert hb; decide
theorem skip1_any (c : Int) (w : World) : Calls Tryd.prog 39 #[.int .i32 c] w fun e w' => e = .returned (.bool (decide (c ≠ 10))) ∧ w = w' := by
  go_enter Tryd.func39, Tryd.ntmps39
  go_wp2_with fail
  go_ret
  exact ⟨ret_bool (by by_cases h : c = 10 <;> simp [h]), rfl⟩
theorem fun_span {F : FuncId} {q : UInt8 → Bool} {p : Int → Bool} (hq : ByteP q p) (hF : ∀ args w, (callFunc F args).run Tryd.prog w = .ok (.enter F args) w)
    (H : ∀ (c : Int) (w : World), Calls Tryd.prog F #[.int .i32 c] w fun e w' => e = .returned (.bool (p c)) ∧ w = w') (l : Bs) (hl : l.length ≤ 9223372036854775807) (σ : List (List V)) :
    Fun G 38 [.d (dstr (bs l)), .fn F []] σ (RetV (.d (dint (l.takeWhile q).length)) σ) :=
  fun_of2 Tryd.func38 (by kernel_rfl) (by kernel_rfl) (fits_nat (Nat.le_trans (List.takeWhile_prefix _).length_le hl)) fun M bm pr w v v' hG hM h1 h2 => by
    cases rep_lit h1
    cases h2 with
    | @fn _ _ vs hl' h =>
    have : vs = [] := List.eq_nil_of_length_eq_zero hl'
    subst this
    have := span_any F #[] q p hq hF (fun c w => H c w) (bs l) w (by rw [bs_size]; exact hl)
    rw [bs_list] at this
    exact this
theorem span_fol (l : Bs) (hl : l.length ≤ 9223372036854775807) (σ : List (List V)) : Fun G 38 [.d (dstr (bs l)), .fn 51 []] σ (RetV (.d (dint (l.takeWhile inn).length)) σ) :=
  fun_span byte_inn (callFunc_enters (P := Tryd.prog) Tryd.func51 (by kernel_rfl) (by kernel_rfl)) follows_any l hl σ
theorem span_dig (l : Bs) (hl : l.length ≤ 9223372036854775807) (σ : List (List V)) : Fun G 38 [.d (dstr (bs l)), .fn 43 []] σ (RetV (.d (dint (l.takeWhile dig).length)) σ) :=
  fun_span byte_dig (callFunc_enters (P := Tryd.prog) Tryd.func43 (by kernel_rfl) (by kernel_rfl)) digit_any l hl σ
theorem span_line (l : Bs) (hl : l.length ≤ 9223372036854775807) (σ : List (List V)) : Fun G 38 [.d (dstr (bs l)), .fn 39 []] σ (RetV (.d (dint (l.takeWhile (· != 10)).length)) σ) :=
  fun_span byte_line (callFunc_enters (P := Tryd.prog) Tryd.func39 (by kernel_rfl) (by kernel_rfl)) skip1_any l hl σ
end Go.Proofs.YtdglhbelfjcffaaDoor
