/-
  Functions of the library in the plain world: Count, HasPrefix, ContainsRune, ParseInt, Itoa, Join; the lexer's span. Walks over memory: IndexRune and ContainsRune at a byte that is no ASCII.
-/
import Derived.Test.YteopfpebdalcoaaGreatDoorElem
import Derived.Test.YteopfpebdalcoaaGreatDoorShelf
import Derived.Test.YteopfpebdalcoaaGreatDoorData
import Derived.Scope
set_option linter.unusedVariables false
set_option linter.unusedSimpArgs false
set_option linter.unusedSectionVars false
namespace Go.Proofs.YteopfpebdalcoaaGreatDoor
open Go.RowKit
theorem rep_lit {M : Facts} {bm : List Nat} {u v : Value} (h : Rep M bm (.d (.lit u)) v) : v = u := by
  cases h with
  | d h => cases h with
  | lit _ _ => rfl
theorem fun_lit1 {f : FuncId} {fn : Func} {a u : Value} {σ : List (List V)} (hf : Tryz.prog.funcs[f]? = some fn) (hn : (fn.name == "runtime.NumGoroutine") = false) (hb : fn.body.isNone = false) (hu : Fits u)
    (h : ∀ pr w, G.kept pr w → Calls Tryz.prog f #[a] w fun e w' => e = .returned u ∧ Ext w w') : Fun G f [.d (.lit a)] σ (RetV (.d (.lit u)) σ) :=
  fun_of1 hf hn hb hu fun M bm pr w v hG hM h1 => by cases rep_lit h1; exact h pr w hG.2
theorem fun_lit2 {f : FuncId} {fn : Func} {a b u : Value} {σ : List (List V)} (hf : Tryz.prog.funcs[f]? = some fn) (hn : (fn.name == "runtime.NumGoroutine") = false) (hb : fn.body.isNone = false) (hu : Fits u)
    (h : ∀ pr w, G.kept pr w → Calls Tryz.prog f #[a, b] w fun e w' => e = .returned u ∧ Ext w w') : Fun G f [.d (.lit a), .d (.lit b)] σ (RetV (.d (.lit u)) σ) :=
  fun_of2 hf hn hb hu fun M bm pr w v v' hG hM h1 h2 => by cases rep_lit h1; cases rep_lit h2; exact h pr w hG.2
theorem same_ext {P : Program} {f : FuncId} {args : Array Value} {w : World} {u : Value} (h : Calls P f args w fun e w' => e = .returned u ∧ w' = w) : Calls P f args w fun e w' => e = .returned u ∧ Ext w w' :=
  h.mono fun e w' ⟨he, hw⟩ => ⟨he, hw ▸ Ext.refl _⟩
theorem fits_nat {n : Nat} (h : n ≤ 9223372036854775807) : Fits (.int .i64 n) := by
  simp only [Fits, IntKind.min, IntKind.max, IntKind.signed, IntKind.bits]; omega
theorem fun_count (l : Bs) (hl : l.length ≤ 9223372036854775807) (σ : List (List V)) : Fun G 112 [.d (dstr (bs l)), .d (dstr ⟨#[10]⟩)] σ (RetV (.d (dint (l.count 10 : Nat))) σ) :=
  fun_lit2 Tryz.func112 (by kernel_rfl) (by kernel_rfl) (fits_nat (Nat.le_trans List.count_le_length hl)) fun pr w _ => by
    have := same_ext (Tryz.strings_Count_one (bs l) 10 w)
    rw [bs_list] at this
    exact this
theorem fun_hasprefix (s p : Bs) (σ : List (List V)) : Fun G 76 [.d (dstr (bs s)), .d (dstr (bs p))] σ (RetV (.d (.lit (.bool (p.isPrefixOf s)))) σ) :=
  fun_lit2 Tryz.func76 (by kernel_rfl) (by kernel_rfl) trivial fun pr w _ => by
    have := same_ext (Tryz.strings_HasPrefix (bs s) (bs p) w)
    rw [bs_list, bs_list] at this
    exact this
theorem blank_low : ∀ c : Nat, c < 128 → decide (0 ≤ Lib.indexByte [32, 9, 10] ((c : Int).toNat.toUInt8)) = (c == 32 || c == 9 || c == 10) := by decide
theorem fun_itoa (n : Int) (h0 : -9223372036854775808 ≤ n) (h1 : n ≤ 9223372036854775807) (hs : (Lib.itoa n).length ≤ maxLen) (σ : List (List V)) : Fun G 69 [.d (dint n)] σ (RetV (.d (dstr (bs (Lib.itoa n)))) σ) :=
  fun_lit1 Tryz.func69 (by kernel_rfl) (by kernel_rfl) (by show (bs (Lib.itoa n)).size ≤ maxLen; rw [bs_size]; exact hs) fun pr w hk => by
    obtain ⟨-, cs, T, z, g1, rfl⟩ := hk 3 _ (by rfl)
    refine (Tryz.strconv_Itoa n h0 h1 w ?_).mono fun e w' ⟨he, k, os, hw⟩ => ⟨he, ?_⟩
    · have hg : Tryz.prog.globalNamed "internal/strconv.uint64pow10" = some 3 := by kernel_rfl
      simp only [Lib.TabIs, World.var?, hg, Option.bind_some, g1]
    · subst hw
      exact ⟨rfl, rfl, rfl, by simp [Sort.grow, World.drewN], fun i hi => by
        show ((w.drewN k).heap ++ os)[i]? = _
        rw [Array.getElem?_append_left (by show i < w.heap.size; omega)]
        rfl⟩
theorem fun_parse_ok (l : Bs) (v : Int) (hl : l.length ≤ 9223372036854775806) (hp : Lib.parseIntB 64 l = .ok v) (hv : Fits (.int .i64 v)) (σ : List (List V)) : Fun G 115 [.d (dstr (bs l)), .d (dint 10), .d (dint 64)] σ (RetV (.tup [.d (dint v), .d (.lit .nilIface)]) σ) :=
  fun_of_new Tryz.func115 (by kernel_rfl) (by kernel_rfl) (fun T k rows e => by cases e) fun M bm pr w vs hG hM hl' hr => by
    match vs, hl' with
    | [a, b, c], _ =>
    have e1 := rep_lit (hr 0 (by simp) (by simp))
    have e2 := rep_lit (hr 1 (by simp) (by simp))
    have e3 := rep_lit (hr 2 (by simp) (by simp))
    simp only [List.getElem_cons_zero, List.getElem_cons_succ] at e1 e2 e3
    subst e1 e2 e3
    refine (Tryz.strconv_ParseInt_10_at64_ok (bs l) (by rw [bs_size]; exact hl) v (by rw [bs_list]; exact hp) w).mono fun e w' ⟨he, hw⟩ => ⟨_, he, ?_, ?_⟩
    · rcases hw with rfl | ⟨t, rfl⟩
      · exact Ext.refl _
      · exact Lib.bytesWorld_below _ _ _
    · refine .tup (vs := [_, _]) rfl fun i g g' => ?_
      match i with
      | 0 => exact .d (.lit _ hv)
      | 1 => exact .d (.lit _ trivial)
theorem fun_parse_range (l : Bs) (hl : l.length ≤ 281474976710656) (hp : Lib.parseIntB 64 l = .range) (σ : List (List V)) : Fun G 115 [.d (dstr (bs l)), .d (dint 10), .d (dint 64)] σ (RetV (.tup [.junk, .iface 139 .junk]) σ) :=
  fun_of_new Tryz.func115 (by kernel_rfl) (by kernel_rfl) (fun T k rows e => by cases e) fun M bm pr w vs hG hM hl' hr => by
    match vs, hl' with
    | [a, b, c], _ =>
    have e1 := rep_lit (hr 0 (by simp) (by simp))
    have e2 := rep_lit (hr 1 (by simp) (by simp))
    have e3 := rep_lit (hr 2 (by simp) (by simp))
    simp only [List.getElem_cons_zero, List.getElem_cons_succ] at e1 e2 e3
    subst e1 e2 e3
    obtain ⟨-, cs, T, z, g1, t, x, g2⟩ := hG.2 5 _ (by rfl)
    refine (Tryz.strconv_ParseInt_10_at64_range (bs l) (by rw [bs_size]; exact hl) (by rw [bs_list]; exact hp) (.iface t x) w (by simp [World.cell?, g1, g2]) (.inr ⟨_, _, rfl⟩)).mono fun e w' ⟨N, he, h1, h2, h3⟩ => ⟨_, he, h3, ?_⟩
    refine .tup (vs := [_, _]) rfl fun i g g' => ?_
    match i with
    | 0 => exact .junk _
    | 1 => exact .iface (.junk _)
theorem fun_join (l : List ByteArray) (hn : l.length ≤ 140737488355328) (hlen : (Lib.join (l.map (·.data.toList)) [32]).length ≤ 140737488355328) (σ : List (List V)) :
    Fun G 36 [.d (dstrs l), .d (dstr ⟨#[32]⟩)] σ (RetV (.d (dstr (bs (Lib.join (l.map (·.data.toList)) [32])))) σ) :=
  fun_of2 Tryz.func36 (by kernel_rfl) (by kernel_rfl) (by show (bs _).size ≤ maxLen; rw [bs_size]; unfold maxLen; omega) fun M bm pr w v v' hG hM h1 h2 => by
    cases rep_lit h2
    obtain ⟨p, cap, rfl, g1, g2, g3⟩ := strsval_of hM h1
    by_cases h0 : l = []
    · subst h0
      exact same_ext (Tryz.strings_Join_none p cap ⟨#[32]⟩ w)
    · have hp : 0 < l.length := List.length_pos_iff.2 h0
      obtain ⟨b, off, rfl, g4⟩ := g3 0 (l[0]'hp) (List.getElem?_eq_getElem hp)
      refine Tryz.strings_Join b off cap l ⟨#[32]⟩ w (fun j x hj => ?_) (Lib.lt_of_cell g4) hn g1 hlen
      obtain ⟨b', off', e, g5⟩ := g3 j x hj
      cases e
      exact g5
theorem byte_inn : ByteP inn folB := ⟨fun b hb => rfl, false, fun c h => folB_high h, fun b hb => folB_high (by omega)⟩
theorem byte_dig : ByteP dig digB := ⟨fun b hb => rfl, false, fun c h => by simp only [digB, Bool.and_eq_false_iff, decide_eq_false_iff_not]; omega, fun b hb => by simp only [dig, digB, Bool.and_eq_false_iff, decide_eq_false_iff_not]; omega⟩
theorem byte_line : ByteP (fun b => b != 10) (fun c => decide (c ≠ 10)) := by
  refine ⟨fun b hb => ?_, true, fun c h => by simp; omega, fun b hb => ?_⟩
  · rw [Bool.eq_iff_iff]
    simp only [ne_eq, decide_eq_true_eq, bne_iff_ne]
    refine not_congr ⟨fun h => UInt8.toNat_inj.1 (by show b.toNat = 10; omega), fun h => by rw [h]; rfl⟩
  · simp only [bne_iff_ne, ne_eq]; intro e; rw [e] at hb; revert hb; decide
theorem skip1_any (c : Int) (w : World) : Calls Tryz.prog 79 #[.int .i32 c] w fun e w' => e = .returned (.bool (decide (c ≠ 10))) ∧ w = w' := by
  go_enter Tryz.func79, Tryz.ntmps79
  go_wp2_with fail
  go_ret
  exact ⟨ret_bool (by by_cases h : c = 10 <;> simp [h]), rfl⟩
theorem fun_span {F : FuncId} {q : UInt8 → Bool} {p : Int → Bool} (hq : ByteP q p) (hF : ∀ args w, (callFunc F args).run Tryz.prog w = .ok (.enter F args) w)
    (H : ∀ (c : Int) (w : World), Calls Tryz.prog F #[.int .i32 c] w fun e w' => e = .returned (.bool (p c)) ∧ w = w') (l : Bs) (hl : l.length ≤ 9223372036854775807) (σ : List (List V)) :
    Fun G 78 [.d (dstr (bs l)), .fn F []] σ (RetV (.d (dint (l.takeWhile q).length)) σ) :=
  fun_of2 Tryz.func78 (by kernel_rfl) (by kernel_rfl) (fits_nat (Nat.le_trans (List.takeWhile_prefix _).length_le hl)) fun M bm pr w v v' hG hM h1 h2 => by
    cases rep_lit h1
    cases h2 with
    | @fn _ _ vs hl' h =>
    have : vs = [] := List.eq_nil_of_length_eq_zero hl'
    subst this
    have := span_any F #[] q p hq hF (fun c w => H c w) (bs l) w (by rw [bs_size]; exact hl)
    rw [bs_list] at this
    exact this
theorem span_fol (l : Bs) (hl : l.length ≤ 9223372036854775807) (σ : List (List V)) : Fun G 78 [.d (dstr (bs l)), .fn 114 []] σ (RetV (.d (dint (l.takeWhile inn).length)) σ) :=
  fun_span byte_inn (callFunc_enters (P := Tryz.prog) Tryz.func114 (by kernel_rfl) (by kernel_rfl)) follows_any l hl σ
theorem span_dig (l : Bs) (hl : l.length ≤ 9223372036854775807) (σ : List (List V)) : Fun G 78 [.d (dstr (bs l)), .fn 83 []] σ (RetV (.d (dint (l.takeWhile dig).length)) σ) :=
  fun_span byte_dig (callFunc_enters (P := Tryz.prog) Tryz.func83 (by kernel_rfl) (by kernel_rfl)) digit_any l hl σ
theorem span_line (l : Bs) (hl : l.length ≤ 9223372036854775807) (σ : List (List V)) : Fun G 78 [.d (dstr (bs l)), .fn 79 []] σ (RetV (.d (dint (l.takeWhile (· != 10)).length)) σ) :=
  fun_span byte_line (callFunc_enters (P := Tryz.prog) Tryz.func79 (by kernel_rfl) (by kernel_rfl)) skip1_any l hl σ
end Go.Proofs.YteopfpebdalcoaaGreatDoor
namespace Go.Proofs.YteopfpebdalcoaaGreatDoor
open Go.RowKit
theorem encode_two (c : Nat) (h1 : 128 ≤ c) (h2 : c < 256) : ∃ x y : UInt8, Utf8.encode c = ⟨#[x, y]⟩ ∧ 128 ≤ y.toNat := by
  refine ⟨UInt8.ofNat (192 + c / 64), UInt8.ofNat (128 + c % 64), ?_, ?_⟩
  · have hv : Utf8.valid (c : Int) = true := by simp only [Utf8.valid]; simp; omega
    unfold Utf8.encode
    simp only [hv, if_true, Int.toNat_natCast, show ¬ c < 128 by omega, if_false, show c < 2048 by omega]
  · rw [UInt8.toNat_ofNat']; omega
set_option maxHeartbeats 2000000 in
set_option maxRecDepth 1000000 in
theorem indexrune_high (c : Nat) (h1 : 128 ≤ c) (h2 : c < 256) (w : World) : Calls Tryz.prog 113 #[.string ⟨#[32, 9, 10]⟩, .int .i32 c] w fun e w' => e = .returned (.int .i64 (-1)) ∧ Ext w w' := by
  obtain ⟨x, y, he, hy⟩ := encode_two c h1 h2
  have n1 : (decide ((c : Int) < 128)) = false := by simp; omega
  have n2 : ((c : Int) == 65533) = false := by simp; omega
  have n3 : Lib.validRune (c : Int) = true := by simp [Lib.validRune]; omega
  have n4 : ((9 : Int) == ((y.toNat : Nat) : Int)) = false := by simp; omega
  have n5 : Lib.indexByte [10] ((y.toNat : Int).toNat.toUInt8) = -1 := by
    have : (10 : UInt8) ≠ y := by intro e; rw [← e] at hy; revert hy; decide
    have e : (y.toNat : Int).toNat.toUInt8 = y := by simp
    rw [e]; simp [Lib.indexByte, this]
  go_enter Tryz.func113, Tryz.ntmps113
  go_wp2_with (first | (go_at_call 131; refine (Tryz.utf8_ValidRune _ _).mono ?_; rintro e w' ⟨rfl, rfl⟩) | (go_at_call 70; refine (Tryz.strings_IndexByte _ _ _).mono ?_; rintro e w' ⟨rfl, rfl⟩))
  refine wp_scope_straight ?_
  go_wp2_with (first | (go_at_call 131; refine (Tryz.utf8_ValidRune _ _).mono ?_; rintro e w' ⟨rfl, rfl⟩) | (go_at_call 70; refine (Tryz.strings_IndexByte _ _ _).mono ?_; rintro e w' ⟨rfl, rfl⟩))
  go_loop [9, 10, 11, 12] (fun i j k l => i = .int .i64 1) (fun i j k l => 0)
  case atStart => rfl
  case round =>
    subst hrel
    go_wp2_with (first | (go_at_call 131; refine (Tryz.utf8_ValidRune _ _).mono ?_; rintro e w' ⟨rfl, rfl⟩) | (go_at_call 70; refine (Tryz.strings_IndexByte _ _ _).mono ?_; rintro e w' ⟨rfl, rfl⟩))
    refine wp_scope_straight ?_
    go_wp2_with (first | (go_at_call 131; refine (Tryz.utf8_ValidRune _ _).mono ?_; rintro e w' ⟨rfl, rfl⟩) | (go_at_call 70; refine (Tryz.strings_IndexByte _ _ _).mono ?_; rintro e w' ⟨rfl, rfl⟩))
    have n6 : ∀ (h1 : 1 < (⟨#[32, 9, 10]⟩ : ByteArray).size) (h2 : 1 < (⟨#[x, y]⟩ : ByteArray).size), ((((⟨#[32, 9, 10]⟩ : ByteArray)[1]'h1).toNat : Int) != (((⟨#[x, y]⟩ : ByteArray)[1]'h2).toNat : Int)) = true := fun h1 h2 => by
      have a1 : (⟨#[32, 9, 10]⟩ : ByteArray)[1]'h1 = 9 := rfl
      have a2 : (⟨#[x, y]⟩ : ByteArray)[1]'h2 = y := rfl
      rw [a1, a2, bne, show (((9 : UInt8).toNat : Int) == (y.toNat : Int)) = false from n4]; rfl
    have n7 : ∀ (h2 : 1 < (⟨#[x, y]⟩ : ByteArray).size), Lib.indexByte [10] ((⟨#[x, y]⟩ : ByteArray)[1]'h2) = -1 := fun h2 => by
      have a2 : (⟨#[x, y]⟩ : ByteArray)[1]'h2 = y := rfl
      rw [a2]
      have e : (y.toNat : Int).toNat.toUInt8 = y := by simp
      rw [e] at n5; exact n5
    go_region
    go_wp2_with fail
    go_region_with (first | (go_at_call 70; refine (Tryz.strings_IndexByte _ _ _).mono ?_; rintro e w' ⟨rfl, rfl⟩))
    all_goals (go_wp2_with fail)
    all_goals (rw [Exit.noGoto_ret]; go_wp2_with fail)
    all_goals (rw [Exit.noGoto_ret]; go_wp2_with fail; go_ret; exact ⟨rfl, (Ext.refl _).drew.drew⟩)
theorem containsrune_high (c : Nat) (h1 : 128 ≤ c) (h2 : c < 256) (w : World) : Calls Tryz.prog 80 #[.string ⟨#[32, 9, 10]⟩, .int .i32 c] w fun e w' => e = .returned (.bool false) ∧ Ext w w' := by
  go_enter Tryz.func80, Tryz.ntmps80
  go_wp2_with (go_at_call 113; refine (indexrune_high c h1 h2 _).mono ?_; rintro e w' ⟨rfl, hx⟩)
  go_ret
  exact ⟨rfl, hx⟩
end Go.Proofs.YteopfpebdalcoaaGreatDoor
