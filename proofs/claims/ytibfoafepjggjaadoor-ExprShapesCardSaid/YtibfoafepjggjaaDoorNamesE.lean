/-
  Walks: names.
-/
import Derived.Test.YtibfoafepjggjaaDoorSizes
import Derived.Test.YtibfoafepjggjaaDoorAppend
namespace Go.Proofs.YtibfoafepjggjaaDoor
open Go.RowKit

/-- Is there a number in a list: 'slices.Index' of ints. -/
def idxI : List Int → Int → Nat → Int
  | [], _, _ => -1
  | a :: r, s, i => if s = a then i else idxI r s (i + 1)
theorem idxI_ge (l : List Int) (s : Int) : ∀ i : Nat, (0 ≤ idxI l s i ↔ s ∈ l) := by
  induction l with
  | nil => intro i; simp [idxI]
  | cons a r ih =>
    intro i
    simp only [idxI, List.mem_cons]
    split
    · rename_i h; simp [h]
    · rename_i h; rw [ih]; simp [h]

set_option maxRecDepth 100000 in
theorem indexi_any (l : List Int) (s : Int) (v : Value) (w : World) (hv : IntsVal w l v) :
    Calls Tryd.prog 70 #[v, .int .i64 s] w fun e w' => e = .returned (.int .i64 (idxI l s 0)) ∧ w = w' := by
  have hv' := hv
  obtain ⟨p, cap, rfl, h1, h2, h3⟩ := hv'
  have H3 := Lib.hid h3; clear h3
  have HV := Lib.hid hv; clear hv
  go_enter Tryd.func70, Tryd.ntmps70
  go_wp2_with fail
  go_loop [8, 5] (fun i _ => ∃ j : Nat, i = .int .i64 j ∧ j ≤ l.length ∧ idxI (l.drop j) s j = idxI l s 0) (fun i _ => l.length - (intOf i).toNat)
  case atStart => exact ⟨0, rfl, Nat.zero_le _, rfl⟩
  case round =>
    obtain ⟨j, rfl, hj, hrec⟩ := hrel
    have HR := Lib.hid hrec; clear hrec
    by_cases hlt : j < l.length
    · obtain ⟨b, off, rfl, hc⟩ := ints_at HV.out hlt
      by_cases he : s = l[j]
      · have he' : (s == l[j]) = true := by simpa using he
        have HE := Lib.hid he; clear he
        go_wp2_with fail
        go_ret
        exact ⟨ret_int (by rw [← HR.out, List.drop_eq_getElem_cons hlt, idxI, if_pos HE.out]), rfl⟩
      · have he' : (s == l[j]) = false := by simpa using he
        go_wp2_with fail
        go_round
        case rel => exact ⟨j + 1, by go_num, by omega, by rw [← HR.out, List.drop_eq_getElem_cons hlt, idxI, if_neg he]⟩
        case measure => simp [intOf]; omega
    · have : j = l.length := by omega
      subst this
      go_wp2_with fail
      go_ret
      exact ⟨ret_int (by rw [← HR.out]; simp [idxI]), rfl⟩

theorem containsi_any (l : List Int) (s : Int) (v : Value) (w : World) (hv : IntsVal w l v) :
    Calls Tryd.prog 56 #[v, .int .i64 s] w fun e w' => e = .returned (.bool (decide (s ∈ l))) ∧ w = w' := by
  have hi := idxI_ge l s 0
  have HI := Lib.hid hi; clear hi
  go_enter Tryd.func56, Tryd.ntmps56
  go_wp2_with (go_at_call 70; refine (indexi_any _ _ _ _ hv).mono ?_; rintro e w' ⟨rfl, rfl⟩)
  go_ret
  exact ⟨ret_bool (by rw [Bool.eq_iff_iff, decide_eq_true_iff]; simpa using HI.out), rfl⟩

mutual
/-- The names of all nodes. -/
def allE : Ex → List ByteArray
  | .mk _ _ s l => s :: allL l
def allL : List Ex → List ByteArray
  | [] => []
  | a :: r => allE a ++ allL r
end
theorem allL_mem {l : List Ex} {a : Ex} (h : a ∈ l) {s : ByteArray} (hs : s ∈ allE a) : s ∈ allL l := by
  induction l with
  | nil => cases h
  | cons b r ih =>
    simp only [allL, List.mem_append]
    rcases List.mem_cons.1 h with h | h
    · subst h; exact .inl hs
    · exact .inr (ih h)
theorem allE_len (e : Ex) : (allE e).length = esize e := by
  induction e using Ex.ind with
  | h o m s l ih =>
    have H : ∀ (r : List Ex), (∀ a, a ∈ r → a ∈ l) → (allL r).length = esizes r := by
      intro r
      induction r with
      | nil => intro _; rfl
      | cons a r ihr => intro hm; simp only [allL, esizes, List.length_append, ih a (hm a (by simp)), ihr (fun x hx => hm x (by simp [hx]))]
    simp only [allE, esize, List.length_cons, H l (fun _ h => h)]

def addName (ops : List Int) (l : List ByteArray) (op : Int) (s : ByteArray) : List ByteArray := if op ∈ ops ∧ inB s l = false then l ++ [s] else l
def nextName (ops : List Int) (l : List ByteArray) (e : Ex) : List ByteArray × Bool := (addName ops l e.op e.name, true)
structure NameIn (bo : Nat) (N : List ByteArray) (O : Nat → Prop) (l : List ByteArray) (w : World) (v : Value) : Prop where
  own : ∀ k, O k ↔ (k = bo ∨ v.ownBlock = some k)
  one : One bo 30 v w
  row : w.ownsRow 0 9 1 v l.length (l.map Value.string)
  ne : v.ownBlock ≠ some bo
  lo : ∀ k, v.ownBlock = some k → bo ≤ k
  nodup : l.Nodup
  sub : ∀ s, s ∈ l → s ∈ N
def NamesI (bo : Nat) (N : List ByteArray) (O : Nat → Prop) (l : List ByteArray) (w : World) : Prop := ∃ v, NameIn bo N O l w v

theorem Tryd.infoS : (Tryd.prog.info? 9).map (fun i => (i.zero, i.size, i.bytes)) = some (some (.string ⟨#[]⟩), 1, 16) := by kernel_rfl

set_option maxRecDepth 100000 in
set_option maxHeartbeats 1000000 in
theorem names_visits (w0 : World) (ops : List Int) (bp bo : Nat) (hb : w0.heap.size ≤ bo) (vp : Value) (hp : w0.cell? ⟨bp, 0, none⟩ = some vp) (hops : IntsVal w0 ops vp) (N : List ByteArray) (hN : N.length ≤ 1000000) :
    Visits Tryd.prog w0 55 #[.pointer (some ⟨bp, 0, none⟩), .pointer (some ⟨bo, 0, none⟩)] (nextName ops) (NamesI bo N) (fun e => ∀ s, s ∈ allE e → s ∈ N) where
  sub := fun h a ha s hs => h s (by simp only [allE, List.mem_cons]; exact .inr (allL_mem ha hs))
  stays := by
    rintro O s w w' ⟨v, h⟩ hs
    have h1 : One bo 30 v w' := by unfold One; rw [hs bo ((h.own bo).2 (.inl rfl))]; exact h.one
    refine ⟨v, h.own, h1, ?_, h.ne, h.lo, h.nodup, h.sub⟩
    refine ⟨h.row.1, h.row.2.imp id ?_⟩
    rintro ⟨g, cap, cur, rfl, hb, hh, hr⟩
    exact ⟨g, cap, cur, rfl, hb, by rw [hs g ((h.own g).2 (.inr rfl))]; exact hh, hr⟩
  lt := by
    rintro O s w ⟨v, h⟩ k hk
    rcases (h.own k).1 hk with rfl | hk
    · exact ⟨hb, h.one.lt⟩
    · have := h.row.lt k hk; have := h.lo k hk; omega
  call := by
    rintro O l w e v hq h0 ⟨u, hI⟩ hv
    obtain ⟨p, cp, rfl, hl, h1, h2, -, -, h3⟩ := ex_open hv
    have c0 := hI.one.cell
    have l0 := hI.one.lt
    have cp0 := h0.cell hp
    have lp0 : bp < w.heap.size := by
      have := hp
      unfold World.cell? at this
      split at this
      · rename_i h9; have := (Array.getElem?_eq_some_iff.1 h9).1; have := h0.size; simp at *; omega
      · cases this
    have HP := Lib.hid (hops.ext h0)
    have HI := Lib.hid hI; clear hI
    have HQ := Lib.hid hq; clear hq
    clear hv hl hp hops
    by_cases hop : e.op ∈ ops
    · by_cases hin : inB e.name l = false
      · have hd : decide (e.op ∈ ops) = true := decide_eq_true hop
        have hlen : l.length ≤ 1000000 := Nat.le_trans (nodup_le HI.out.nodup HI.out.sub) hN
        obtain ⟨i0, hi, hz0, hz1, hz2⟩ := info_parts Tryd.infoS
        have HOP := Lib.hid hop; clear hop
        have HIN := Lib.hid hin
        go_enter Tryd.func55, Tryd.ntmps55
        go_wp2_with (first | (go_at_call 56; refine (containsi_any ops _ _ _ (HP.out.ext ((Ext.refl w).alloc _))).mono ?_; rintro e w' ⟨rfl, rfl⟩) | (go_at_call 57; refine (contains_any l _ _ _ (strs_own (HI.out.row.alloc _))).mono ?_; rintro e w' ⟨rfl, rfl⟩) | (at_builtin; refine wpList_append2 _ rfl (.tmp 16) (.tmp 19) 30 rfl 9 i0 (.string ⟨#[]⟩) 1 16 Tryd.underlying30 hi hz0 hz1 hz2 rfl (by decide) u l.length (l.map Value.string) rfl ((HI.out.row.alloc _).alloc _) ⟨w.heap.size + 1, 0, none⟩ 1 1 [.string e.name] rfl rfl ?c1 ?c2 ?c3 ?c4 (by decide) ?_))
        case c1 => exact cell_new1 _ _ _ _
        case c2 => intro x hx; simp at hx; subst hx; rfl
        case c3 => unfold maxLen; omega
        case c4 => omega
        intro g cap1 w1 hgr
        have hk1 : Keep (fun k => u.ownBlock = some k) w w1 := (((Keep.refl _ w).alloc _).alloc _).grown hgr.grown (fun k hk => .inl hk)
        have o1 : One bo 30 u w1 := One.keep hk1 HI.out.ne HI.out.one
        have c1 := o1.cell
        have f1 := o1.frozen
        have l1 := o1.lt
        clear hi hz0 hz1 hz2 hlen
        have hnew : u.ownBlock = some g ∨ w.heap.size ≤ g := hgr.new.imp id (fun h => by simp at h; omega)
        have hgb : g ≠ bo := fun h => by rcases hnew with hn | hn
                                         · exact HI.out.ne (h ▸ hn)
                                         · omega
        have hgl : bo ≤ g := by rcases hnew with hn | hn
                                · exact HI.out.lo g hn
                                · omega
        have hrow := hgr.row
        have HROW := Lib.hid hrow; clear hrow
        have O1 := Lib.hid o1; clear o1
        have HK1 := Lib.hid hk1; clear hk1
        have HNEW := Lib.hid hnew; clear hnew
        have HGB := Lib.hid hgb; clear hgb
        have HGL := Lib.hid hgl; clear hgl
        clear hgr
        go_wp2_with fail
        go_ret
        refine ⟨rfl, fun k => k = bo ∨ k = g, ?_, ?_, ?_⟩
        · simp only [nextName, addName]
          rw [if_pos ⟨HOP.out, HIN.out⟩]
          refine ⟨.slice (some ⟨g, 0, none⟩) (l.length + 1) cap1, fun k => ?_, O1.out.set _, ?_, fun h => HGB.out (by simpa [Value.ownBlock] using h), fun k hk => ?_, ?_, ?_⟩
          · simp [Value.ownBlock, eq_comm]
          · have := ownsRow_setCell_other HROW.out (a := ⟨bo, 0, none⟩) (fun h => HGB.out (by simpa [Value.ownBlock] using h)) (.slice (some ⟨g, 0, none⟩) (l.length + 1) cap1)
            simpa using this
          · have : g = k := by simpa [Value.ownBlock] using hk
            rw [← this]; exact HGL.out
          · exact List.nodup_append.2 ⟨HI.out.nodup, by simp, fun a ha b hb => by simp at hb; subst hb; exact fun e' => inB_not.1 HIN.out (e' ▸ ha)⟩
          · intro s hs
            rcases List.mem_append.1 hs with h | h
            · exact HI.out.sub s h
            · simp at h; subst h
              exact HQ.out _ (by cases e; simp [allE, Ex.name])
        · intro k hk
          rcases hk with rfl | rfl
          · exact .inl ((HI.out.own _).2 (.inl rfl))
          · exact HNEW.out.imp (fun h => (HI.out.own _).2 (.inr h)) id
        · exact (HK1.out.mono (fun k hk => (HI.out.own k).2 (.inr hk))).setCell (.inl ((HI.out.own bo).2 (.inl rfl))) _
      · have hin' : inB e.name l = true := by simpa using hin
        have hd : decide (e.op ∈ ops) = true := decide_eq_true hop
        have HOP := Lib.hid hop; clear hop
        have HIN := Lib.hid hin; clear hin
        go_enter Tryd.func55, Tryd.ntmps55
        go_wp2_with (first | (go_at_call 56; refine (containsi_any ops _ _ _ (HP.out.ext ((Ext.refl w).alloc _))).mono ?_; rintro e w' ⟨rfl, rfl⟩) | (go_at_call 57; refine (contains_any l _ _ _ (strs_own (HI.out.row.alloc _))).mono ?_; rintro e w' ⟨rfl, rfl⟩))
        go_ret
        refine ⟨rfl, O, ?_, fun k hk => .inl hk, (Keep.refl O w).alloc _⟩
        simp only [nextName, addName]
        rw [if_neg (fun h => HIN.out h.2)]
        exact ⟨u, HI.out.own, HI.out.one.alloc _, HI.out.row.alloc _, HI.out.ne, HI.out.lo, HI.out.nodup, HI.out.sub⟩
    · have hd : decide (e.op ∈ ops) = false := decide_eq_false hop
      have HD := Lib.hid hop; clear hop
      go_enter Tryd.func55, Tryd.ntmps55
      go_wp2_with (go_at_call 56; refine (containsi_any ops _ _ _ (HP.out.ext ((Ext.refl w).alloc _))).mono ?_; rintro e w' ⟨rfl, rfl⟩)
      go_ret
      refine ⟨rfl, O, ?_, fun k hk => .inl hk, (Keep.refl O w).alloc _⟩
      simp only [nextName, addName]
      rw [if_neg (fun h => HD.out h.1)]
      exact ⟨u, HI.out.own, HI.out.one.alloc _, HI.out.row.alloc _, HI.out.ne, HI.out.lo, HI.out.nodup, HI.out.sub⟩
end Go.Proofs.YtibfoafepjggjaaDoor
