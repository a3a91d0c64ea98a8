/-
  Walks: fold.
-/
import Derived.Test.YtibfoafepjggjaaDoorLeafs
import Derived.Test.YtibfoafepjggjaaDoorValueW
namespace Go.Proofs.YtibfoafepjggjaaDoor
open Go.RowKit

def keptOp (o : Int) : Bool := o == 1 || o == 2 || o == 3 || o == 24
def foldN (o n : Int) (s : ByteArray) (l : List Ex) : Ex :=
  if keptOp o then .mk o n s l else if l.all (fun a => a.op == 1) then .mk 1 (operS o (l.map Ex.num)) ⟨#[]⟩ [] else .mk o n s l
mutual
/-- The expression with its constant parts folded. -/
def foldE : Ex → Ex
  | .mk o n s l => foldN o n s (foldsE l)
def foldsE : List Ex → List Ex
  | [] => []
  | a :: r => foldE a :: foldsE r
end
theorem foldsE_map (l : List Ex) : foldsE l = l.map foldE := by
  induction l with
  | nil => rw [foldsE]; rfl
  | cons a r ih => rw [foldsE, ih]; rfl
theorem Tryd.foldF : ∀ args w, (callFunc 52 args).run Tryd.prog w = .ok (.enter 52 args) w := callFunc_enter Tryd.func52 (by kernel_rfl) (by kernel_rfl)

theorem St4.set4 {b : Nat} {T : TypeId} {x y z t : Value} {w : World} (h : St4 b T x y z t w) (a c d e : Value) :
    St4 b T a c d e ((((w.setCell ⟨b, 0, none⟩ a).setCell ⟨b, 1, none⟩ c).setCell ⟨b, 2, none⟩ d).setCell ⟨b, 3, none⟩ e) := by
  unfold St4 at h ⊢; simp [World.setCell, Array.getElem?_modify, h]
theorem set4_keep {b : Nat} (w : World) (a c d e : Value) : Keep (fun k => k = b) w ((((w.setCell ⟨b, 0, none⟩ a).setCell ⟨b, 1, none⟩ c).setCell ⟨b, 2, none⟩ d).setCell ⟨b, 3, none⟩ e) :=
  Keep.setCell (p := ⟨b, 3, none⟩) (Keep.setCell (p := ⟨b, 2, none⟩) (Keep.setCell (p := ⟨b, 1, none⟩) (Keep.setCell (p := ⟨b, 0, none⟩) (Keep.refl (fun k => k = b) w) (.inl rfl) _) (.inl rfl) _) (.inl rfl) _) (.inl rfl) _

/-- An expression's cells, opened. -/
theorem exin_open {D : Nat → Prop} {w : World} {o n : Int} {s : ByteArray} {l : List Ex} {cs : List Value} (h : ExIn D w (.mk o n s l) cs) : ∃ p c, cs = [.int .i64 o, .int .i64 n, .string s, .slice p l.length c] := by
  cases h with
  | mk o n s l v css hl hc hv ho hn hs =>
    obtain ⟨p, cap, rfl, -⟩ := hv
    exact ⟨p, cap, by rw [hl]⟩

theorem RetEx.alloc {D0 : Nat → Prop} {e : Ex} {w w2 : World} {en : Ending} {obj : Obj} (h : RetEx D0 e w en w2) : RetEx D0 e w en (w2.alloc obj) := by
  obtain ⟨cs, h1, h2, h3⟩ := h
  exact ⟨cs, h1, h2.ext ((Ext.refl _).alloc _), h3.alloc _⟩
theorem fold_num (e : Ex) : errE e = 0 → (foldE e).op = 1 → Wd (foldE e).num := by
  induction e using Ex.ind with
  | h o m s l ih =>
  intro he h1
  obtain ⟨hnode, herl⟩ := errE_node he
  obtain ⟨-, -, hcn, -⟩ := node_ok hnode
  have hm := errL_mem herl
  rw [foldE, foldsE_map] at h1 ⊢
  unfold foldN at h1 ⊢
  split at h1
  · rename_i hk
    rw [if_pos hk]
    have := hcn h1
    simp only [Ex.num, Wd]; omega
  · rename_i hk
    rw [if_neg hk]
    split at h1
    · rename_i ha
      rw [if_pos ha]
      simp only [Ex.num]
      refine operS_bd _ _ (fun x hx => ?_)
      obtain ⟨b, hb, rfl⟩ := List.mem_map.1 hx
      obtain ⟨a, hal, rfl⟩ := List.mem_map.1 hb
      exact ih a hal (hm a hal) (by have := List.all_eq_true.1 ha _ hb; simpa using this)
    · simp only [Ex.op] at h1
      subst h1
      simp [keptOp] at hk

set_option maxRecDepth 100000 in
set_option maxHeartbeats 2000000 in
theorem fold_any (e : Ex) : errE e = 0 → ∀ (v : Value) (w : World), ExVal w e v → Calls Tryd.prog 52 #[v] w (RetEx (fun _ => False) (foldE e) w) := by
  induction e using Ex.ind with
  | h o m s l ih =>
  intro he v w hv
  obtain ⟨hnode, herl⟩ := errE_node he
  obtain ⟨o1, o25, hcn, hop, -, -, -, -⟩ := node_ok hnode
  have hlen : l.length ≤ 1000 := by
    unfold operB at hop
    split at hop
    · simp only [Bool.and_eq_true, decide_eq_true_eq] at hop; omega
    · have : arity o ≤ 3 := by unfold arity; repeat' (first | omega | split)
      simp only [decide_eq_true_eq] at hop; omega
  have hmem := errL_mem herl
  have hbo := (ex_open hv)
  have HMEM := Lib.hid hmem; clear hmem
  have IH := Lib.hid ih; clear ih
  have hc : ∀ w1, Ext w w1 → Calls Tryd.prog 49 #[v, .func (.func 52) #[] #[]] w1 (RetEx (fun _ => False) (.mk o m s (l.map foldE)) w1) := by
    intro w1 hx
    have := rebuilt_any (cap := #[]) foldE Tryd.foldF (fun _ => False) w1 (fun _ h => h.elim) (.mk o m s l) (fun a ha v w h0 hv => IH.out a ha (HMEM.out a ha) v w (hv.ext h0)) (by simp only [Ex.args]; omega) v w1 (Ext.refl _) (hv.ext hx)
    simpa only [Ex.op, Ex.num, Ex.name, Ex.args] using this
  obtain ⟨p, cp, rfl, -, h1, h2, -, -, -⟩ := hbo
  have hR : foldE (.mk o m s l) = foldN o m s (l.map foldE) := by rw [foldE, foldsE_map]
  obtain ⟨l', hl'⟩ : ∃ l', l' = l.map foldE := ⟨_, rfl⟩
  have hll : l'.length = l.length := by rw [hl']; simp
  rw [hR]
  rw [← hl'] at hc ⊢
  clear hR
  obtain ⟨R, hR⟩ : ∃ R, R = foldN o m s l' := ⟨_, rfl⟩
  rw [← hR]
  have HRR := Lib.hid hR; clear hR
  have HC := Lib.hid hc; clear hc
  have HOP := Lib.hid hop; clear hop
  clear hv he hnode herl hcn
  simp only [Ex.op, Ex.num, Ex.name, Ex.args] at *
  have HL' := Lib.hid hl'; clear hl'
  obtain ⟨i0, hi, hz0, hz1, hz2⟩ := info_parts Tryd.infoI
  go_enter Tryd.func52, Tryd.ntmps52
  go_wp2_with fail
  refine (HC.out _ (((Ext.refl w).alloc _).alloc _)).mono ?_
  rintro en w2 ⟨cs2, rfl, hcs2, hy⟩
  obtain ⟨k3, k5, rfl⟩ := exin_open hcs2
  obtain ⟨hs1, hs2⟩ := hy.two4
  have HS1 := Lib.hid hs1
  have HS2 := Lib.hid hs2
  obtain ⟨c0, c1, c2, c3⟩ := St4.cells hs1
  obtain ⟨f0, f1, f2, f3⟩ := St4.frozen hs1
  obtain ⟨d0, d1, d2, d3⟩ := St4.cells hs2
  obtain ⟨g0, g1, g2, g3⟩ := St4.frozen hs2
  clear hs1 hs2
  have HCS := Lib.hid hcs2; clear hcs2
  have HX := Lib.hid hy; clear hy
  have HLL := Lib.hid hll; clear hll
  have hk0 := set4_keep (b := w.heap.size) w2 (.int .i64 o) (.int .i64 m) (.string s) (.slice k3 l'.length k5)
  have hw3 := hk0.ext HX.out.past.past (fun x hx => by omega)
  have hex := HCS.out.keep hk0 (fun b hb ho => by rcases hb with hb | hb; · exact hb
                                                  · simp at hb; omega)
  have hsz : w.heap.size + 2 ≤ w2.heap.size := by have := HX.out.size; simp at this; omega
  have HW3 := Lib.hid hw3; clear hw3 hk0
  have HEX := Lib.hid hex; clear hex
  by_cases hk : keptOp o = true
  · have hk' : (o == 1) = true ∨ (o == 2) = true ∨ (o == 3) = true ∨ (o == 24) = true := by simpa [keptOp, or_assoc] using hk
    have hR : R = .mk o m s l' := by rw [HRR.out]; simp [foldN, hk]
    clear hk
    have hall : RetEx (fun _ => False) (.mk o m s l') w (.returned (.agg #[.int .i64 o, .int .i64 m, .string s, .slice k3 l'.length k5])) _ := RetEx.end4 (B := w.heap.size + 1) (N := w.heap.size + 2) HW3.out (HEX.out.mono (fun b hb _ => hb.imp id (fun h => by simp at h; omega))) (by omega) (by omega) (fun _ h => h.elim)
    rw [← hR] at hall
    clear hR
    have HR := Lib.hid hall; clear hall
    by_cases q1 : (o == 1) = true
    · clear hk'
      go_wp2_with fail
      refine bodyPost_ret (v := .agg #[.int .i64 o, .int .i64 m, .string s, .slice k3 l'.length k5]) (by simp [results, Tryd.results52, go_sem, d0, d1, d2, d3]) rfl ?_
      exact HR.out
    · have q1' : (o == 1) = false := by simpa using q1
      by_cases q2 : (o == 2) = true
      · clear hk'
        go_wp2_with fail
        refine bodyPost_ret (v := .agg #[.int .i64 o, .int .i64 m, .string s, .slice k3 l'.length k5]) (by simp [results, Tryd.results52, go_sem, d0, d1, d2, d3]) rfl ?_
        exact HR.out
      · have q2' : (o == 2) = false := by simpa using q2
        by_cases q3 : (o == 3) = true
        · clear hk'
          go_wp2_with fail
          refine bodyPost_ret (v := .agg #[.int .i64 o, .int .i64 m, .string s, .slice k3 l'.length k5]) (by simp [results, Tryd.results52, go_sem, d0, d1, d2, d3]) rfl ?_
          exact HR.out
        · have q3' : (o == 3) = false := by simpa using q3
          have q4 : (o == 24) = true := by simpa [q1, q2, q3] using hk'
          clear hk'
          go_wp2_with fail
          refine bodyPost_ret (v := .agg #[.int .i64 o, .int .i64 m, .string s, .slice k3 l'.length k5]) (by simp [results, Tryd.results52, go_sem, d0, d1, d2, d3]) rfl ?_
          exact HR.out
  · have hk' : keptOp o = false := by simpa using hk
    have hk2 : (o == 1) = false ∧ (o == 2) = false ∧ (o == 3) = false ∧ (o == 24) = false := by simpa [keptOp, and_assoc] using hk'
    obtain ⟨q1, q2, q3, q4⟩ := hk2
    have hR : R = if l'.all (fun a => a.op == 1) then .mk 1 (operS o (l'.map Ex.num)) ⟨#[]⟩ [] else .mk o m s l' := by rw [HRR.out]; simp only [foldN, hk', Bool.false_eq_true, if_false]
    have HR := Lib.hid hR
    clear hR hk hk'
    go_wp2_with fail
    obtain ⟨w3, hw3e⟩ : ∃ w3, w3 = ((((w2.setCell { block := w.heap.size, off := 0 } (Value.int IntKind.i64 o)).setCell { block := w.heap.size, off := 1 } (Value.int IntKind.i64 m)).setCell { block := w.heap.size, off := 2 } (Value.string s)).setCell { block := w.heap.size, off := 3 } (Value.slice k3 l'.length k5)) := ⟨_, rfl⟩
    have S1 := St4.set4 HS1.out (.int .i64 o) (.int .i64 m) (.string s) (.slice k3 l'.length k5)
    have S2 := St4.keep (set4_keep (b := w.heap.size) w2 (.int .i64 o) (.int .i64 m) (.string s) (.slice k3 l'.length k5)) (by omega) HS2.out
    have HW := HW3.out
    have HE3 := HEX.out
    rw [← hw3e] at S1 S2 HW HE3 ⊢
    clear hw3e HW3 HEX HS1 HS2 HCS c0 c1 c2 c3 f0 f1 f2 f3 d0 d1 d2 d3 g0 g1 g2 g3 HX
    have HW3 := Lib.hid HW; clear HW
    have HEX := Lib.hid HE3; clear HE3
    have HS1 := Lib.hid S1; clear S1
    have HS2 := Lib.hid S2; clear S2
    have hsz3 : w.heap.size + 2 ≤ w3.heap.size := by have := HS2.out.lt; omega
    go_loopw [3, 19, 5] (fun u i _ wr => ∃ j : Nat, i = .int .i64 j ∧ j ≤ l'.length ∧ wr.ownsRow 0 3 1 u j (((l'.take j).map Ex.num).map (Value.int .i64)) ∧ (∀ k, u.ownBlock = some k → w3.heap.size ≤ k) ∧ Ext w3 wr ∧ (l'.take j).all (fun a => a.op == 1) = true) (fun _ i _ _ => l'.length - (intOf i).toNat)
    case atStart => exact ⟨0, rfl, Nat.zero_le _, by simpa using World.ownsRow_nil _ _ _ _, by simp [Value.ownBlock], Ext.refl _, by simp⟩
    case round =>
      obtain ⟨j, rfl, hj, hrow, hfresh, hext, hall⟩ := hrel
      have HROW := Lib.hid hrow; clear hrow
      have HF := Lib.hid hfresh; clear hfresh
      have HX := Lib.hid hext; clear hext
      have HALL := Lib.hid hall; clear hall
      have hszr : w.heap.size + 2 ≤ wr.heap.size := by have := HX.out.size; omega
      have t1 := St4.keep (Keep.of_ext (O := fun _ => False) HX.out) (fun h => h) HS1.out
      have t2 := St4.keep (Keep.of_ext (O := fun _ => False) HX.out) (fun h => h) HS2.out
      obtain ⟨c0, c1, c2, c3⟩ := St4.cells t1
      obtain ⟨d0, d1, d2, d3⟩ := St4.cells t2
      obtain ⟨g0, g1, g2, g3⟩ := St4.frozen t2
      have HT2 := Lib.hid t2
      clear t1 t2
      have l0 : w.heap.size < wr.heap.size := by omega
      have l1 : w.heap.size + 1 < wr.heap.size := by omega
      by_cases hlt : j < l'.length
      · obtain ⟨p2, cp2, hp2, hl2, -⟩ := ex_open (e := .mk o m s l') ⟨_, HEX.out.rep, rfl⟩
        simp only [Ex.op, Ex.num, Ex.name, Ex.args] at hp2 hl2
        cases hp2
        obtain ⟨b, off, cs, rfl, hr, hc⟩ := exs_at hl2 hlt
        obtain ⟨sv, gv, gl, q2, q3, q4, q5⟩ := ex_row hr hc
        obtain ⟨p', cp', rfl, -, -⟩ := exs_shape gl
        have r2 := HX.out.cell q2
        have r3 := HX.out.cell q3
        have r4 := HX.out.cell q4
        have r5 := HX.out.cell q5
        clear q2 q3 q4 q5 hr hc gl hl2 gv
        by_cases ha : ((l'[j]'hlt).op == 1) = true
        · have hnx : (l'.take (j + 1)).all (fun a => a.op == 1) = true := by
            rw [List.take_succ_eq_append_getElem hlt, List.all_append, HALL.out]; simpa using ha
          have HNX := Lib.hid hnx; clear hnx
          have htk : ((l'.take (j + 1)).map Ex.num).map (Value.int .i64) = ((l'.take j).map Ex.num).map (Value.int .i64) ++ [.int .i64 (l'[j]'hlt).num] := by
            rw [List.take_succ_eq_append_getElem hlt, List.map_append, List.map_append]; rfl
          have HTK := Lib.hid htk; clear htk
          have hjl : j < 1000 := by have := HLL.out; omega
          go_wp2_with (at_builtin; refine wpList_append2 _ rfl (.tmp 27) (.tmp 30) 66 rfl 3 i0 (.int .i64 0) 1 8 Tryd.underlying66 hi hz0 hz1 hz2 rfl (by decide) _ j (((l'.take j).map Ex.num).map (Value.int .i64)) rfl (HROW.out.alloc _ |>.alloc _) ⟨_, 0, none⟩ 1 1 [.int .i64 (l'[j]'hlt).num] rfl rfl ?c1 ?c2 ?c3 ?c4 (by decide) ?_)
          case c1 => exact cell_new1 _ _ _ _
          case c2 => intro u hu; simp at hu; subst hu; rfl
          case c3 => unfold maxLen; omega
          case c4 => omega
          intro g cap1 w4 hgr
          have hx3 := (((Keep.of_ext (O := fun k => u3.ownBlock = some k) ((HX.out.alloc _).alloc _)).grown hgr.grown (fun k hk => .inl hk))).ext (Ext.refl _) (fun x hx => by have := HF.out x hx; omega)
          have hfr : ∀ k, (Value.slice (some ⟨g, 0, none⟩) (j + 1) cap1).ownBlock = some k → w3.heap.size ≤ k := fun k hk => by
            simp [Value.ownBlock] at hk
            subst hk
            rcases hgr.new with h | h
            · exact HF.out g h
            · have := HX.out.size; simp at this h; omega
          have hrow3 := hgr.row
          have HROW3 := Lib.hid hrow3; clear hrow3
          have HFR := Lib.hid hfr; clear hfr
          have HX3 := Lib.hid hx3; clear hx3
          clear hgr
          go_wp2_with fail
          go_roundw
          case rel => exact ⟨j + 1, by go_num, by omega, by rw [HTK.out]; simpa only [List.map_map, List.map_take] using HROW3.out, HFR.out, HX3.out, HNX.out⟩
          case measure => simp [intOf]; omega
        · have ha' : ((l'[j]'hlt).op == 1) = false := by simpa using ha
          have hRk : R = .mk o m s l' := by
            rw [HR.out, if_neg]
            intro h
            have := List.all_eq_true.1 h (l'[j]'hlt) (List.getElem_mem hlt)
            exact ha this
          have hall2 := fun obj => RetEx.alloc (obj := obj) (RetEx.end4 (D0 := fun _ => False) (w2 := wr) (B := w.heap.size + 1) (N := w.heap.size + 2) (HW3.out.trans HX.out) ((HEX.out.ext HX.out).mono (D' := fun k => False ∨ w.heap.size + 2 ≤ k) (fun b hb _ => hb.imp id (fun h => by simp at h; omega))) (Nat.le_succ _) (Nat.lt_succ_self _) (fun _ h => h.elim))
          rw [← hRk] at hall2
          have t5 := St4.keep (Keep.of_ext (O := fun _ => False) ((Ext.refl _).alloc (.cells #[.int .i64 (l'[j]'hlt).op, .int .i64 (l'[j]'hlt).num, .string (l'[j]'hlt).name, .slice p' (l'[j]'hlt).args.length cp'] 24))) (fun h => h) (St4.set4 HT2.out (.int .i64 o) (.int .i64 m) (.string s) (.slice (some ⟨b, off, none⟩) l'.length k5))
          have H5 := Lib.hid (St4.cells t5); clear t5
          have HR2 := Lib.hid hall2; clear hall2 hRk ha
          go_wp2_with fail
          obtain ⟨e0, e1, e2, e3⟩ := H5.out
          refine bodyPost_ret (v := .agg #[.int .i64 o, .int .i64 m, .string s, .slice (some ⟨b, off, none⟩) l'.length k5]) (by simp [results, Tryd.results52, go_sem, e0, e1, e2, e3]) rfl ?_
          exact HR2.out _
      · have : j = l'.length := by omega
        subst this
        have hall : l'.all (fun a => a.op == 1) = true := by have := HALL.out; rw [List.take_length] at this; exact this
        have hRk : R = .mk 1 (operS o (l'.map Ex.num)) ⟨#[]⟩ [] := by rw [HR.out, if_pos hall]
        have hrow9 : wr.ownsRow 0 3 1 u3 (l'.map Ex.num).length ((l'.map Ex.num).map (Value.int .i64)) := by
          have h := HROW.out
          rw [List.take_length] at h
          simpa using h
        have hints := ints_own hrow9
        have HI := Lib.hid hints; clear hints hrow9
        have hbd : ∀ x, x ∈ l'.map Ex.num → Wd x := fun x hx => by
          obtain ⟨y, hy, rfl⟩ := List.mem_map.1 hx
          have h1 := List.all_eq_true.1 hall y hy
          rw [HL'.out] at hy
          obtain ⟨a, hal, rfl⟩ := List.mem_map.1 hy
          exact fold_num a (HMEM.out a hal) (by simpa using h1)
        have hop2 : operB o (l'.map Ex.num).length = true := by rw [List.length_map, HLL.out]; exact HOP.out
        have hcon := operate_any o (l'.map Ex.num) u3 wr HI.out hop2 o1 o25 (by simpa using q1) (by simpa using q2) (by simpa using q3) (by simpa using q4) hbd
        have hxb := operS_bd o (l'.map Ex.num) hbd
        have hxb2 : -9223372036854775808 ≤ operS o (l'.map Ex.num) ∧ operS o (l'.map Ex.num) ≤ 9223372036854775807 := by unfold Wd at hxb; omega
        clear hbd hop2 hxb hall
        generalize operS o (l'.map Ex.num) = x at *
        have HRK := Lib.hid hRk; clear hRk
        have HCON := Lib.hid hcon; clear hcon
        have hend : ∀ W, Ext wr W → RetEx (fun _ => False) R w (.returned (.agg #[.int .i64 1, .int .i64 x, .string ⟨#[]⟩, .slice none 0 0])) _ := fun W hx => by
          rw [HRK.out]
          exact RetEx.end4 (w2 := W) (B := w.heap.size + 1) (N := w.heap.size + 2) (D1 := fun _ => False) (HW3.out.trans (HX.out.trans hx)) (ex_leaf _ _ 1 x ⟨#[]⟩ (by omega) hxb2 (by decide)) (by omega) (by omega) (fun _ h => h.elim)
        have HEND := Lib.hid hend; clear hend hxb2
        go_wp2_with (go_at_call 64; refine (HCON.out).mono ?_; rintro e w' ⟨rfl, hy⟩; have t3 := St4.keep (Keep.of_ext (O := fun _ => False) hy) (fun h => h) HT2.out; obtain ⟨dd0, dd1, dd2, dd3⟩ := St4.cells t3; obtain ⟨gg0, gg1, gg2, gg3⟩ := St4.frozen t3; clear t3; have HY := Lib.hid hy; clear hy)
        refine bodyPost_ret (v := .agg #[.int .i64 1, .int .i64 x, .string ⟨#[]⟩, .slice none 0 0]) (by simp [results, Tryd.results52, go_sem, dd0, dd1, dd2, dd3]) rfl ?_
        exact HEND.out _ HY.out
end Go.Proofs.YtibfoafepjggjaaDoor
