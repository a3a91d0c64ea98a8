/-
  Contracts over memory whose results lie in new blocks, in the plain world.
  Contracts over memory whose result is a new row of strings that the caller may grow, in the plain world. Lists of signals in the plain world, and the program's Eval; small expressions. The law's Brief, and IsName, in the plain world.
-/
import Derived.Test.YthoebpnbhgmoiaaDoorNew
import Derived.Test.YthoebpnbhgmoiaaDoorEval
import Derived.Test.YthoebpnbhgmoiaaDoorLaw8
import Derived.Test.YthoebpnbhgmoiaaDoorFold
import Derived.Test.YthoebpnbhgmoiaaDoorData
import Derived.Test.YthoebpnbhgmoiaaDoorNames2
import Derived.Test.YthoebpnbhgmoiaaDoorK
set_option linter.unusedVariables false
set_option linter.unusedSimpArgs false
set_option linter.unusedSectionVars false
namespace Go.Proofs.YthoebpnbhgmoiaaDoor
open Go.RowKit
theorem fun_subst (e : Ex) (nm : ByteArray) (b : Ex) (hs : esize e ≤ 1000000) (hb : esize b ≤ 1000000) (σ : List (List V)) : Fun G 70 [vex e, .d (dstr nm), vex b] σ (RetV (vex (subE nm b e)) σ) :=
  fun_of_new Tryd.func70 (by kernel_rfl) (by kernel_rfl) (fun _ _ _ h => by cases h) fun M bm w vs hG hM hl hr => match vs, hl with
    | [v, n, v'], _ => by
      have h0 := exval_of hM (hr 0 (by simp) (by simp))
      have h1 : Rep M bm (.d (dstr nm)) n := hr 1 (by simp) (by simp)
      have h2 := exval_of hM (hr 2 (by simp) (by simp))
      cases h1 with
      | d h1 => cases h1 with
        | lit _ _ =>
          refine (subst_any nm b (slim_of b (by omega)) e (slim_of e (by omega)) v v' w h0 h2).mono fun en w' ⟨cs, h3, h4, h5⟩ => ?_
          exact ⟨_, h3, h5, rep_in (fun b hb o x hx => by
            unfold newer
            rw [if_pos (by rcases hb with hb | hb; exact hb.elim; exact hb)]; exact hx) h4⟩
end Go.Proofs.YthoebpnbhgmoiaaDoor
namespace Go.Proofs.YthoebpnbhgmoiaaDoor
open Go.RowKit
end Go.Proofs.YthoebpnbhgmoiaaDoor
namespace Go.Proofs.YthoebpnbhgmoiaaDoor
open Go.RowKit
theorem fun_isname (s : ByteArray) (σ : List (List V)) : Fun G 12 [.d (dstr s)] σ (RetV (.d (.lit (.bool (nameB s)))) σ) :=
  fun_of1 Tryd.func12 (by kernel_rfl) (by kernel_rfl) trivial fun M bm w v hG hM hr => by
    cases hr with
    | d h => cases h with
      | lit _ hs => exact risname_any s w (by simp only [Fits, maxLen] at hs; omega)
end Go.Proofs.YthoebpnbhgmoiaaDoor
