/-
  The reference of expressions and of names, in the plain world.
-/
import Derived.Test.YtbhippphcmkjnaaGreatDoorLaw8
import Derived.Test.YtbhippphcmkjnaaGreatDoorNew
set_option linter.unusedVariables false
set_option linter.unusedSimpArgs false
namespace Go.Proofs.YtbhippphcmkjnaaGreatDoor
open Go.RowKit

theorem fun_rvalid (e : Ex) (hs : esize e ≤ 1000000) (hd : edepth e ≤ 999999) (σ : List (List V)) : Fun G 51 [vex e] σ (RetV (.d (dint (validE e))) σ) :=
  fun_of1 Tryz.func51 (by kernel_rfl) (by kernel_rfl) (valid_fits e) fun M bm w v hG hM hr => by
    have := rvalid_any e w v (exval_of hM hr) hs hd
    rwa [rvalid_eq e hs] at this
theorem fun_rnames (e : Ex) (hs : esize e ≤ 1000000) (hd : edepth e ≤ 999999) (σ : List (List V)) : Fun G 52 [vex e] σ (RetV (.d (dstrs (namesOf [2] e))) σ) :=
  fun_of_new Tryz.func52 (by kernel_rfl) (by kernel_rfl) (fun _ _ _ h => by cases h) fun M bm w vs hG hM hl hr => match vs, hl with
    | [v], _ => (rnames_any e w v (exval_of hM (hr 0 (by simp) (by simp))) hs hd).mono fun en w' ⟨u, h1, h2, h3, h4⟩ => by
      obtain ⟨cs, h5, -⟩ := exval_of hM (hr 0 (by simp) (by simp))
      rw [(seeOf_all e hs).2.2.2.1] at h2
      exact ⟨u, h1, h4, .d (drep_own h2 h3 (names_size h5 [] (by simp)))⟩
theorem fun_risname (s : ByteArray) (σ : List (List V)) : Fun G 46 [.d (dstr s)] σ (RetV (.d (.lit (.bool (nameB s)))) σ) :=
  fun_of1 Tryz.func46 (by kernel_rfl) (by kernel_rfl) trivial fun M bm w v hG hM hr => by
    cases hr with
    | d hr => cases hr with
      | lit _ h => exact risname_any s w (by simp only [Fits, maxLen] at h; omega)
end Go.Proofs.YtbhippphcmkjnaaGreatDoor
