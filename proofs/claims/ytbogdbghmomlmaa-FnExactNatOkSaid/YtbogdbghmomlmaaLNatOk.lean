/-
  FnExactNatOk, proved: for every list of ints the law returns true. No further condition. Written by an AI agent.
-/
import Derived.Test.YtbogdbghmomlmaaNatOk2
import Derived.Test.YtbogdbghmomlmaaInts
import Derived.Test.YtbogdbghmomlmaaOpen
namespace Go.Proofs.Ytbogdbghmomlmaa
open Go.ChangeShapes Go.WideShapes Go.ChangeAt Go.RowKit

theorem walk_FnExactNatOk (w : World) (v : Value) (xs : List Int) (h : Sl w v xs) (_hf : Wf xs) :
    Calls Try.prog 8 #[v] w fun e w' => e = .returned (.bool true) ∧ Below w.heap.size w w' := by
  have hS := Lib.hid h
  obtain ⟨A, c, rfl, h1, h2, h3⟩ := h
  clear h3
  have hm : xs.length ≤ 9223372036854775807 := by unfold maxLen at h2; omega
  by_cases hbig : 1048576 < xs.length
  · go_enter Try.func8, Try.ntmps8
    go_wp2
    go_ret
    exact ⟨rfl, Below.refl _ _⟩
  · go_enter Try.func8, Try.ntmps8
    go_wp2_with fail
    refine (laws_toIntS _ xs _ hS.out (by omega)).mono ?_
    rintro e w1 ⟨r1, rfl, o1, b1⟩
    go_wp2_with fail
    refine (spec_NatOk _ xs _ o1.sl).mono ?_
    rintro e w2 ⟨rfl, rfl⟩
    go_wp2_with fail
    refine (laws_toIntS _ xs _ (hS.out.below b1) (by omega)).mono ?_
    rintro e w2 ⟨r2, rfl, o2, b2⟩
    go_wp2_with fail
    refine (impl_NatOk _ xs _ o2.sl).mono ?_
    rintro e w3 ⟨rfl, rfl⟩
    have hne : (okB xs != okB xs) = false := by simp
    have s2 := (hS.out.below b1).below b2
    go_wp2_with fail
    refine (laws_toIntS _ xs _ s2 (by omega)).mono ?_
    rintro e w3 ⟨r3, rfl, o3, b3⟩
    go_wp2_with fail
    refine (laws_eqIntS _ _ xs xs _ (o2.sl.below b3) o3.sl).mono ?_
    rintro e w4 ⟨rfl, n4, rfl⟩
    go_wp2
    go_ret
    exact ⟨rfl, below_drewN ((b1.trans (b2.mono b1.size)).trans (b3.mono (Nat.le_trans b1.size b2.size))) _⟩
theorem fnExactNatOk.own : ownKnob Try.prog.godebug = none := by kernel_rfl
theorem fnExactNatOk.laidOut : laidOutB Try.prog = true := by kernel_rfl
set_option linter.unusedVariables false in
set_option maxRecDepth 100000 in
theorem fnExactNatOk.lifted (os : Os) (started : os.Started) (H : Type) (enc : TypeId × Value → H) :
    ReturnsInHanded {} Try.checked os 8 .any (Rows.fnExactNatOkSpec.pre6 enc Try.prog Try.f8 Rows.fnExactNatOkRow.domain false) (Rows.fnExactNatOkSpec.post enc Try.prog Try.f8 false true false false) := by
  refine returnsInHanded_of_change (C := Try.checked) fnExactNatOk.own started (by kernel_rfl) Try.func8
    (ChangeSpec.witness6 (enc := enc) (C := Try.checked) false ⟨#[], #[.slice none 0 0], []⟩ 8 (by kernel_rfl) (by kernel_rfl) (by kernel_rfl) (by kernel_rfl)) ?_
  intro W base args ds gs before hval0 hW hcnd _
  have hval : ∀ (j : Nat) t v, Try.f8.params[j]? = some t → args[j]? = some v → Value.okWide Try.prog W .any base t v := hval0
  have hW' := hW
  obtain ⟨p, q, hA0, hV, rfl, hfz, hnd⟩ := hW
  have hA : DataW.TrodAll enc Try.prog W 0 (fun _ => true) true Try.f8.params.toList args.toList ds p := hA0
  rw [Try.params8] at hA hval
  obtain ⟨v0, vs0, d0, ds0, p0, q0, hargs, rfl, rfl, h0, r0⟩ := trodAll_cons hA
  obtain ⟨rfl, rfl, rfl⟩ := trodAll_nil r0
  obtain rfl : args = #[v0] := by cases args; simp_all
  obtain ⟨rfl, rfl⟩ := trodVars_none hV
  have k0 := h0
  have lt0 : ∀ x ∈ p0, x.block < W.heap.size := by obtain ⟨m, hm⟩ := k0; exact DataW.trod_lt m _ _ _ hm
  obtain ⟨x0, s0, f0⟩ := open_intsL Try.underlying33 Try.underlying3 (by kernel_rfl) (hval 0 33 v0 rfl rfl) h0
  clear hA0 hval0
  refine (walk_FnExactNatOk W v0 x0 s0 f0).mono fun e W' ⟨he, bel⟩ => ?_
  subst he
  exact ⟨_, rfl, _, _, _, [], _, [], hW', trodAll_mk1 (shut_bool Try.underlying4 _), (trodAll_cons_mk (Below.trod fnExactNatOk.laidOut (by kernel_rfl) (of_decide_eq_true (by kernel_rfl)) k0 bel lt0) trodAll_mk0), rfl, bel.frame _, fun h => by cases h⟩
theorem fnExactNatOk.over : Rows.fnExactNatOkRow.holds Try.pinned (OpenSpec.ofChange Rows.fnExactNatOkSpec) :=
  OpenClaim.holds_of_wide 8 Try.f8 rfl rfl rfl rfl rfl rfl rfl ⟨rfl, rfl, rfl, rfl, rfl⟩ rfl rfl rfl rfl rfl (by kernel_rfl) Try.func8 (by kernel_rfl)
    (of_decide_eq_true (by kernel_rfl)) (by unfold Func.isWrapper; first | (rw [if_pos (by decide +kernel)]; kernel_rfl) | (rw [if_neg (by decide +kernel)]; exact ⟨rfl, rfl⟩))
    (fun os started H enc _ => fnExactNatOk.lifted os started H enc)
/-- THE STATEMENT. -/
theorem fnExactNatOk_holds : Rows.FnExactNatOkSaid := fnExactNatOk.over
#print axioms fnExactNatOk_holds
end Go.Proofs.Ytbogdbghmomlmaa
