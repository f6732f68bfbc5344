/-
  FnExactIsValidPose, proved: for every pose the law returns true. No further condition. Written by an AI agent.
-/
import Derived.Test.YtbogdbghmomlmaaPose3
import Derived.Test.YtbogdbghmomlmaaOpen
namespace Go.Proofs.Ytbogdbghmomlmaa
open Go.ChangeShapes Go.WideShapes Go.ChangeAt Go.RowKit

theorem walk_FnExactIsValidPose (w : World) (t x y : Int) (_hf : Wf [t, x, y]) :
    Calls Try.prog 4 #[.agg #[.int .i64 t, .int .i64 x, .int .i64 y]] w fun e w' => e = .returned (.bool true) ∧ Below w.heap.size w w' := by
  have hne : (validB t x y != validB t x y) = false := by simp
  go_enter Try.func4, Try.ntmps4
  go_wp2_with fail
  refine (laws_toPose _ _ _ _).mono ?_
  rintro e w1 ⟨rfl, b1⟩
  have c0 := b1.cell (p := ⟨w.heap.size, 0, none⟩) (by simp)
  have c1 := b1.cell (p := ⟨w.heap.size, 1, none⟩) (by simp)
  have c2 := b1.cell (p := ⟨w.heap.size, 2, none⟩) (by simp)
  simp [World.cell?_alloc_new] at c0 c1 c2
  go_wp2_with fail
  refine (spec_IsValidPose _ _ _ _).mono ?_
  rintro e w2 ⟨rfl, b2⟩
  have hz : w.heap.size < w1.heap.size := by have := b1.size; simp at this; omega
  have d0 := (b2.cell (p := ⟨w.heap.size, 0, none⟩) hz).trans c0
  have d1 := (b2.cell (p := ⟨w.heap.size, 1, none⟩) hz).trans c1
  have d2 := (b2.cell (p := ⟨w.heap.size, 2, none⟩) hz).trans c2
  go_wp2_with fail
  refine (laws_toPose _ _ _ _).mono ?_
  rintro e w3 ⟨rfl, b3⟩
  go_wp2_with fail
  refine (impl_IsValidPose _ _ _ _).mono ?_
  rintro e w4 ⟨rfl, b4⟩
  go_wp2
  go_ret
  have s1 := b1.size
  have s2 := b2.size
  have s3 := b3.size
  simp at s1
  exact ⟨rfl, (((((Below.refl _ w).alloc (Nat.le_refl _) _).trans (b1.mono (by simp))).trans (b2.mono (by omega))).trans (b3.mono (by omega))).trans (b4.mono (by omega))⟩
theorem fnExactIsValidPose.own : ownKnob Try.prog.godebug = none := by kernel_rfl
theorem fnExactIsValidPose.laidOut : laidOutB Try.prog = true := by kernel_rfl
set_option linter.unusedVariables false in
set_option maxRecDepth 100000 in
theorem fnExactIsValidPose.lifted (os : Os) (started : os.Started) (H : Type) (enc : TypeId × Value → H) :
    ReturnsInHanded {} Try.checked os 4 .any (Rows.fnExactIsValidPoseSpec.pre6 enc Try.prog Try.f4 Rows.fnExactIsValidPoseRow.domain false) (Rows.fnExactIsValidPoseSpec.post enc Try.prog Try.f4 false true false false) := by
  refine returnsInHanded_of_change (C := Try.checked) fnExactIsValidPose.own started (by kernel_rfl) Try.func4
    (ChangeSpec.witness6 (enc := enc) (C := Try.checked) false ⟨#[], #[.agg #[.int .i64 0, .int .i64 0, .int .i64 0]], []⟩ 8 (by kernel_rfl) (by kernel_rfl) (by kernel_rfl) (by kernel_rfl)) ?_
  intro W base args ds gs before hval0 hW hcnd _
  have hval : ∀ (j : Nat) t v, Try.f4.params[j]? = some t → args[j]? = some v → Value.okWide Try.prog W .any base t v := hval0
  have hW' := hW
  obtain ⟨p, q, hA0, hV, rfl, hfz, hnd⟩ := hW
  have hA : DataW.TrodAll enc Try.prog W 0 (fun _ => true) true Try.f4.params.toList args.toList ds p := hA0
  rw [Try.params4] at hA hval
  obtain ⟨v0, vs0, d0, ds0, p0, q0, hargs, rfl, rfl, h0, r0⟩ := trodAll_cons hA
  obtain ⟨rfl, rfl, rfl⟩ := trodAll_nil r0
  obtain rfl : args = #[v0] := by cases args; simp_all
  obtain ⟨rfl, rfl⟩ := trodVars_none hV
  have k0 := h0
  have lt0 : ∀ x ∈ p0, x.block < W.heap.size := by obtain ⟨m, hm⟩ := k0; exact DataW.trod_lt m _ _ _ hm
  obtain ⟨a0, b0, c0, rfl, f0⟩ := open_poseL Try.underlying24 (by kernel_rfl) (by kernel_rfl) rfl rfl rfl Try.underlying3 (hval 0 24 v0 rfl rfl) h0
  clear hA0 hval0
  refine (walk_FnExactIsValidPose W a0 b0 c0 f0).mono fun e W' ⟨he, bel⟩ => ?_
  subst he
  exact ⟨_, rfl, _, _, _, [], _, [], hW', trodAll_mk1 (shut_bool Try.underlying4 _), (trodAll_cons_mk (Below.trod fnExactIsValidPose.laidOut (by kernel_rfl) (of_decide_eq_true (by kernel_rfl)) k0 bel lt0) trodAll_mk0), rfl, bel.frame _, fun h => by cases h⟩
theorem fnExactIsValidPose.over : Rows.fnExactIsValidPoseRow.holds Try.pinned (OpenSpec.ofChange Rows.fnExactIsValidPoseSpec) :=
  OpenClaim.holds_of_wide 4 Try.f4 rfl rfl rfl rfl rfl rfl rfl ⟨rfl, rfl, rfl, rfl, rfl⟩ rfl rfl rfl rfl rfl (by kernel_rfl) Try.func4 (by kernel_rfl)
    (of_decide_eq_true (by kernel_rfl)) (by unfold Func.isWrapper; first | (rw [if_pos (by decide +kernel)]; kernel_rfl) | (rw [if_neg (by decide +kernel)]; exact ⟨rfl, rfl⟩))
    (fun os started H enc _ => fnExactIsValidPose.lifted os started H enc)
/-- THE STATEMENT. -/
theorem fnExactIsValidPose_holds : Rows.FnExactIsValidPoseSaid := fnExactIsValidPose.over
#print axioms fnExactIsValidPose_holds
end Go.Proofs.Ytbogdbghmomlmaa
