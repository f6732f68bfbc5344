/-
  FnExactInverse, proved: for every pose the law returns true. No further condition. Written by an AI agent.
-/
import Derived.Test.YtekppknakegadaaPose6
import Derived.Test.YtekppknakegadaaOpen
namespace Go.Proofs.Ytekppknakegadaa
open Go.ChangeShapes Go.WideShapes Go.ChangeAt Go.RowKit

set_option maxHeartbeats 1000000 in
theorem walk_FnExactInverse (w : World) (t x y : Int) (_hf : Wf [t, x, y]) :
    Calls Try.prog 3 #[.agg #[.int .i64 t, .int .i64 x, .int .i64 y]] w fun e w' => e = .returned (.bool true) ∧ Below w.heap.size w w' := by
  clear _hf
  obtain ⟨⟨ct, cx, cy⟩, hr⟩ : ∃ r, r = inv ⟨t, x, y⟩ := ⟨_, rfl⟩
  have HR := Lib.hid hr; clear hr
  go_enter Try.func3, Try.ntmps3
  go_wp2_with fail
  refine (laws_toPose _ _ _ _).mono ?_
  rintro e w1 ⟨rfl, b1⟩
  obtain ⟨hc1, hf1⟩ := bcell b1
  have hz1 := b1.size
  simp at hz1
  have z_w1_0 : w.heap.size < w1.heap.size := (by omega)
  go_wp2_with fail
  refine (spec_InverseR _ ⟨ct, cx, cy⟩ HR.out _).mono ?_
  rintro e w2 ⟨rfl, b2⟩
  obtain ⟨hc2, hf2⟩ := bcell b2
  have hz2 := b2.size
  have z_w2_0 : w.heap.size < w2.heap.size := (by omega)
  go_wp2_with fail
  refine (laws_toPose _ _ _ _).mono ?_
  rintro e w3 ⟨rfl, b3⟩
  obtain ⟨hc3, hf3⟩ := bcell b3
  have hz3 := b3.size
  simp at hz3
  have zc3 : w2.heap.size < w3.heap.size := by omega
  go_wp2_with fail
  refine (impl_InverseR _ ⟨ct, cx, cy⟩ HR.out _).mono ?_
  rintro e w4 ⟨rfl, b4⟩
  obtain ⟨hc4, hf4⟩ := bcell b4
  have hz4 := b4.size
  have zc4 : w2.heap.size < w4.heap.size := by omega
  have nn4 := Nat.ne_of_lt zc4
  go_wp2_with fail
  refine (laws_eqPose ⟨ct, cx, cy⟩ ⟨ct, cx, cy⟩ _).mono ?_
  rintro e w9 ⟨rfl, b9⟩
  rw [P3.same_self]
  go_wp2
  go_ret
  exact ⟨rfl, (by repeat' (first | (with_reducible exact Below.refl _ _) | (with_reducible refine Below.alloc ?_ ?_ _) | (with_reducible refine Below.setCell ?_ ?_ _) | (with_reducible refine below_drewN ?_ _) | (with_reducible refine Below.drew ?_) | (with_reducible refine below_step (by assumption) ?_ ?_) | omega | (simp; done) | (simp; omega)))⟩
theorem fnExactInverse.own : ownKnob Try.prog.godebug = none := by kernel_rfl
theorem fnExactInverse.laidOut : laidOutB Try.prog = true := by kernel_rfl
set_option linter.unusedVariables false in
set_option maxRecDepth 100000 in
theorem fnExactInverse.lifted (os : Os) (started : os.Started) (H : Type) (enc : TypeId × Value → H) :
    ReturnsInHanded {} Try.checked os 3 .any (Rows.fnExactInverseSpec.pre6 enc Try.prog Try.f3 Rows.fnExactInverseRow.domain false) (Rows.fnExactInverseSpec.post enc Try.prog Try.f3 false true false false) := by
  refine returnsInHanded_of_change (C := Try.checked) fnExactInverse.own started (by kernel_rfl) Try.func3
    (ChangeSpec.witness6 (enc := enc) (C := Try.checked) false ⟨#[], #[.agg #[.int .i64 0, .int .i64 0, .int .i64 0]], []⟩ 8 (by kernel_rfl) (by kernel_rfl) (by kernel_rfl) (by kernel_rfl)) ?_
  intro W base args ds gs before hval0 hW hcnd _
  have hval : ∀ (j : Nat) t v, Try.f3.params[j]? = some t → args[j]? = some v → Value.okWide Try.prog W .any base t v := hval0
  have hW' := hW
  obtain ⟨p, q, hA0, hV, rfl, hfz, hnd⟩ := hW
  have hA : DataW.TrodAll enc Try.prog W 0 (fun _ => true) true Try.f3.params.toList args.toList ds p := hA0
  rw [Try.params3] at hA hval
  obtain ⟨v0, vs0, d0, ds0, p0, q0, hargs, rfl, rfl, h0, r0⟩ := trodAll_cons hA
  obtain ⟨rfl, rfl, rfl⟩ := trodAll_nil r0
  obtain rfl : args = #[v0] := by cases args; simp_all
  obtain ⟨rfl, rfl⟩ := trodVars_none hV
  have k0 := h0
  have lt0 : ∀ x ∈ p0, x.block < W.heap.size := by obtain ⟨m, hm⟩ := k0; exact DataW.trod_lt m _ _ _ hm
  obtain ⟨a0, b0, c0, rfl, f0⟩ := open_poseL Try.underlying23 (by kernel_rfl) (by kernel_rfl) rfl rfl rfl Try.underlying3 (hval 0 23 v0 rfl rfl) h0
  clear hA0 hval0
  refine (walk_FnExactInverse W a0 b0 c0 f0).mono fun e W' ⟨he, bel⟩ => ?_
  subst he
  exact ⟨_, rfl, _, _, _, [], _, [], hW', trodAll_mk1 (shut_bool Try.underlying4 _), (trodAll_cons_mk (Below.trod fnExactInverse.laidOut (by kernel_rfl) (of_decide_eq_true (by kernel_rfl)) k0 bel lt0) trodAll_mk0), rfl, bel.frame _, fun h => by cases h⟩
theorem fnExactInverse.over : Rows.fnExactInverseRow.holds Try.pinned (OpenSpec.ofChange Rows.fnExactInverseSpec) :=
  OpenClaim.holds_of_wide 3 Try.f3 rfl rfl rfl rfl rfl rfl rfl ⟨rfl, rfl, rfl, rfl, rfl⟩ rfl rfl rfl rfl rfl (by kernel_rfl) Try.func3 (by kernel_rfl)
    (of_decide_eq_true (by kernel_rfl)) (by unfold Func.isWrapper; first | (rw [if_pos (by decide +kernel)]; kernel_rfl) | (rw [if_neg (by decide +kernel)]; exact ⟨rfl, rfl⟩))
    (fun os started H enc _ => fnExactInverse.lifted os started H enc)
/-- THE STATEMENT. -/
theorem fnExactInverse_holds : Rows.FnExactInverseSaid := fnExactInverse.over
#print axioms fnExactInverse_holds
end Go.Proofs.Ytekppknakegadaa
