/-
  FnExactRotateXY, proved: for all three numbers the law returns true. No further condition. Written by an AI agent.
-/
import Derived.Test.YtbogdbghmomlmaaPose3
import Derived.Test.YtbogdbghmomlmaaOpen
namespace Go.Proofs.Ytbogdbghmomlmaa
open Go.ChangeShapes Go.WideShapes Go.ChangeAt Go.RowKit

theorem walk_FnExactRotateXY (w : World) (x : Int) (_x1 : -9223372036854775808 ≤ x) (_x2 : x ≤ 9223372036854775807) (y : Int) (_y1 : -9223372036854775808 ≤ y) (_y2 : y ≤ 9223372036854775807) (t : Int) (_t1 : -9223372036854775808 ≤ t) (_t2 : t ≤ 9223372036854775807) :
    Calls Try.prog 7 #[.int .i64 x, .int .i64 y, .int .i64 t] w fun e w' => e = .returned (.bool true) ∧ Below w.heap.size w w' := by
  clear _x1 _x2 _y1 _y2 _t1 _t2
  obtain ⟨⟨a, b⟩, hp⟩ : ∃ p, p = rotF x y t := ⟨_, rfl⟩
  have HP := Lib.hid hp; clear hp
  have hne : (a != a) = false := by simp
  have hne' : (b != b) = false := by simp
  go_enter Try.func7, Try.ntmps7
  go_wp2_with fail
  refine (spec_RotateXY _ _ _ _).mono ?_
  rintro e w1 ⟨rfl, b1⟩
  rw [← HP.out]
  go_wp2_with fail
  refine (impl_RotateXY _ _ _ _).mono ?_
  rintro e w2 ⟨rfl, rfl⟩
  rw [← HP.out]
  go_wp2
  go_ret
  exact ⟨rfl, b1⟩
theorem fnExactRotateXY.own : ownKnob Try.prog.godebug = none := by kernel_rfl
theorem fnExactRotateXY.laidOut : laidOutB Try.prog = true := by kernel_rfl
set_option linter.unusedVariables false in
set_option maxRecDepth 100000 in
theorem fnExactRotateXY.lifted (os : Os) (started : os.Started) (H : Type) (enc : TypeId × Value → H) :
    ReturnsInHanded {} Try.checked os 7 .any (Rows.fnExactRotateXYSpec.pre6 enc Try.prog Try.f7 Rows.fnExactRotateXYRow.domain false) (Rows.fnExactRotateXYSpec.post enc Try.prog Try.f7 false true false false) := by
  refine returnsInHanded_of_change (C := Try.checked) fnExactRotateXY.own started (by kernel_rfl) Try.func7
    (ChangeSpec.witness6 (enc := enc) (C := Try.checked) false ⟨#[], #[.int .i64 0, .int .i64 0, .int .i64 0], []⟩ 8 (by kernel_rfl) (by kernel_rfl) (by kernel_rfl) (by kernel_rfl)) ?_
  intro W base args ds gs before hval0 hW hcnd _
  have hval : ∀ (j : Nat) t v, Try.f7.params[j]? = some t → args[j]? = some v → Value.okWide Try.prog W .any base t v := hval0
  have hW' := hW
  obtain ⟨p, q, hA0, hV, rfl, hfz, hnd⟩ := hW
  have hA : DataW.TrodAll enc Try.prog W 0 (fun _ => true) true Try.f7.params.toList args.toList ds p := hA0
  rw [Try.params7] at hA hval
  obtain ⟨v0, vs0, d0, ds0, p0, q0, hargs, rfl, rfl, h0, r0⟩ := trodAll_cons hA
  obtain ⟨v1, vs1, d1, ds1, p1, q1, rfl, rfl, rfl, h1, r1⟩ := trodAll_cons r0
  obtain ⟨v2, vs2, d2, ds2, p2, q2, rfl, rfl, rfl, h2, r2⟩ := trodAll_cons r1
  obtain ⟨rfl, rfl, rfl⟩ := trodAll_nil r2
  obtain rfl : args = #[v0, v1, v2] := by cases args; simp_all
  obtain ⟨rfl, rfl⟩ := trodVars_none hV
  have k0 := h0
  have lt0 : ∀ x ∈ p0, x.block < W.heap.size := by obtain ⟨m, hm⟩ := k0; exact DataW.trod_lt m _ _ _ hm
  have k1 := h1
  have lt1 : ∀ x ∈ p1, x.block < W.heap.size := by obtain ⟨m, hm⟩ := k1; exact DataW.trod_lt m _ _ _ hm
  have k2 := h2
  have lt2 : ∀ x ∈ p2, x.block < W.heap.size := by obtain ⟨m, hm⟩ := k2; exact DataW.trod_lt m _ _ _ hm
  obtain ⟨a0, rfl, l0, m0⟩ := open_intL Try.underlying3 (hval 0 3 v0 rfl rfl) h0
  obtain ⟨a1, rfl, l1, m1⟩ := open_intL Try.underlying3 (hval 1 3 v1 rfl rfl) h1
  obtain ⟨a2, rfl, l2, m2⟩ := open_intL Try.underlying3 (hval 2 3 v2 rfl rfl) h2
  clear hA0 hval0
  refine (walk_FnExactRotateXY W a0 l0 m0 a1 l1 m1 a2 l2 m2).mono fun e W' ⟨he, bel⟩ => ?_
  subst he
  exact ⟨_, rfl, _, _, _, [], _, [], hW', trodAll_mk1 (shut_bool Try.underlying4 _), (trodAll_cons_mk (Below.trod fnExactRotateXY.laidOut (by kernel_rfl) (of_decide_eq_true (by kernel_rfl)) k0 bel lt0) (trodAll_cons_mk (Below.trod fnExactRotateXY.laidOut (by kernel_rfl) (of_decide_eq_true (by kernel_rfl)) k1 bel lt1) (trodAll_cons_mk (Below.trod fnExactRotateXY.laidOut (by kernel_rfl) (of_decide_eq_true (by kernel_rfl)) k2 bel lt2) trodAll_mk0))), rfl, bel.frame _, fun h => by cases h⟩
theorem fnExactRotateXY.over : Rows.fnExactRotateXYRow.holds Try.pinned (OpenSpec.ofChange Rows.fnExactRotateXYSpec) :=
  OpenClaim.holds_of_wide 7 Try.f7 rfl rfl rfl rfl rfl rfl rfl ⟨rfl, rfl, rfl, rfl, rfl⟩ rfl rfl rfl rfl rfl (by kernel_rfl) Try.func7 (by kernel_rfl)
    (of_decide_eq_true (by kernel_rfl)) (by unfold Func.isWrapper; first | (rw [if_pos (by decide +kernel)]; kernel_rfl) | (rw [if_neg (by decide +kernel)]; exact ⟨rfl, rfl⟩))
    (fun os started H enc _ => fnExactRotateXY.lifted os started H enc)
/-- THE STATEMENT. -/
theorem fnExactRotateXY_holds : Rows.FnExactRotateXYSaid := fnExactRotateXY.over
#print axioms fnExactRotateXY_holds
end Go.Proofs.Ytbogdbghmomlmaa
