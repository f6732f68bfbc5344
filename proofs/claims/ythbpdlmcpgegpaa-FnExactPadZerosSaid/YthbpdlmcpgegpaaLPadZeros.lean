/-
  FnExactPadZeros, proved: for every string and every int the law returns true. No further condition. Written by an AI agent.
-/
import Derived.Test.YthbpdlmcpgegpaaPadP
import Derived.Test.YthbpdlmcpgegpaaOwn2
import Derived.Test.YthbpdlmcpgegpaaStrs
import Derived.Test.YthbpdlmcpgegpaaOpen
namespace Go.Proofs.Ythbpdlmcpgegpaa
open Go.ChangeShapes Go.WideShapes Go.ChangeAt Go.RowKit

set_option maxHeartbeats 2000000 in
theorem walk_FnExactPadZeros (w : World) (s : ByteArray) (l0 : s.size ≤ maxLen) (n : Int) (l1 : -9223372036854775808 ≤ n) (m1 : n ≤ 9223372036854775807) :
    Calls Try.prog 12 #[.string s, .int .i64 n] w fun e w' => e = .returned (.bool true) ∧ Below w.heap.size w w' := by
  have hm0 : s.size ≤ 9223372036854775807 := by unfold maxLen at l0; omega
  have M0 := Lib.hid l0
  clear l0
  by_cases hbig0 : 1048576 < s.size
  · go_enter Try.func12, Try.ntmps12
    go_wp2
    go_ret
    exact ⟨rfl, Below.refl _ _⟩
  obtain ⟨rs0, hrs0⟩ : ∃ rs, rs = padF s n := ⟨_, rfl⟩
  have X0 := Lib.hid hrs0
  clear hrs0
  have hne0 := str_eq (rfl : rs0 = rs0)
  go_enter Try.func12, Try.ntmps12
  go_wp2_with fail
  refine (spec_PadZeros s n _ (by omega) l1 m1).mono ?_
  rintro e w1 ⟨rfl, b1⟩
  have z1 := b1.size
  rw [← X0.out]
  go_wp2_with fail
  refine (impl_PadZeros s n _ (by omega) l1 m1).mono ?_
  rintro e w2 ⟨rfl, b2⟩
  have z2 := b2.size
  rw [← X0.out]
  go_wp2
  go_ret
  exact ⟨rfl, (by repeat' (first | (with_reducible exact Below.refl _ _) | (with_reducible refine Below.alloc ?_ ?_ _) | (with_reducible refine Below.setCell ?_ ?_ _) | (with_reducible refine below_drewN ?_ _) | (with_reducible refine Below.drew ?_) | (with_reducible refine below_step (by assumption) ?_ ?_) | omega | (simp; done) | (simp; omega)))⟩
theorem fnExactPadZeros.own : ownKnob Try.prog.godebug = none := by kernel_rfl
theorem fnExactPadZeros.laidOut : laidOutB Try.prog = true := by kernel_rfl
set_option linter.unusedVariables false in
set_option maxRecDepth 100000 in
theorem fnExactPadZeros.lifted (os : Os) (started : os.Started) (H : Type) (enc : TypeId × Value → H) :
    ReturnsInHanded {} Try.checked os 12 .any (Rows.fnExactPadZerosSpec.pre6 enc Try.prog Try.f12 Rows.fnExactPadZerosRow.domain false) (Rows.fnExactPadZerosSpec.post enc Try.prog Try.f12 false true false false) := by
  refine returnsInHanded_of_change (C := Try.checked) fnExactPadZeros.own started (by kernel_rfl) Try.func12
    (ChangeSpec.witness6 (enc := enc) (C := Try.checked) false ⟨#[], #[.string ByteArray.empty, .int .i64 0], []⟩ 8 (by kernel_rfl) (by kernel_rfl) (by kernel_rfl) (by kernel_rfl)) ?_
  intro W base args ds gs before hval0 hW hcnd _
  have hval : ∀ (j : Nat) t v, Try.f12.params[j]? = some t → args[j]? = some v → Value.okWide Try.prog W .any base t v := hval0
  have hW' := hW
  obtain ⟨p, q, hA0, hV, rfl, hfz, hnd⟩ := hW
  have hA : DataW.TrodAll enc Try.prog W 0 (fun _ => true) true Try.f12.params.toList args.toList ds p := hA0
  rw [Try.params12] at hA hval
  obtain ⟨v0, vs0, d0, ds0, p0, q0, hargs, rfl, rfl, h0, r0⟩ := trodAll_cons hA
  obtain ⟨v1, vs1, d1, ds1, p1, q1, rfl, rfl, rfl, h1, r1⟩ := trodAll_cons r0
  obtain ⟨rfl, rfl, rfl⟩ := trodAll_nil r1
  obtain rfl : args = #[v0, v1] := by cases args; simp_all
  obtain ⟨rfl, rfl⟩ := trodVars_none hV
  have k0 := h0
  have lt0 : ∀ x ∈ p0, x.block < W.heap.size := by obtain ⟨m, hm⟩ := k0; exact DataW.trod_lt m _ _ _ hm
  have k1 := h1
  have lt1 : ∀ x ∈ p1, x.block < W.heap.size := by obtain ⟨m, hm⟩ := k1; exact DataW.trod_lt m _ _ _ hm
  obtain ⟨a0, rfl, l0⟩ := open_strL Try.underlying9 (hval 0 9 v0 rfl rfl) h0
  obtain ⟨a1, rfl, l1, m1⟩ := open_intL Try.underlying3 (hval 1 3 v1 rfl rfl) h1
  clear hA0 hval0
  refine (walk_FnExactPadZeros W a0 l0 a1 l1 m1).mono fun e W' ⟨he, bel⟩ => ?_
  subst he
  exact ⟨_, rfl, _, _, _, [], _, [], hW', trodAll_mk1 (shut_bool Try.underlying4 _), (trodAll_cons_mk (Below.trod fnExactPadZeros.laidOut (by kernel_rfl) (of_decide_eq_true (by kernel_rfl)) k0 bel lt0) (trodAll_cons_mk (Below.trod fnExactPadZeros.laidOut (by kernel_rfl) (of_decide_eq_true (by kernel_rfl)) k1 bel lt1) trodAll_mk0)), rfl, bel.frame _, fun h => by cases h⟩
theorem fnExactPadZeros.over : Rows.fnExactPadZerosRow.holds Try.pinned (OpenSpec.ofChange Rows.fnExactPadZerosSpec) :=
  OpenClaim.holds_of_wide 12 Try.f12 rfl rfl rfl rfl rfl rfl rfl ⟨rfl, rfl, rfl, rfl, rfl⟩ rfl rfl rfl rfl rfl (by kernel_rfl) Try.func12 (by kernel_rfl)
    (of_decide_eq_true (by kernel_rfl)) (by unfold Func.isWrapper; first | (rw [if_pos (by decide +kernel)]; kernel_rfl) | (rw [if_neg (by decide +kernel)]; exact ⟨rfl, rfl⟩))
    (fun os started H enc _ => fnExactPadZeros.lifted os started H enc)
/-- THE STATEMENT. -/
theorem fnExactPadZeros_holds : Rows.FnExactPadZerosSaid := fnExactPadZeros.over
#print axioms fnExactPadZeros_holds
end Go.Proofs.Ythbpdlmcpgegpaa
