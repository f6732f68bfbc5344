/-
  FnExactSplitAny, proved: for all two strings the law returns true. No further condition. Written by an AI agent.
-/
import Derived.Test.YthbpdlmcpgegpaaSplit
import Derived.Test.YthbpdlmcpgegpaaStrs2
import Derived.Test.YthbpdlmcpgegpaaOpen
namespace Go.Proofs.Ythbpdlmcpgegpaa
open Go.ChangeShapes Go.WideShapes Go.ChangeAt Go.RowKit

set_option maxHeartbeats 2000000 in
theorem walk_FnExactSplitAny (w : World) (s : ByteArray) (l0 : s.size ≤ maxLen) (t : ByteArray) (l1 : t.size ≤ maxLen) :
    Calls Try.prog 6 #[.string s, .string t] w fun e w' => e = .returned (.bool true) ∧ Below w.heap.size w w' := by
  have hm0 : s.size ≤ 9223372036854775807 := by unfold maxLen at l0; omega
  have M0 := Lib.hid l0
  clear l0
  have hm1 : t.size ≤ 9223372036854775807 := by unfold maxLen at l1; omega
  have M1 := Lib.hid l1
  clear l1
  by_cases hbig0 : 1048576 < s.size
  · go_enter Try.func6, Try.ntmps6
    go_wp2
    go_ret
    exact ⟨rfl, Below.refl _ _⟩
  by_cases hbig1 : 1048576 < t.size
  · go_enter Try.func6, Try.ntmps6
    go_wp2
    go_ret
    exact ⟨rfl, Below.refl _ _⟩
  obtain ⟨rs0, hrs0⟩ : ∃ rs, rs = splitF s t := ⟨_, rfl⟩
  have hl0 : rs0.length ≤ 2000000 := by rw [hrs0]; exact Nat.le_trans (splitF_len s t) (by omega)
  have X0 := Lib.hid hrs0
  clear hrs0
  go_enter Try.func6, Try.ntmps6
  go_wp2_with fail
  refine (spec_SplitAny s t _ (by omega) M1.out).mono ?_
  rintro e w1 ⟨r1, rfl, o1, b1⟩
  have z1 := b1.size
  rw [← X0.out] at o1
  have O1 := OwnRS.of o1
  go_wp2_with fail
  refine (impl_SplitAny s t _ (by omega) M1.out).mono ?_
  rintro e w2 ⟨r2, rfl, o2, b2⟩
  have z2 := b2.size
  rw [← X0.out] at o2
  have O2 := OwnRS.of o2
  go_wp2_with fail
  refine (eqStrs _ _ rs0 _ (OwnRS.use O2 (by repeat' (first | (with_reducible exact Below.refl _ _) | (with_reducible refine Below.alloc ?_ ?_ _) | (with_reducible refine Below.setCell ?_ ?_ _) | (with_reducible refine below_drewN ?_ _) | (with_reducible refine Below.drew ?_) | (with_reducible refine below_step (by assumption) ?_ ?_) | omega | (simp; done) | (simp; omega)))) (OwnRS.use O1 (by repeat' (first | (with_reducible exact Below.refl _ _) | (with_reducible refine Below.alloc ?_ ?_ _) | (with_reducible refine Below.setCell ?_ ?_ _) | (with_reducible refine below_drewN ?_ _) | (with_reducible refine Below.drew ?_) | (with_reducible refine below_step (by assumption) ?_ ?_) | omega | (simp; done) | (simp; omega))))).mono ?_
  rintro e w3 ⟨rfl, b3⟩
  have z3 := b3.size
  go_wp2_with fail
  refine (markStrs _ rs0 1 w1.heap.size w2.heap.size _ (OwnRS.here O2 (by repeat' (first | (with_reducible exact Below.refl _ _) | (with_reducible refine Below.alloc ?_ ?_ _) | (with_reducible refine Below.setCell ?_ ?_ _) | (with_reducible refine below_drewN ?_ _) | (with_reducible refine Below.drew ?_) | (with_reducible refine below_step (by assumption) ?_ ?_) | omega | (simp; done) | (simp; omega)))) (by omega) (by omega) (by omega)).mono ?_
  rintro e w4 ⟨rfl, O4, fr4, b4⟩
  have z4 := b4.size
  have O1x4 := OwnRS.across O1 (by repeat' (first | (with_reducible exact Below.refl _ _) | (with_reducible refine Below.alloc ?_ ?_ _) | (with_reducible refine Below.setCell ?_ ?_ _) | (with_reducible refine below_drewN ?_ _) | (with_reducible refine Below.drew ?_) | (with_reducible refine below_step (by assumption) ?_ ?_) | omega | (simp; done) | (simp; omega))) fr4 (by omega)
  go_wp2_with fail
  refine (heldStrs _ rs0.length (1) _ (OwnRS.use O4 (by repeat' (first | (with_reducible exact Below.refl _ _) | (with_reducible refine Below.alloc ?_ ?_ _) | (with_reducible refine Below.setCell ?_ ?_ _) | (with_reducible refine below_drewN ?_ _) | (with_reducible refine Below.drew ?_) | (with_reducible refine below_step (by assumption) ?_ ?_) | omega | (simp; done) | (simp; omega)))) (by omega) (by omega)).mono ?_
  rintro e w5 ⟨rfl, b5⟩
  have z5 := b5.size
  go_wp2_with fail
  refine (impl_SplitAny s t _ (by omega) M1.out).mono ?_
  rintro e w6 ⟨r6, rfl, o6, b6⟩
  have z6 := b6.size
  rw [← X0.out] at o6
  have O6 := OwnRS.of o6
  go_wp2_with fail
  refine (eqStrs _ _ rs0 _ (OwnRS.use O6 (by repeat' (first | (with_reducible exact Below.refl _ _) | (with_reducible refine Below.alloc ?_ ?_ _) | (with_reducible refine Below.setCell ?_ ?_ _) | (with_reducible refine below_drewN ?_ _) | (with_reducible refine Below.drew ?_) | (with_reducible refine below_step (by assumption) ?_ ?_) | omega | (simp; done) | (simp; omega)))) (OwnRS.use O1x4 (by repeat' (first | (with_reducible exact Below.refl _ _) | (with_reducible refine Below.alloc ?_ ?_ _) | (with_reducible refine Below.setCell ?_ ?_ _) | (with_reducible refine below_drewN ?_ _) | (with_reducible refine Below.drew ?_) | (with_reducible refine below_step (by assumption) ?_ ?_) | omega | (simp; done) | (simp; omega))))).mono ?_
  rintro e w7 ⟨rfl, b7⟩
  have z7 := b7.size
  go_wp2_with fail
  refine (heldStrs _ rs0.length (1) _ (OwnRS.use O4 (by repeat' (first | (with_reducible exact Below.refl _ _) | (with_reducible refine Below.alloc ?_ ?_ _) | (with_reducible refine Below.setCell ?_ ?_ _) | (with_reducible refine below_drewN ?_ _) | (with_reducible refine Below.drew ?_) | (with_reducible refine below_step (by assumption) ?_ ?_) | omega | (simp; done) | (simp; omega)))) (by omega) (by omega)).mono ?_
  rintro e w8 ⟨rfl, b8⟩
  have z8 := b8.size
  go_wp2
  go_ret
  exact ⟨rfl, (by repeat' (first | (with_reducible exact Below.refl _ _) | (with_reducible refine Below.alloc ?_ ?_ _) | (with_reducible refine Below.setCell ?_ ?_ _) | (with_reducible refine below_drewN ?_ _) | (with_reducible refine Below.drew ?_) | (with_reducible refine below_step (by assumption) ?_ ?_) | omega | (simp; done) | (simp; omega)))⟩
theorem fnExactSplitAny.own : ownKnob Try.prog.godebug = none := by kernel_rfl
theorem fnExactSplitAny.laidOut : laidOutB Try.prog = true := by kernel_rfl
set_option linter.unusedVariables false in
set_option maxRecDepth 100000 in
theorem fnExactSplitAny.lifted (os : Os) (started : os.Started) (H : Type) (enc : TypeId × Value → H) :
    ReturnsInHanded {} Try.checked os 6 .any (Rows.fnExactSplitAnySpec.pre6 enc Try.prog Try.f6 Rows.fnExactSplitAnyRow.domain false) (Rows.fnExactSplitAnySpec.post enc Try.prog Try.f6 false true false false) := by
  refine returnsInHanded_of_change (C := Try.checked) fnExactSplitAny.own started (by kernel_rfl) Try.func6
    (ChangeSpec.witness6 (enc := enc) (C := Try.checked) false ⟨#[], #[.string ByteArray.empty, .string ByteArray.empty], []⟩ 8 (by kernel_rfl) (by kernel_rfl) (by kernel_rfl) (by kernel_rfl)) ?_
  intro W base args ds gs before hval0 hW hcnd _
  have hval : ∀ (j : Nat) t v, Try.f6.params[j]? = some t → args[j]? = some v → Value.okWide Try.prog W .any base t v := hval0
  have hW' := hW
  obtain ⟨p, q, hA0, hV, rfl, hfz, hnd⟩ := hW
  have hA : DataW.TrodAll enc Try.prog W 0 (fun _ => true) true Try.f6.params.toList args.toList ds p := hA0
  rw [Try.params6] at hA hval
  obtain ⟨v0, vs0, d0, ds0, p0, q0, hargs, rfl, rfl, h0, r0⟩ := trodAll_cons hA
  obtain ⟨v1, vs1, d1, ds1, p1, q1, rfl, rfl, rfl, h1, r1⟩ := trodAll_cons r0
  obtain ⟨rfl, rfl, rfl⟩ := trodAll_nil r1
  obtain rfl : args = #[v0, v1] := by cases args; simp_all
  obtain ⟨rfl, rfl⟩ := trodVars_none hV
  have k0 := h0
  have lt0 : ∀ x ∈ p0, x.block < W.heap.size := by obtain ⟨m, hm⟩ := k0; exact DataW.trod_lt m _ _ _ hm
  have k1 := h1
  have lt1 : ∀ x ∈ p1, x.block < W.heap.size := by obtain ⟨m, hm⟩ := k1; exact DataW.trod_lt m _ _ _ hm
  obtain ⟨a0, rfl, l0⟩ := open_strL Try.underlying9 (hval 0 9 v0 rfl rfl) h0
  obtain ⟨a1, rfl, l1⟩ := open_strL Try.underlying9 (hval 1 9 v1 rfl rfl) h1
  clear hA0 hval0
  refine (walk_FnExactSplitAny W a0 l0 a1 l1).mono fun e W' ⟨he, bel⟩ => ?_
  subst he
  exact ⟨_, rfl, _, _, _, [], _, [], hW', trodAll_mk1 (shut_bool Try.underlying4 _), (trodAll_cons_mk (Below.trod fnExactSplitAny.laidOut (by kernel_rfl) (of_decide_eq_true (by kernel_rfl)) k0 bel lt0) (trodAll_cons_mk (Below.trod fnExactSplitAny.laidOut (by kernel_rfl) (of_decide_eq_true (by kernel_rfl)) k1 bel lt1) trodAll_mk0)), rfl, bel.frame _, fun h => by cases h⟩
theorem fnExactSplitAny.over : Rows.fnExactSplitAnyRow.holds Try.pinned (OpenSpec.ofChange Rows.fnExactSplitAnySpec) :=
  OpenClaim.holds_of_wide 6 Try.f6 rfl rfl rfl rfl rfl rfl rfl ⟨rfl, rfl, rfl, rfl, rfl⟩ rfl rfl rfl rfl rfl (by kernel_rfl) Try.func6 (by kernel_rfl)
    (of_decide_eq_true (by kernel_rfl)) (by unfold Func.isWrapper; first | (rw [if_pos (by decide +kernel)]; kernel_rfl) | (rw [if_neg (by decide +kernel)]; exact ⟨rfl, rfl⟩))
    (fun os started H enc _ => fnExactSplitAny.lifted os started H enc)
/-- THE STATEMENT. -/
theorem fnExactSplitAny_holds : Rows.FnExactSplitAnySaid := fnExactSplitAny.over
#print axioms fnExactSplitAny_holds
end Go.Proofs.Ythbpdlmcpgegpaa
