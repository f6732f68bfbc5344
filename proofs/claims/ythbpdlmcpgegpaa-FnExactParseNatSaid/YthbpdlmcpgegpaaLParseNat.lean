/-
  FnExactParseNat, proved: for every string the law returns true. No further condition. Written by an AI agent.
-/
import Derived.Test.YthbpdlmcpgegpaaParse
import Derived.Test.YthbpdlmcpgegpaaOwn2
import Derived.Test.YthbpdlmcpgegpaaOpen
namespace Go.Proofs.Ythbpdlmcpgegpaa
open Go.ChangeShapes Go.WideShapes Go.ChangeAt Go.RowKit

set_option maxHeartbeats 2000000 in
theorem walk_FnExactParseNat (w : World) (s : ByteArray) (l0 : s.size ≤ maxLen) :
    Calls Try.prog 9 #[.string s] w fun e w' => e = .returned (.bool true) ∧ Below w.heap.size w w' := by
  have hm0 : s.size ≤ 9223372036854775807 := by unfold maxLen at l0; omega
  have M0 := Lib.hid l0
  clear l0
  obtain ⟨rs0, hrs0⟩ : ∃ rs, rs = (parseNatF s).1 := ⟨_, rfl⟩
  have hl0 : rs0.length ≤ 2000000 := by rw [hrs0]; exact Nat.le_trans (parse_len s) (by omega)
  have X0 := Lib.hid hrs0
  clear hrs0
  obtain ⟨rs1, hrs1⟩ : ∃ rs, rs = (parseNatF s).2 := ⟨_, rfl⟩
  have X1 := Lib.hid hrs1
  clear hrs1
  have hne1 : (rs1 != rs1) = false := by simp
  by_cases hbig0 : 1048576 < s.size
  · go_enter Try.func9, Try.ntmps9
    go_wp2
    go_ret
    exact ⟨rfl, Below.refl _ _⟩
  go_enter Try.func9, Try.ntmps9
  go_wp2_with fail
  refine (spec_ParseNat s _ M0.out).mono ?_
  rintro e w1 ⟨r1, rfl, o1, b1⟩
  have z1 := b1.size
  rw [← X0.out] at o1
  rw [← X1.out]
  have O1 := OwnR.of o1
  go_wp2_with fail
  refine (impl_ParseNat s _ M0.out).mono ?_
  rintro e w2 ⟨r2, rfl, o2, b2⟩
  have z2 := b2.size
  rw [← X0.out] at o2
  rw [← X1.out]
  have O2 := OwnR.of o2
  go_wp2_with fail
  refine (eqInts _ _ rs0 _ (OwnR.use O2 (by repeat' (first | (with_reducible exact Below.refl _ _) | (with_reducible refine Below.alloc ?_ ?_ _) | (with_reducible refine Below.setCell ?_ ?_ _) | (with_reducible refine below_drewN ?_ _) | (with_reducible refine Below.drew ?_) | (with_reducible refine below_step (by assumption) ?_ ?_) | omega | (simp; done) | (simp; omega)))) (OwnR.use O1 (by repeat' (first | (with_reducible exact Below.refl _ _) | (with_reducible refine Below.alloc ?_ ?_ _) | (with_reducible refine Below.setCell ?_ ?_ _) | (with_reducible refine below_drewN ?_ _) | (with_reducible refine Below.drew ?_) | (with_reducible refine below_step (by assumption) ?_ ?_) | omega | (simp; done) | (simp; omega))))).mono ?_
  rintro e w3 ⟨rfl, b3⟩
  have z3 := b3.size
  go_wp2_with fail
  refine (markInts _ rs0 1 w1.heap.size w2.heap.size _ (OwnR.here O2 (by repeat' (first | (with_reducible exact Below.refl _ _) | (with_reducible refine Below.alloc ?_ ?_ _) | (with_reducible refine Below.setCell ?_ ?_ _) | (with_reducible refine below_drewN ?_ _) | (with_reducible refine Below.drew ?_) | (with_reducible refine below_step (by assumption) ?_ ?_) | omega | (simp; done) | (simp; omega)))) (by omega) (by omega) (by omega)).mono ?_
  rintro e w4 ⟨rfl, O4, fr4, b4⟩
  have z4 := b4.size
  have O1x4 := OwnR.across O1 (by repeat' (first | (with_reducible exact Below.refl _ _) | (with_reducible refine Below.alloc ?_ ?_ _) | (with_reducible refine Below.setCell ?_ ?_ _) | (with_reducible refine below_drewN ?_ _) | (with_reducible refine Below.drew ?_) | (with_reducible refine below_step (by assumption) ?_ ?_) | omega | (simp; done) | (simp; omega))) fr4 (by omega)
  go_wp2_with fail
  refine (heldInts _ rs0.length (1) _ (OwnR.use O4 (by repeat' (first | (with_reducible exact Below.refl _ _) | (with_reducible refine Below.alloc ?_ ?_ _) | (with_reducible refine Below.setCell ?_ ?_ _) | (with_reducible refine below_drewN ?_ _) | (with_reducible refine Below.drew ?_) | (with_reducible refine below_step (by assumption) ?_ ?_) | omega | (simp; done) | (simp; omega)))) (by omega) (by omega)).mono ?_
  rintro e w5 ⟨rfl, b5⟩
  have z5 := b5.size
  go_wp2_with fail
  refine (impl_ParseNat s _ M0.out).mono ?_
  rintro e w6 ⟨r6, rfl, o6, b6⟩
  have z6 := b6.size
  rw [← X0.out] at o6
  rw [← X1.out]
  have O6 := OwnR.of o6
  go_wp2_with fail
  refine (eqInts _ _ rs0 _ (OwnR.use O6 (by repeat' (first | (with_reducible exact Below.refl _ _) | (with_reducible refine Below.alloc ?_ ?_ _) | (with_reducible refine Below.setCell ?_ ?_ _) | (with_reducible refine below_drewN ?_ _) | (with_reducible refine Below.drew ?_) | (with_reducible refine below_step (by assumption) ?_ ?_) | omega | (simp; done) | (simp; omega)))) (OwnR.use O1x4 (by repeat' (first | (with_reducible exact Below.refl _ _) | (with_reducible refine Below.alloc ?_ ?_ _) | (with_reducible refine Below.setCell ?_ ?_ _) | (with_reducible refine below_drewN ?_ _) | (with_reducible refine Below.drew ?_) | (with_reducible refine below_step (by assumption) ?_ ?_) | omega | (simp; done) | (simp; omega))))).mono ?_
  rintro e w7 ⟨rfl, b7⟩
  have z7 := b7.size
  go_wp2_with fail
  refine (heldInts _ rs0.length (1) _ (OwnR.use O4 (by repeat' (first | (with_reducible exact Below.refl _ _) | (with_reducible refine Below.alloc ?_ ?_ _) | (with_reducible refine Below.setCell ?_ ?_ _) | (with_reducible refine below_drewN ?_ _) | (with_reducible refine Below.drew ?_) | (with_reducible refine below_step (by assumption) ?_ ?_) | omega | (simp; done) | (simp; omega)))) (by omega) (by omega)).mono ?_
  rintro e w8 ⟨rfl, b8⟩
  have z8 := b8.size
  go_wp2
  go_ret
  exact ⟨rfl, (by repeat' (first | (with_reducible exact Below.refl _ _) | (with_reducible refine Below.alloc ?_ ?_ _) | (with_reducible refine Below.setCell ?_ ?_ _) | (with_reducible refine below_drewN ?_ _) | (with_reducible refine Below.drew ?_) | (with_reducible refine below_step (by assumption) ?_ ?_) | omega | (simp; done) | (simp; omega)))⟩
theorem fnExactParseNat.own : ownKnob Try.prog.godebug = none := by kernel_rfl
theorem fnExactParseNat.laidOut : laidOutB Try.prog = true := by kernel_rfl
set_option linter.unusedVariables false in
set_option maxRecDepth 100000 in
theorem fnExactParseNat.lifted (os : Os) (started : os.Started) (H : Type) (enc : TypeId × Value → H) :
    ReturnsInHanded {} Try.checked os 9 .any (Rows.fnExactParseNatSpec.pre6 enc Try.prog Try.f9 Rows.fnExactParseNatRow.domain false) (Rows.fnExactParseNatSpec.post enc Try.prog Try.f9 false true false false) := by
  refine returnsInHanded_of_change (C := Try.checked) fnExactParseNat.own started (by kernel_rfl) Try.func9
    (ChangeSpec.witness6 (enc := enc) (C := Try.checked) false ⟨#[], #[.string ByteArray.empty], []⟩ 8 (by kernel_rfl) (by kernel_rfl) (by kernel_rfl) (by kernel_rfl)) ?_
  intro W base args ds gs before hval0 hW hcnd _
  have hval : ∀ (j : Nat) t v, Try.f9.params[j]? = some t → args[j]? = some v → Value.okWide Try.prog W .any base t v := hval0
  have hW' := hW
  obtain ⟨p, q, hA0, hV, rfl, hfz, hnd⟩ := hW
  have hA : DataW.TrodAll enc Try.prog W 0 (fun _ => true) true Try.f9.params.toList args.toList ds p := hA0
  rw [Try.params9] at hA hval
  obtain ⟨v0, vs0, d0, ds0, p0, q0, hargs, rfl, rfl, h0, r0⟩ := trodAll_cons hA
  obtain ⟨rfl, rfl, rfl⟩ := trodAll_nil r0
  obtain rfl : args = #[v0] := by cases args; simp_all
  obtain ⟨rfl, rfl⟩ := trodVars_none hV
  have k0 := h0
  have lt0 : ∀ x ∈ p0, x.block < W.heap.size := by obtain ⟨m, hm⟩ := k0; exact DataW.trod_lt m _ _ _ hm
  obtain ⟨a0, rfl, l0⟩ := open_strL Try.underlying9 (hval 0 9 v0 rfl rfl) h0
  clear hA0 hval0
  refine (walk_FnExactParseNat W a0 l0).mono fun e W' ⟨he, bel⟩ => ?_
  subst he
  exact ⟨_, rfl, _, _, _, [], _, [], hW', trodAll_mk1 (shut_bool Try.underlying4 _), (trodAll_cons_mk (Below.trod fnExactParseNat.laidOut (by kernel_rfl) (of_decide_eq_true (by kernel_rfl)) k0 bel lt0) trodAll_mk0), rfl, bel.frame _, fun h => by cases h⟩
theorem fnExactParseNat.over : Rows.fnExactParseNatRow.holds Try.pinned (OpenSpec.ofChange Rows.fnExactParseNatSpec) :=
  OpenClaim.holds_of_wide 9 Try.f9 rfl rfl rfl rfl rfl rfl rfl ⟨rfl, rfl, rfl, rfl, rfl⟩ rfl rfl rfl rfl rfl (by kernel_rfl) Try.func9 (by kernel_rfl)
    (of_decide_eq_true (by kernel_rfl)) (by unfold Func.isWrapper; first | (rw [if_pos (by decide +kernel)]; kernel_rfl) | (rw [if_neg (by decide +kernel)]; exact ⟨rfl, rfl⟩))
    (fun os started H enc _ => fnExactParseNat.lifted os started H enc)
/-- THE STATEMENT. -/
theorem fnExactParseNat_holds : Rows.FnExactParseNatSaid := fnExactParseNat.over
#print axioms fnExactParseNat_holds
end Go.Proofs.Ythbpdlmcpgegpaa
