/-
  FnExactParseBigInt, proved: for every string the law returns true. No further condition. Written by an AI agent.
-/
import Derived.Test.YthbpdlmcpgegpaaParseB
import Derived.Test.YthbpdlmcpgegpaaOpen
import Derived.Test.YthbpdlmcpgegpaaBox
import Derived.Deep.RegionHeld3
import Derived.Deep.DeepCutAuto
namespace Go.Proofs.Ythbpdlmcpgegpaa
open Go.ChangeShapes Go.WideShapes Go.ChangeAt Go.RowKit

set_option maxRecDepth 100000 in
set_option maxHeartbeats 8000000 in
theorem walk_FnExactParseBigInt (w : World) (s : ByteArray) (l0 : s.size ≤ maxLen) :
    Calls Try.prog 10 #[.string s] w fun e w' => e = .returned (.bool true) ∧ Below w.heap.size w w' := by
  obtain ⟨rs0, hr⟩ : ∃ x, x = decide ((parseBigF s).1 < 0) := ⟨_, rfl⟩
  have X0 := Lib.hid hr
  clear hr
  obtain ⟨rs1, hr⟩ : ∃ x, x = toL (parseBigF s).1.natAbs := ⟨_, rfl⟩
  have hl1 : rs1.length ≤ 2000000 := by rw [hr]; exact parseBig_len s
  have X1 := Lib.hid hr
  clear hr
  obtain ⟨rs2, hr⟩ : ∃ x, x = (parseBigF s).2 := ⟨_, rfl⟩
  have hne2 : (rs2 != rs2) = false := by simp
  have X2 := Lib.hid hr
  clear hr
  by_cases hbig0 : 1048576 < s.size
  · go_enter Try.func10, Try.ntmps10
    go_wp2
    go_ret
    exact ⟨rfl, (by repeat' (first | (with_reducible exact Below.refl _ _) | (with_reducible refine Below.alloc ?_ ?_ _) | (with_reducible refine Below.setCell ?_ ?_ _) | (with_reducible refine below_drewN ?_ _) | (with_reducible refine Below.drew ?_) | (with_reducible refine below_step (by assumption) ?_ ?_) | omega | (simp; done) | (simp; omega)))⟩
  go_enter Try.func10, Try.ntmps10
  go_wp2_with fail
  (with_reducible refine (spec_ParseBigInt s _ (by omega)).mono ?_)
  rintro e w1 ⟨A1, n1, c1, rfl, o1, b1⟩
  rw [← X0.out, ← X2.out]
  rw [← X1.out] at o1
  have O1 := OwnR.wide (OwnR.of o1) (lo' := w.heap.size) (by first | omega | (simp; done) | (simp; omega)) (Nat.le_refl _)
  clear o1
  have z1 := b1.size
  (try simp at z1)
  go_wp2_with fail
  (with_reducible refine (impl_ParseBigInt s _ (by omega)).mono ?_)
  rintro e w2 ⟨A2, n2, c2, rfl, o2, b2⟩
  rw [← X0.out, ← X2.out]
  rw [← X1.out] at o2
  have O2 := OwnR.wide (OwnR.of o2) (lo' := w1.heap.size + 1) (by first | omega | (simp; done) | (simp; omega)) (Nat.le_refl _)
  clear o2
  have z2 := b2.size
  (try simp at z2)
  have y2_0 : w1.heap.size < w2.heap.size := by omega
  have k2_0_0 : w2.cell? ⟨w1.heap.size, 0, none⟩ = some (.bool rs0) := by rw [(bxcell b2).1 _ _ (by first | omega | (simp; done) | (simp; omega))]; simp [go_sem, *]
  have k2_0_1 : w2.cell? ⟨w1.heap.size, 1, none⟩ = some (.slice A1 n1 c1) := by rw [(bxcell b2).1 _ _ (by first | omega | (simp; done) | (simp; omega))]; simp [go_sem, *]
  go_wp2_with fail
  (with_reducible refine (eqBig rs0 _ _ _ _ _ _ rs1 _ (OwnR.here O2 (by repeat' (first | (with_reducible exact Below.refl _ _) | (with_reducible refine Below.alloc ?_ ?_ _) | (with_reducible refine Below.setCell ?_ ?_ _) | (with_reducible refine below_drewN ?_ _) | (with_reducible refine Below.drew ?_) | (with_reducible refine below_step (by assumption) ?_ ?_) | omega | (simp; done) | (simp; omega)))).sl (OwnR.here O1 (by repeat' (first | (with_reducible exact Below.refl _ _) | (with_reducible refine Below.alloc ?_ ?_ _) | (with_reducible refine Below.setCell ?_ ?_ _) | (with_reducible refine below_drewN ?_ _) | (with_reducible refine Below.drew ?_) | (with_reducible refine below_step (by assumption) ?_ ?_) | omega | (simp; done) | (simp; omega)))).sl).mono ?_)
  rintro e w3 ⟨rfl, b3⟩
  have z3 := b3.size
  (try simp at z3)
  have y3_0 : w1.heap.size < w3.heap.size := by omega
  have y3_1 : w2.heap.size < w3.heap.size := by omega
  have k3_0_0 : w3.cell? ⟨w1.heap.size, 0, none⟩ = some (.bool rs0) := by rw [(bxcell b3).1 _ _ (by first | omega | (simp; done) | (simp; omega))]; simp [go_sem, *]
  have k3_0_1 : w3.cell? ⟨w1.heap.size, 1, none⟩ = some (.slice A1 n1 c1) := by rw [(bxcell b3).1 _ _ (by first | omega | (simp; done) | (simp; omega))]; simp [go_sem, *]
  have k3_1_0 : w3.cell? ⟨w2.heap.size, 0, none⟩ = some (.bool rs0) := by rw [(bxcell b3).1 _ _ (by first | omega | (simp; done) | (simp; omega))]; simp [go_sem, *]
  have k3_1_1 : w3.cell? ⟨w2.heap.size, 1, none⟩ = some (.slice A2 n2 c2) := by rw [(bxcell b3).1 _ _ (by first | omega | (simp; done) | (simp; omega))]; simp [go_sem, *]
  clear k2_0_0 k2_0_1 y2_0
  go_wp2_with fail
  (with_reducible refine (markBig rs0 _ _ _ rs1 (1) (w1.heap.size + 1) (w2.heap.size) _ (OwnR.here O2 (by repeat' (first | (with_reducible exact Below.refl _ _) | (with_reducible refine Below.alloc ?_ ?_ _) | (with_reducible refine Below.setCell ?_ ?_ _) | (with_reducible refine below_drewN ?_ _) | (with_reducible refine Below.drew ?_) | (with_reducible refine below_step (by assumption) ?_ ?_) | omega | (simp; done) | (simp; omega)))) (by omega) (by omega) (by omega) (by omega)).mono ?_)
  rintro e w4 ⟨rfl, O4, fr4, b4⟩
  have O1x4 := OwnR.across O1 (by repeat' (first | (with_reducible exact Below.refl _ _) | (with_reducible refine Below.alloc ?_ ?_ _) | (with_reducible refine Below.setCell ?_ ?_ _) | (with_reducible refine below_drewN ?_ _) | (with_reducible refine Below.drew ?_) | (with_reducible refine below_step (by assumption) ?_ ?_) | omega | (simp; done) | (simp; omega))) fr4 (by omega)
  clear O1
  have z4 := b4.size
  (try simp at z4)
  have y4_0 : w1.heap.size < w4.heap.size := by omega
  have y4_1 : w2.heap.size < w4.heap.size := by omega
  have k4_0_0 : w4.cell? ⟨w1.heap.size, 0, none⟩ = some (.bool rs0) := by rw [fr4.cell (by first | omega | (simp; done) | (simp; omega)) (by omega)]; simp [go_sem, *]
  have k4_0_1 : w4.cell? ⟨w1.heap.size, 1, none⟩ = some (.slice A1 n1 c1) := by rw [fr4.cell (by first | omega | (simp; done) | (simp; omega)) (by omega)]; simp [go_sem, *]
  have k4_1_0 : w4.cell? ⟨w2.heap.size, 0, none⟩ = some (.bool rs0) := by rw [fr4.cell (by first | omega | (simp; done) | (simp; omega)) (by omega)]; simp [go_sem, *]
  have k4_1_1 : w4.cell? ⟨w2.heap.size, 1, none⟩ = some (.slice A2 n2 c2) := by rw [fr4.cell (by first | omega | (simp; done) | (simp; omega)) (by omega)]; simp [go_sem, *]
  clear k3_0_0 k3_0_1 k3_1_0 k3_1_1 y3_0 y3_1
  go_wp2_with fail
  (with_reducible refine (heldBig rs0 _ _ _ rs1.length (1) _ (OwnR.here O4 (by repeat' (first | (with_reducible exact Below.refl _ _) | (with_reducible refine Below.alloc ?_ ?_ _) | (with_reducible refine Below.setCell ?_ ?_ _) | (with_reducible refine below_drewN ?_ _) | (with_reducible refine Below.drew ?_) | (with_reducible refine below_step (by assumption) ?_ ?_) | omega | (simp; done) | (simp; omega)))).sl (by omega) (by omega)).mono ?_)
  rintro e w5 ⟨rfl, b5⟩
  have z5 := b5.size
  (try simp at z5)
  have y5_0 : w1.heap.size < w5.heap.size := by omega
  have y5_1 : w2.heap.size < w5.heap.size := by omega
  have k5_0_0 : w5.cell? ⟨w1.heap.size, 0, none⟩ = some (.bool rs0) := by rw [(bxcell b5).1 _ _ (by first | omega | (simp; done) | (simp; omega))]; simp [go_sem, *]
  have k5_0_1 : w5.cell? ⟨w1.heap.size, 1, none⟩ = some (.slice A1 n1 c1) := by rw [(bxcell b5).1 _ _ (by first | omega | (simp; done) | (simp; omega))]; simp [go_sem, *]
  have k5_1_0 : w5.cell? ⟨w2.heap.size, 0, none⟩ = some (.bool rs0) := by rw [(bxcell b5).1 _ _ (by first | omega | (simp; done) | (simp; omega))]; simp [go_sem, *]
  have k5_1_1 : w5.cell? ⟨w2.heap.size, 1, none⟩ = some (.slice A2 n2 c2) := by rw [(bxcell b5).1 _ _ (by first | omega | (simp; done) | (simp; omega))]; simp [go_sem, *]
  clear k4_0_0 k4_0_1 k4_1_0 k4_1_1 y4_0 y4_1
  go_wp2_with fail
  (with_reducible refine (impl_ParseBigInt s _ (by omega)).mono ?_)
  rintro e w6 ⟨A6, n6, c6, rfl, o6, b6⟩
  rw [← X0.out, ← X2.out]
  rw [← X1.out] at o6
  have O6 := OwnR.wide (OwnR.of o6) (lo' := w5.heap.size) (by first | omega | (simp; done) | (simp; omega)) (Nat.le_refl _)
  clear o6
  have z6 := b6.size
  (try simp at z6)
  have y6_0 : w1.heap.size < w6.heap.size := by omega
  have y6_1 : w2.heap.size < w6.heap.size := by omega
  have k6_0_0 : w6.cell? ⟨w1.heap.size, 0, none⟩ = some (.bool rs0) := by rw [(bxcell b6).1 _ _ (by first | omega | (simp; done) | (simp; omega))]; simp [go_sem, *]
  have k6_0_1 : w6.cell? ⟨w1.heap.size, 1, none⟩ = some (.slice A1 n1 c1) := by rw [(bxcell b6).1 _ _ (by first | omega | (simp; done) | (simp; omega))]; simp [go_sem, *]
  have k6_1_0 : w6.cell? ⟨w2.heap.size, 0, none⟩ = some (.bool rs0) := by rw [(bxcell b6).1 _ _ (by first | omega | (simp; done) | (simp; omega))]; simp [go_sem, *]
  have k6_1_1 : w6.cell? ⟨w2.heap.size, 1, none⟩ = some (.slice A2 n2 c2) := by rw [(bxcell b6).1 _ _ (by first | omega | (simp; done) | (simp; omega))]; simp [go_sem, *]
  clear k5_0_0 k5_0_1 k5_1_0 k5_1_1 y5_0 y5_1
  go_wp2_with fail
  (with_reducible refine (eqBig rs0 _ _ _ _ _ _ rs1 _ (OwnR.here O6 (by repeat' (first | (with_reducible exact Below.refl _ _) | (with_reducible refine Below.alloc ?_ ?_ _) | (with_reducible refine Below.setCell ?_ ?_ _) | (with_reducible refine below_drewN ?_ _) | (with_reducible refine Below.drew ?_) | (with_reducible refine below_step (by assumption) ?_ ?_) | omega | (simp; done) | (simp; omega)))).sl (OwnR.here O1x4 (by repeat' (first | (with_reducible exact Below.refl _ _) | (with_reducible refine Below.alloc ?_ ?_ _) | (with_reducible refine Below.setCell ?_ ?_ _) | (with_reducible refine below_drewN ?_ _) | (with_reducible refine Below.drew ?_) | (with_reducible refine below_step (by assumption) ?_ ?_) | omega | (simp; done) | (simp; omega)))).sl).mono ?_)
  rintro e w7 ⟨rfl, b7⟩
  have z7 := b7.size
  (try simp at z7)
  have y7_0 : w1.heap.size < w7.heap.size := by omega
  have y7_1 : w2.heap.size < w7.heap.size := by omega
  have y7_2 : w6.heap.size < w7.heap.size := by omega
  have k7_0_0 : w7.cell? ⟨w1.heap.size, 0, none⟩ = some (.bool rs0) := by rw [(bxcell b7).1 _ _ (by first | omega | (simp; done) | (simp; omega))]; simp [go_sem, *]
  have k7_0_1 : w7.cell? ⟨w1.heap.size, 1, none⟩ = some (.slice A1 n1 c1) := by rw [(bxcell b7).1 _ _ (by first | omega | (simp; done) | (simp; omega))]; simp [go_sem, *]
  have k7_1_0 : w7.cell? ⟨w2.heap.size, 0, none⟩ = some (.bool rs0) := by rw [(bxcell b7).1 _ _ (by first | omega | (simp; done) | (simp; omega))]; simp [go_sem, *]
  have k7_1_1 : w7.cell? ⟨w2.heap.size, 1, none⟩ = some (.slice A2 n2 c2) := by rw [(bxcell b7).1 _ _ (by first | omega | (simp; done) | (simp; omega))]; simp [go_sem, *]
  have k7_2_0 : w7.cell? ⟨w6.heap.size, 0, none⟩ = some (.bool rs0) := by rw [(bxcell b7).1 _ _ (by first | omega | (simp; done) | (simp; omega))]; simp [go_sem, *]
  have k7_2_1 : w7.cell? ⟨w6.heap.size, 1, none⟩ = some (.slice A6 n6 c6) := by rw [(bxcell b7).1 _ _ (by first | omega | (simp; done) | (simp; omega))]; simp [go_sem, *]
  clear k6_0_0 k6_0_1 k6_1_0 k6_1_1 y6_0 y6_1
  go_wp2_with fail
  (with_reducible refine (heldBig rs0 _ _ _ rs1.length (1) _ (OwnR.here O4 (by repeat' (first | (with_reducible exact Below.refl _ _) | (with_reducible refine Below.alloc ?_ ?_ _) | (with_reducible refine Below.setCell ?_ ?_ _) | (with_reducible refine below_drewN ?_ _) | (with_reducible refine Below.drew ?_) | (with_reducible refine below_step (by assumption) ?_ ?_) | omega | (simp; done) | (simp; omega)))).sl (by omega) (by omega)).mono ?_)
  rintro e w8 ⟨rfl, b8⟩
  have z8 := b8.size
  (try simp at z8)
  have y8_0 : w1.heap.size < w8.heap.size := by omega
  have y8_1 : w2.heap.size < w8.heap.size := by omega
  have y8_2 : w6.heap.size < w8.heap.size := by omega
  have k8_0_0 : w8.cell? ⟨w1.heap.size, 0, none⟩ = some (.bool rs0) := by rw [(bxcell b8).1 _ _ (by first | omega | (simp; done) | (simp; omega))]; simp [go_sem, *]
  have k8_0_1 : w8.cell? ⟨w1.heap.size, 1, none⟩ = some (.slice A1 n1 c1) := by rw [(bxcell b8).1 _ _ (by first | omega | (simp; done) | (simp; omega))]; simp [go_sem, *]
  have k8_1_0 : w8.cell? ⟨w2.heap.size, 0, none⟩ = some (.bool rs0) := by rw [(bxcell b8).1 _ _ (by first | omega | (simp; done) | (simp; omega))]; simp [go_sem, *]
  have k8_1_1 : w8.cell? ⟨w2.heap.size, 1, none⟩ = some (.slice A2 n2 c2) := by rw [(bxcell b8).1 _ _ (by first | omega | (simp; done) | (simp; omega))]; simp [go_sem, *]
  have k8_2_0 : w8.cell? ⟨w6.heap.size, 0, none⟩ = some (.bool rs0) := by rw [(bxcell b8).1 _ _ (by first | omega | (simp; done) | (simp; omega))]; simp [go_sem, *]
  have k8_2_1 : w8.cell? ⟨w6.heap.size, 1, none⟩ = some (.slice A6 n6 c6) := by rw [(bxcell b8).1 _ _ (by first | omega | (simp; done) | (simp; omega))]; simp [go_sem, *]
  clear k7_0_0 k7_0_1 k7_1_0 k7_1_1 k7_2_0 k7_2_1 y7_0 y7_1 y7_2
  go_wp2
  go_ret
  exact ⟨rfl, (by repeat' (first | (with_reducible exact Below.refl _ _) | (with_reducible refine Below.alloc ?_ ?_ _) | (with_reducible refine Below.setCell ?_ ?_ _) | (with_reducible refine below_drewN ?_ _) | (with_reducible refine Below.drew ?_) | (with_reducible refine below_step (by assumption) ?_ ?_) | omega | (simp; done) | (simp; omega)))⟩
theorem fnExactParseBigInt.own : ownKnob Try.prog.godebug = none := by kernel_rfl
theorem fnExactParseBigInt.laidOut : laidOutB Try.prog = true := by kernel_rfl
set_option linter.unusedVariables false in
set_option maxRecDepth 100000 in
theorem fnExactParseBigInt.lifted (os : Os) (started : os.Started) (H : Type) (enc : TypeId × Value → H) :
    ReturnsInHanded {} Try.checked os 10 .any (Rows.fnExactParseBigIntSpec.pre6 enc Try.prog Try.f10 Rows.fnExactParseBigIntRow.domain false) (Rows.fnExactParseBigIntSpec.post enc Try.prog Try.f10 false true false false) := by
  refine returnsInHanded_of_change (C := Try.checked) fnExactParseBigInt.own started (by kernel_rfl) Try.func10
    (ChangeSpec.witness6 (enc := enc) (C := Try.checked) false ⟨#[], #[.string ByteArray.empty], []⟩ 8 (by kernel_rfl) (by kernel_rfl) (by kernel_rfl) (by kernel_rfl)) ?_
  intro W base args ds gs before hval0 hW hcnd _
  have hval : ∀ (j : Nat) t v, Try.f10.params[j]? = some t → args[j]? = some v → Value.okWide Try.prog W .any base t v := hval0
  have hW' := hW
  obtain ⟨p, q, hA0, hV, rfl, hfz, hnd⟩ := hW
  have hA : DataW.TrodAll enc Try.prog W 0 (fun _ => true) true Try.f10.params.toList args.toList ds p := hA0
  rw [Try.params10] at hA hval
  obtain ⟨v0, vs0, d0, ds0, p0, q0, hargs, rfl, rfl, h0, r0⟩ := trodAll_cons hA
  obtain ⟨rfl, rfl, rfl⟩ := trodAll_nil r0
  obtain rfl : args = #[v0] := by cases args; simp_all
  obtain ⟨rfl, rfl⟩ := trodVars_none hV
  have k0 := h0
  have lt0 : ∀ x ∈ p0, x.block < W.heap.size := by obtain ⟨m, hm⟩ := k0; exact DataW.trod_lt m _ _ _ hm
  obtain ⟨a0, rfl, l0⟩ := open_strL Try.underlying9 (hval 0 9 v0 rfl rfl) h0
  clear hA0 hval0
  refine (walk_FnExactParseBigInt W a0 l0).mono fun e W' ⟨he, bel⟩ => ?_
  subst he
  exact ⟨_, rfl, _, _, _, [], _, [], hW', trodAll_mk1 (shut_bool Try.underlying4 _), (trodAll_cons_mk (Below.trod fnExactParseBigInt.laidOut (by kernel_rfl) (of_decide_eq_true (by kernel_rfl)) k0 bel lt0) trodAll_mk0), rfl, bel.frame _, fun h => by cases h⟩
theorem fnExactParseBigInt.over : Rows.fnExactParseBigIntRow.holds Try.pinned (OpenSpec.ofChange Rows.fnExactParseBigIntSpec) :=
  OpenClaim.holds_of_wide 10 Try.f10 rfl rfl rfl rfl rfl rfl rfl ⟨rfl, rfl, rfl, rfl, rfl⟩ rfl rfl rfl rfl rfl (by kernel_rfl) Try.func10 (by kernel_rfl)
    (of_decide_eq_true (by kernel_rfl)) (by unfold Func.isWrapper; first | (rw [if_pos (by decide +kernel)]; kernel_rfl) | (rw [if_neg (by decide +kernel)]; exact ⟨rfl, rfl⟩))
    (fun os started H enc _ => fnExactParseBigInt.lifted os started H enc)
/-- THE STATEMENT. -/
theorem fnExactParseBigInt_holds : Rows.FnExactParseBigIntSaid := fnExactParseBigInt.over
#print axioms fnExactParseBigInt_holds
end Go.Proofs.Ythbpdlmcpgegpaa
