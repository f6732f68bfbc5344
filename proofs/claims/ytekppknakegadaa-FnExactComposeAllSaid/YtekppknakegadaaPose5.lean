/-
  Contracts: Compose, Inverse. Written by an AI agent.
-/
import Derived.Test.YtekppknakegadaaPose4
namespace Go.Proofs.Ytekppknakegadaa
open Go.RowKit


set_option maxHeartbeats 1000000 in
theorem impl_Compose (p q : P3) (w : World) :
    Calls Try.prog 20 #[.agg #[.int .i64 p.t, .int .i64 p.x, .int .i64 p.y], .agg #[.int .i64 q.t, .int .i64 q.x, .int .i64 q.y]] w fun e w' => e = .returned (comp p q).v ∧ Below w.heap.size w w' := by
  obtain ⟨⟨t, x, y⟩, hr⟩ : ∃ r, r = comp p q := ⟨_, rfl⟩
  have HR := Lib.hid hr; clear hr
  go_enter Try.func20, Try.ntmps20
  go_wp2_with fail
  refine (impl_composeOk p q _).mono ?_
  rintro e w1 ⟨rfl, b1⟩
  rw [← HR.out]
  unfold P3.v
  obtain ⟨hc, hf⟩ := bcell b1
  have hz := b1.size
  simp at hz
  have z_w1_0 : w.heap.size < w1.heap.size := (by omega); have z_w1_1 : w.heap.size + 1 < w1.heap.size := (by omega); have z_w1_2 : w.heap.size + 1 + 1 < w1.heap.size := (by omega)
  go_wp2_with fail
  exact bodyPost_ret (v := .agg #[.int .i64 t, .int .i64 x, .int .i64 y]) (by simp [results, Try.results20, go_sem, *]) rfl ⟨ret_p (p := ⟨t, x, y⟩) HR.out, (by repeat' (first | (with_reducible exact Below.refl _ _) | (with_reducible refine Below.alloc ?_ ?_ _) | (with_reducible refine Below.setCell ?_ ?_ _) | (with_reducible refine below_drewN ?_ _) | (with_reducible refine Below.drew ?_) | (with_reducible refine below_step b1 ?_ ?_) | omega | (simp; done) | (simp; omega)))⟩

set_option maxHeartbeats 1000000 in
theorem spec_Compose (p q : P3) (w : World) :
    Calls Try.prog 19 #[.agg #[.int .i64 p.t, .int .i64 p.x, .int .i64 p.y], .agg #[.int .i64 q.t, .int .i64 q.x, .int .i64 q.y]] w fun e w' => e = .returned (comp p q).v ∧ Below w.heap.size w w' := by
  obtain ⟨⟨t, x, y⟩, hr⟩ : ∃ r, r = comp p q := ⟨_, rfl⟩
  have HR := Lib.hid hr; clear hr
  go_enter Try.func19, Try.ntmps19
  go_wp2_with fail
  refine (spec_composeOk p q _).mono ?_
  rintro e w1 ⟨rfl, b1⟩
  rw [← HR.out]
  unfold P3.v
  obtain ⟨hc, hf⟩ := bcell b1
  have hz := b1.size
  simp at hz
  have z_w1_0 : w.heap.size < w1.heap.size := (by omega); have z_w1_1 : w.heap.size + 1 < w1.heap.size := (by omega); have z_w1_2 : w.heap.size + 1 + 1 < w1.heap.size := (by omega)
  go_wp2_with fail
  exact bodyPost_ret (v := .agg #[.int .i64 t, .int .i64 x, .int .i64 y]) (by simp [results, Try.results19, go_sem, *]) rfl ⟨ret_p (p := ⟨t, x, y⟩) HR.out, (by repeat' (first | (with_reducible exact Below.refl _ _) | (with_reducible refine Below.alloc ?_ ?_ _) | (with_reducible refine Below.setCell ?_ ?_ _) | (with_reducible refine below_drewN ?_ _) | (with_reducible refine Below.drew ?_) | (with_reducible refine below_step b1 ?_ ?_) | omega | (simp; done) | (simp; omega)))⟩

theorem inv_good {t x y : Int} {r : Int × Int} (hv : validB t x y = true) (hr : r = rotF (-x) (-y) ((4 - t) % 4)) : (⟨(4 - t) % 4, r.1, r.2⟩ : P3) = inv ⟨t, x, y⟩ := by
  subst hr
  unfold inv P3.ok
  rw [if_pos hv]


set_option maxHeartbeats 1000000 in
theorem impl_Inverse (p : P3) (w : World) :
    Calls Try.prog 17 #[.agg #[.int .i64 p.t, .int .i64 p.x, .int .i64 p.y]] w fun e w' => e = .returned (inv p).v ∧ Below w.heap.size w w' := by
  obtain ⟨t, x, y⟩ := p
  cases hv : validB t x y
  · go_enter Try.func17, Try.ntmps17
    go_wp2_with fail
    refine (impl_IsValidPose _ _ _ _).mono ?_
    rintro e w1 ⟨rfl, b1⟩
    obtain ⟨hc, hf⟩ := bcell b1
    have hz := b1.size
    simp at hz
    have z_w1_0 : w.heap.size < w1.heap.size := (by omega); have z_w1_1 : w.heap.size + 1 < w1.heap.size := (by omega)
    go_wp2_with fail
    exact bodyPost_ret (v := .agg #[.int .i64 0, .int .i64 0, .int .i64 0]) (by simp [results, Try.results17, go_sem, *]) rfl
      ⟨ret_p (p := ⟨0, 0, 0⟩) (by simp [inv, P3.ok, hv, P3.zero]), (by repeat' (first | (with_reducible exact Below.refl _ _) | (with_reducible refine Below.alloc ?_ ?_ _) | (with_reducible refine Below.setCell ?_ ?_ _) | (with_reducible refine below_drewN ?_ _) | (with_reducible refine Below.drew ?_) | (with_reducible refine below_step b1 ?_ ?_) | omega | (simp; done) | (simp; omega)))⟩
  · obtain ⟨t0, t3, x1, x2, y1, y2⟩ := validB_iff hv
    obtain ⟨⟨rx, ry⟩, hr⟩ : ∃ r, r = rotF (-x) (-y) ((4 - t) % 4) := ⟨_, rfl⟩
    have HR := Lib.hid hr; clear hr
    go_enter Try.func17, Try.ntmps17
    go_wp2_with fail
    refine (impl_IsValidPose _ _ _ _).mono ?_
    rintro e w1 ⟨rfl, b1⟩
    obtain ⟨hc, hf⟩ := bcell b1
    have hz := b1.size
    simp at hz
    have z_w1_0 : w.heap.size < w1.heap.size := (by omega); have z_w1_1 : w.heap.size + 1 < w1.heap.size := (by omega)
    go_wp2_with fail
    refine (impl_RotateXY _ _ _ _).mono ?_
    rintro e w2 ⟨rfl, b2⟩
    rw [show rotF (-x) (-y) (-t % 4) = (rx, ry) by rw [show -t % 4 = (4 - t) % 4 by omega]; exact HR.out.symm]
    have B2 := b1.trans (b2.mono b1.size)
    obtain ⟨hc2, hf2⟩ := bcell B2
    have hz2 := b2.size
    go_wp2_with fail
    exact bodyPost_ret (v := .agg #[.int .i64 ((4 - t) % 4), .int .i64 rx, .int .i64 ry]) (by simp [results, Try.results17, go_sem, *]) rfl
      ⟨ret_p (p := ⟨(4 - t) % 4, rx, ry⟩) (inv_good (r := (rx, ry)) hv HR.out), (by repeat' (first | (with_reducible exact Below.refl _ _) | (with_reducible refine Below.alloc ?_ ?_ _) | (with_reducible refine Below.setCell ?_ ?_ _) | (with_reducible refine below_drewN ?_ _) | (with_reducible refine Below.drew ?_) | (with_reducible refine below_step b1 ?_ ?_) | (with_reducible refine below_step b2 ?_ ?_) | omega | (simp; done) | (simp; omega)))⟩

set_option maxHeartbeats 1000000 in
theorem spec_Inverse (p : P3) (w : World) :
    Calls Try.prog 15 #[.agg #[.int .i64 p.t, .int .i64 p.x, .int .i64 p.y]] w fun e w' => e = .returned (inv p).v ∧ Below w.heap.size w w' := by
  obtain ⟨t, x, y⟩ := p
  cases hv : validB t x y
  · go_enter Try.func15, Try.ntmps15
    go_wp2_with fail
    refine (spec_IsValidPose _ _ _ _).mono ?_
    rintro e w1 ⟨rfl, b1⟩
    obtain ⟨hc, hf⟩ := bcell b1
    have hz := b1.size
    simp at hz
    have z_w1_0 : w.heap.size < w1.heap.size := (by omega); have z_w1_1 : w.heap.size + 1 < w1.heap.size := (by omega)
    go_wp2_with fail
    exact bodyPost_ret (v := .agg #[.int .i64 0, .int .i64 0, .int .i64 0]) (by simp [results, Try.results15, go_sem, *]) rfl
      ⟨ret_p (p := ⟨0, 0, 0⟩) (by simp [inv, P3.ok, hv, P3.zero]), (by repeat' (first | (with_reducible exact Below.refl _ _) | (with_reducible refine Below.alloc ?_ ?_ _) | (with_reducible refine Below.setCell ?_ ?_ _) | (with_reducible refine below_drewN ?_ _) | (with_reducible refine Below.drew ?_) | (with_reducible refine below_step b1 ?_ ?_) | omega | (simp; done) | (simp; omega)))⟩
  · obtain ⟨t0, t3, x1, x2, y1, y2⟩ := validB_iff hv
    obtain ⟨⟨rx, ry⟩, hr⟩ : ∃ r, r = rotF (-x) (-y) ((4 - t) % 4) := ⟨_, rfl⟩
    have HR := Lib.hid hr; clear hr
    go_enter Try.func15, Try.ntmps15
    go_wp2_with fail
    refine (spec_IsValidPose _ _ _ _).mono ?_
    rintro e w1 ⟨rfl, b1⟩
    obtain ⟨hc, hf⟩ := bcell b1
    have hz := b1.size
    simp at hz
    have z_w1_0 : w.heap.size < w1.heap.size := (by omega); have z_w1_1 : w.heap.size + 1 < w1.heap.size := (by omega)
    go_wp2_with fail
    refine (spec_RotateXY _ _ _ _).mono ?_
    rintro e w2 ⟨rfl, b2⟩
    rw [show rotF (-x) (-y) (-t % 4) = (rx, ry) by rw [show -t % 4 = (4 - t) % 4 by omega]; exact HR.out.symm]
    have B2 := b1.trans (b2.mono b1.size)
    obtain ⟨hc2, hf2⟩ := bcell B2
    have hz2 := b2.size
    go_wp2_with fail
    exact bodyPost_ret (v := .agg #[.int .i64 ((4 - t) % 4), .int .i64 rx, .int .i64 ry]) (by simp [results, Try.results15, go_sem, *]) rfl
      ⟨ret_p (p := ⟨(4 - t) % 4, rx, ry⟩) (inv_good (r := (rx, ry)) hv HR.out), (by repeat' (first | (with_reducible exact Below.refl _ _) | (with_reducible refine Below.alloc ?_ ?_ _) | (with_reducible refine Below.setCell ?_ ?_ _) | (with_reducible refine below_drewN ?_ _) | (with_reducible refine Below.drew ?_) | (with_reducible refine below_step b1 ?_ ?_) | (with_reducible refine below_step b2 ?_ ?_) | omega | (simp; done) | (simp; omega)))⟩


theorem impl_ComposeR (p q r : P3) (hr : r = comp p q) (w : World) :
    Calls Try.prog 20 #[.agg #[.int .i64 p.t, .int .i64 p.x, .int .i64 p.y], .agg #[.int .i64 q.t, .int .i64 q.x, .int .i64 q.y]] w fun e w' => e = .returned (.agg #[.int .i64 r.t, .int .i64 r.x, .int .i64 r.y]) ∧ Below w.heap.size w w' := by
  subst hr
  exact impl_Compose p q w
theorem impl_InverseR (p r : P3) (hr : r = inv p) (w : World) :
    Calls Try.prog 17 #[.agg #[.int .i64 p.t, .int .i64 p.x, .int .i64 p.y]] w fun e w' => e = .returned (.agg #[.int .i64 r.t, .int .i64 r.x, .int .i64 r.y]) ∧ Below w.heap.size w w' := by
  subst hr
  exact impl_Inverse p w

theorem spec_ComposeR (p q r : P3) (hr : r = comp p q) (w : World) :
    Calls Try.prog 19 #[.agg #[.int .i64 p.t, .int .i64 p.x, .int .i64 p.y], .agg #[.int .i64 q.t, .int .i64 q.x, .int .i64 q.y]] w fun e w' => e = .returned (.agg #[.int .i64 r.t, .int .i64 r.x, .int .i64 r.y]) ∧ Below w.heap.size w w' := by
  subst hr
  exact spec_Compose p q w
theorem spec_InverseR (p r : P3) (hr : r = inv p) (w : World) :
    Calls Try.prog 15 #[.agg #[.int .i64 p.t, .int .i64 p.x, .int .i64 p.y]] w fun e w' => e = .returned (.agg #[.int .i64 r.t, .int .i64 r.x, .int .i64 r.y]) ∧ Below w.heap.size w w' := by
  subst hr
  exact spec_Inverse p w

end Go.Proofs.Ytekppknakegadaa
