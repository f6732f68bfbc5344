/-
  Contracts: composing and inverting poses. Written by an AI agent.
-/
import Derived.Test.YtekppknakegadaaPose3
namespace Go.Proofs.Ytekppknakegadaa
open Go.RowKit

theorem bcell {W w1 : World} (hb : Below W.heap.size W w1) : (∀ b o, b < W.heap.size → w1.cell? ⟨b, o, none⟩ = W.cell? ⟨b, o, none⟩) ∧ (∀ b o, b < W.heap.size → w1.frozen? ⟨b, o, none⟩ = W.frozen? ⟨b, o, none⟩) :=
  ⟨fun b o h => hb.cell (p := ⟨b, o, none⟩) h, fun b o h => hb.frozen (p := ⟨b, o, none⟩) h⟩

structure P3 where
  t : Int
  x : Int
  y : Int
def P3.v (p : P3) : Value := .agg #[.int .i64 p.t, .int .i64 p.x, .int .i64 p.y]
def P3.ok (p : P3) : Bool := validB p.t p.x p.y
def P3.zero : P3 := ⟨0, 0, 0⟩
/-- The composition as the text computes it, ahead of its own check. -/
def compRaw (p q : P3) : P3 := ⟨(p.t + q.t) % 4, p.x + (rotF q.x q.y p.t).1, p.y + (rotF q.x q.y p.t).2⟩
def compOk (p q : P3) : Bool := p.ok && q.ok && (compRaw p q).ok
def comp (p q : P3) : P3 := if compOk p q = true then compRaw p q else P3.zero
def inv (p : P3) : P3 := if p.ok = true then ⟨(4 - p.t) % 4, (rotF (-p.x) (-p.y) ((4 - p.t) % 4)).1, (rotF (-p.x) (-p.y) ((4 - p.t) % 4)).2⟩ else P3.zero

theorem rotF_in (x y t : Int) : -1000000 ≤ (rotF x y t).1 ∧ (rotF x y t).1 ≤ 1000000 ∧ -1000000 ≤ (rotF x y t).2 ∧ (rotF x y t).2 ≤ 1000000 := by
  unfold rotF
  split
  · rename_i h
    obtain ⟨_, _, a, b, c, d⟩ := validB_iff h
    exact rotN_in _ (x, y) a b c d
  · simp

theorem rem_four (n : Int) : n % 4 % 4 = n % 4 := by omega
/-- What a pose as result and a bool read as. -/
theorem ret_pb {p q : P3} {a b : Bool} (h : p = q) (k : a = b) : Ending.returned (.tuple #[.agg #[.int .i64 p.t, .int .i64 p.x, .int .i64 p.y], .bool a]) = .returned (.tuple #[q.v, .bool b]) := by rw [h, k]; rfl
theorem ret_p {p q : P3} (h : p = q) : Ending.returned (.agg #[.int .i64 p.t, .int .i64 p.x, .int .i64 p.y]) = .returned q.v := by rw [h]; rfl


set_option maxHeartbeats 1000000 in
theorem impl_composeOk (p q : P3) (w : World) :
    Calls Try.prog 64 #[.agg #[.int .i64 p.t, .int .i64 p.x, .int .i64 p.y], .agg #[.int .i64 q.t, .int .i64 q.x, .int .i64 q.y]] w fun e w' => e = .returned (.tuple #[(comp p q).v, .bool (compOk p q)]) ∧ Below w.heap.size w w' := by
  obtain ⟨t, x, y⟩ := p
  obtain ⟨t', x', y'⟩ := q
  cases hv : validB t x y
  · go_enter Try.func64, Try.ntmps64
    go_wp2_with fail
    refine (impl_IsValidPose _ _ _ _).mono ?_
    rintro e w1 ⟨rfl, b1⟩
    obtain ⟨hc, hf⟩ := bcell b1
    have hz := b1.size
    simp at hz
    go_wp2_with fail
    exact bodyPost_ret (v := .tuple #[.agg #[.int .i64 0, .int .i64 0, .int .i64 0], .bool false]) (by simp [results, Try.results64, go_sem, *]) rfl
      ⟨ret_pb (p := ⟨0, 0, 0⟩) (by simp [comp, compOk, P3.ok, hv, P3.zero]) (by simp [compOk, P3.ok, hv]), (by repeat' (first | (with_reducible exact Below.refl _ _) | (with_reducible refine Below.alloc ?_ ?_ _) | (with_reducible refine Below.setCell ?_ ?_ _) | (with_reducible refine below_drewN ?_ _) | (with_reducible refine Below.drew ?_) | (with_reducible refine below_step b1 ?_ ?_) | omega | (simp; done) | (simp; omega)))⟩
  cases hv2 : validB t' x' y'
  · go_enter Try.func64, Try.ntmps64
    go_wp2_with fail
    refine (impl_IsValidPose _ _ _ _).mono ?_
    rintro e w1 ⟨rfl, b1⟩
    obtain ⟨hc, hf⟩ := bcell b1
    have hz := b1.size
    simp at hz
    go_wp2_with fail
    refine (impl_IsValidPose _ _ _ _).mono ?_
    rintro e w2 ⟨rfl, b2⟩
    have B2 := b1.trans (b2.mono b1.size)
    obtain ⟨hc2, hf2⟩ := bcell B2
    have hz2 := b2.size
    go_wp2_with fail
    exact bodyPost_ret (v := .tuple #[.agg #[.int .i64 0, .int .i64 0, .int .i64 0], .bool false]) (by simp [results, Try.results64, go_sem, *]) rfl
      ⟨ret_pb (p := ⟨0, 0, 0⟩) (by simp [comp, compOk, P3.ok, hv2, P3.zero]) (by simp [compOk, P3.ok, hv2]), (by repeat' (first | (with_reducible exact Below.refl _ _) | (with_reducible refine Below.alloc ?_ ?_ _) | (with_reducible refine Below.setCell ?_ ?_ _) | (with_reducible refine below_drewN ?_ _) | (with_reducible refine Below.drew ?_) | (with_reducible refine below_step b1 ?_ ?_) | (with_reducible refine below_step b2 ?_ ?_) | omega | (simp; done) | (simp; omega)))⟩
  obtain ⟨t0, t3, x1, x2, y1, y2⟩ := validB_iff hv
  obtain ⟨u0, u3, _, _, _, _⟩ := validB_iff hv2
  have hrot := rotF_in x' y' t
  obtain ⟨⟨rx, ry⟩, hr⟩ : ∃ r, r = rotF x' y' t := ⟨_, rfl⟩
  rw [← hr] at hrot
  obtain ⟨r1, r2, r3, r4⟩ := hrot
  simp only at r1 r2 r3 r4
  have HRT := Lib.hid hr; clear hr
  have hw : -9223372036854775808 ≤ (t + t') % 4 := by omega
  cases hv3 : validB ((t + t') % 4) (x + rx) (y + ry)
  · have HR := Lib.hid (show compOk ⟨t, x, y⟩ ⟨t', x', y'⟩ = false by simp [compOk, P3.ok, compRaw, hv, hv2, ← HRT.out, hv3])
    go_enter Try.func64, Try.ntmps64
    go_wp2_with fail
    refine (impl_IsValidPose _ _ _ _).mono ?_
    rintro e w1 ⟨rfl, b1⟩
    obtain ⟨hc, hf⟩ := bcell b1
    have hz := b1.size
    simp at hz
    go_wp2_with fail
    refine (impl_IsValidPose _ _ _ _).mono ?_
    rintro e w2 ⟨rfl, b2⟩
    have B2 := b1.trans (b2.mono b1.size)
    obtain ⟨hc2, hf2⟩ := bcell B2
    have hz2 := b2.size
    go_wp2_with fail
    refine (impl_RotateXY _ _ _ _).mono ?_
    rintro e w3 ⟨rfl, b3⟩
    rw [← HRT.out]
    have B3 := B2.trans (b3.mono B2.size)
    obtain ⟨hc3, hf3⟩ := bcell B3
    have hz3 := b3.size
    have z0 : w.heap.size < w3.heap.size := by omega
    have z1 : w.heap.size + 1 < w3.heap.size := by omega
    have z2 : w.heap.size + 1 + 1 < w3.heap.size := by omega
    go_wp2_with fail
    refine (impl_IsValidPose _ _ _ _).mono ?_
    rintro e w4 ⟨rfl, b4⟩
    obtain ⟨hc4, hf4⟩ := bcell b4
    have hz4 := b4.size
    simp at hz4
    have z3 : w.heap.size < w3.heap.size + 1 := by omega
    have z4 : w.heap.size + 1 < w3.heap.size + 1 := by omega
    have z5 : w.heap.size + 1 + 1 < w3.heap.size + 1 := by omega
    go_wp2_with fail
    exact bodyPost_ret (v := .tuple #[.agg #[.int .i64 0, .int .i64 0, .int .i64 0], .bool false]) (by simp [results, Try.results64, go_sem, *]) rfl
      ⟨ret_pb (p := ⟨0, 0, 0⟩) (by simp [comp, HR.out, P3.zero]) HR.out.symm, (by repeat' (first | (with_reducible exact Below.refl _ _) | (with_reducible refine Below.alloc ?_ ?_ _) | (with_reducible refine Below.setCell ?_ ?_ _) | (with_reducible refine below_drewN ?_ _) | (with_reducible refine Below.drew ?_) | (with_reducible refine below_step b1 ?_ ?_) | (with_reducible refine below_step b2 ?_ ?_) | (with_reducible refine below_step b3 ?_ ?_) | (with_reducible refine below_step b4 ?_ ?_) | omega | (simp; done) | (simp; omega)))⟩
  · have HR := Lib.hid (show compOk ⟨t, x, y⟩ ⟨t', x', y'⟩ = true by simp [compOk, P3.ok, compRaw, hv, hv2, ← HRT.out, hv3])
    go_enter Try.func64, Try.ntmps64
    go_wp2_with fail
    refine (impl_IsValidPose _ _ _ _).mono ?_
    rintro e w1 ⟨rfl, b1⟩
    obtain ⟨hc, hf⟩ := bcell b1
    have hz := b1.size
    simp at hz
    go_wp2_with fail
    refine (impl_IsValidPose _ _ _ _).mono ?_
    rintro e w2 ⟨rfl, b2⟩
    have B2 := b1.trans (b2.mono b1.size)
    obtain ⟨hc2, hf2⟩ := bcell B2
    have hz2 := b2.size
    go_wp2_with fail
    refine (impl_RotateXY _ _ _ _).mono ?_
    rintro e w3 ⟨rfl, b3⟩
    rw [← HRT.out]
    have B3 := B2.trans (b3.mono B2.size)
    obtain ⟨hc3, hf3⟩ := bcell B3
    have hz3 := b3.size
    have z0 : w.heap.size < w3.heap.size := by omega
    have z1 : w.heap.size + 1 < w3.heap.size := by omega
    have z2 : w.heap.size + 1 + 1 < w3.heap.size := by omega
    go_wp2_with fail
    refine (impl_IsValidPose _ _ _ _).mono ?_
    rintro e w4 ⟨rfl, b4⟩
    obtain ⟨hc4, hf4⟩ := bcell b4
    have hz4 := b4.size
    simp at hz4
    have z3 : w.heap.size < w3.heap.size + 1 := by omega
    have z4 : w.heap.size + 1 < w3.heap.size + 1 := by omega
    have z5 : w.heap.size + 1 + 1 < w3.heap.size + 1 := by omega
    go_wp2_with fail
    exact bodyPost_ret (v := .tuple #[.agg #[.int .i64 ((t + t') % 4), .int .i64 (x + rx), .int .i64 (y + ry)], .bool true]) (by simp [results, Try.results64, go_sem, *]) rfl
      ⟨ret_pb (p := ⟨(t + t') % 4, x + rx, y + ry⟩) (by simp [comp, HR.out, compRaw, ← HRT.out]) HR.out.symm, (by repeat' (first | (with_reducible exact Below.refl _ _) | (with_reducible refine Below.alloc ?_ ?_ _) | (with_reducible refine Below.setCell ?_ ?_ _) | (with_reducible refine below_drewN ?_ _) | (with_reducible refine Below.drew ?_) | (with_reducible refine below_step b1 ?_ ?_) | (with_reducible refine below_step b2 ?_ ?_) | (with_reducible refine below_step b3 ?_ ?_) | (with_reducible refine below_step b4 ?_ ?_) | omega | (simp; done) | (simp; omega)))⟩

set_option maxHeartbeats 1000000 in
theorem spec_composeOk (p q : P3) (w : World) :
    Calls Try.prog 63 #[.agg #[.int .i64 p.t, .int .i64 p.x, .int .i64 p.y], .agg #[.int .i64 q.t, .int .i64 q.x, .int .i64 q.y]] w fun e w' => e = .returned (.tuple #[(comp p q).v, .bool (compOk p q)]) ∧ Below w.heap.size w w' := by
  obtain ⟨t, x, y⟩ := p
  obtain ⟨t', x', y'⟩ := q
  cases hv : validB t x y
  · go_enter Try.func63, Try.ntmps63
    go_wp2_with fail
    refine (spec_IsValidPose _ _ _ _).mono ?_
    rintro e w1 ⟨rfl, b1⟩
    obtain ⟨hc, hf⟩ := bcell b1
    have hz := b1.size
    simp at hz
    go_wp2_with fail
    exact bodyPost_ret (v := .tuple #[.agg #[.int .i64 0, .int .i64 0, .int .i64 0], .bool false]) (by simp [results, Try.results63, go_sem, *]) rfl
      ⟨ret_pb (p := ⟨0, 0, 0⟩) (by simp [comp, compOk, P3.ok, hv, P3.zero]) (by simp [compOk, P3.ok, hv]), (by repeat' (first | (with_reducible exact Below.refl _ _) | (with_reducible refine Below.alloc ?_ ?_ _) | (with_reducible refine Below.setCell ?_ ?_ _) | (with_reducible refine below_drewN ?_ _) | (with_reducible refine Below.drew ?_) | (with_reducible refine below_step b1 ?_ ?_) | omega | (simp; done) | (simp; omega)))⟩
  cases hv2 : validB t' x' y'
  · go_enter Try.func63, Try.ntmps63
    go_wp2_with fail
    refine (spec_IsValidPose _ _ _ _).mono ?_
    rintro e w1 ⟨rfl, b1⟩
    obtain ⟨hc, hf⟩ := bcell b1
    have hz := b1.size
    simp at hz
    go_wp2_with fail
    refine (spec_IsValidPose _ _ _ _).mono ?_
    rintro e w2 ⟨rfl, b2⟩
    have B2 := b1.trans (b2.mono b1.size)
    obtain ⟨hc2, hf2⟩ := bcell B2
    have hz2 := b2.size
    go_wp2_with fail
    exact bodyPost_ret (v := .tuple #[.agg #[.int .i64 0, .int .i64 0, .int .i64 0], .bool false]) (by simp [results, Try.results63, go_sem, *]) rfl
      ⟨ret_pb (p := ⟨0, 0, 0⟩) (by simp [comp, compOk, P3.ok, hv2, P3.zero]) (by simp [compOk, P3.ok, hv2]), (by repeat' (first | (with_reducible exact Below.refl _ _) | (with_reducible refine Below.alloc ?_ ?_ _) | (with_reducible refine Below.setCell ?_ ?_ _) | (with_reducible refine below_drewN ?_ _) | (with_reducible refine Below.drew ?_) | (with_reducible refine below_step b1 ?_ ?_) | (with_reducible refine below_step b2 ?_ ?_) | omega | (simp; done) | (simp; omega)))⟩
  obtain ⟨t0, t3, x1, x2, y1, y2⟩ := validB_iff hv
  obtain ⟨u0, u3, _, _, _, _⟩ := validB_iff hv2
  have hrot := rotF_in x' y' t
  obtain ⟨⟨rx, ry⟩, hr⟩ : ∃ r, r = rotF x' y' t := ⟨_, rfl⟩
  rw [← hr] at hrot
  obtain ⟨r1, r2, r3, r4⟩ := hrot
  simp only at r1 r2 r3 r4
  have HRT := Lib.hid hr; clear hr
  have hw : -9223372036854775808 ≤ (t + t') % 4 := by omega
  cases hv3 : validB ((t + t') % 4) (x + rx) (y + ry)
  · have HR := Lib.hid (show compOk ⟨t, x, y⟩ ⟨t', x', y'⟩ = false by simp [compOk, P3.ok, compRaw, hv, hv2, ← HRT.out, hv3])
    go_enter Try.func63, Try.ntmps63
    go_wp2_with fail
    refine (spec_IsValidPose _ _ _ _).mono ?_
    rintro e w1 ⟨rfl, b1⟩
    obtain ⟨hc, hf⟩ := bcell b1
    have hz := b1.size
    simp at hz
    go_wp2_with fail
    refine (spec_IsValidPose _ _ _ _).mono ?_
    rintro e w2 ⟨rfl, b2⟩
    have B2 := b1.trans (b2.mono b1.size)
    obtain ⟨hc2, hf2⟩ := bcell B2
    have hz2 := b2.size
    go_wp2_with fail
    refine (spec_RotateXY _ _ _ _).mono ?_
    rintro e w3 ⟨rfl, b3⟩
    rw [← HRT.out]
    have B3 := B2.trans (b3.mono B2.size)
    obtain ⟨hc3, hf3⟩ := bcell B3
    have hz3 := b3.size
    have z0 : w.heap.size < w3.heap.size := by omega
    have z1 : w.heap.size + 1 < w3.heap.size := by omega
    have z2 : w.heap.size + 1 + 1 < w3.heap.size := by omega
    go_wp2_with fail
    refine (spec_IsValidPose _ _ _ _).mono ?_
    rintro e w4 ⟨rfl, b4⟩
    obtain ⟨hc4, hf4⟩ := bcell b4
    have hz4 := b4.size
    simp at hz4
    have z3 : w.heap.size < w3.heap.size + 1 := by omega
    have z4 : w.heap.size + 1 < w3.heap.size + 1 := by omega
    have z5 : w.heap.size + 1 + 1 < w3.heap.size + 1 := by omega
    go_wp2_with fail
    exact bodyPost_ret (v := .tuple #[.agg #[.int .i64 0, .int .i64 0, .int .i64 0], .bool false]) (by simp [results, Try.results63, go_sem, *]) rfl
      ⟨ret_pb (p := ⟨0, 0, 0⟩) (by simp [comp, HR.out, P3.zero]) HR.out.symm, (by repeat' (first | (with_reducible exact Below.refl _ _) | (with_reducible refine Below.alloc ?_ ?_ _) | (with_reducible refine Below.setCell ?_ ?_ _) | (with_reducible refine below_drewN ?_ _) | (with_reducible refine Below.drew ?_) | (with_reducible refine below_step b1 ?_ ?_) | (with_reducible refine below_step b2 ?_ ?_) | (with_reducible refine below_step b3 ?_ ?_) | (with_reducible refine below_step b4 ?_ ?_) | omega | (simp; done) | (simp; omega)))⟩
  · have HR := Lib.hid (show compOk ⟨t, x, y⟩ ⟨t', x', y'⟩ = true by simp [compOk, P3.ok, compRaw, hv, hv2, ← HRT.out, hv3])
    go_enter Try.func63, Try.ntmps63
    go_wp2_with fail
    refine (spec_IsValidPose _ _ _ _).mono ?_
    rintro e w1 ⟨rfl, b1⟩
    obtain ⟨hc, hf⟩ := bcell b1
    have hz := b1.size
    simp at hz
    go_wp2_with fail
    refine (spec_IsValidPose _ _ _ _).mono ?_
    rintro e w2 ⟨rfl, b2⟩
    have B2 := b1.trans (b2.mono b1.size)
    obtain ⟨hc2, hf2⟩ := bcell B2
    have hz2 := b2.size
    go_wp2_with fail
    refine (spec_RotateXY _ _ _ _).mono ?_
    rintro e w3 ⟨rfl, b3⟩
    rw [← HRT.out]
    have B3 := B2.trans (b3.mono B2.size)
    obtain ⟨hc3, hf3⟩ := bcell B3
    have hz3 := b3.size
    have z0 : w.heap.size < w3.heap.size := by omega
    have z1 : w.heap.size + 1 < w3.heap.size := by omega
    have z2 : w.heap.size + 1 + 1 < w3.heap.size := by omega
    go_wp2_with fail
    refine (spec_IsValidPose _ _ _ _).mono ?_
    rintro e w4 ⟨rfl, b4⟩
    obtain ⟨hc4, hf4⟩ := bcell b4
    have hz4 := b4.size
    simp at hz4
    have z3 : w.heap.size < w3.heap.size + 1 := by omega
    have z4 : w.heap.size + 1 < w3.heap.size + 1 := by omega
    have z5 : w.heap.size + 1 + 1 < w3.heap.size + 1 := by omega
    go_wp2_with fail
    exact bodyPost_ret (v := .tuple #[.agg #[.int .i64 ((t + t') % 4), .int .i64 (x + rx), .int .i64 (y + ry)], .bool true]) (by simp [results, Try.results63, go_sem, *]) rfl
      ⟨ret_pb (p := ⟨(t + t') % 4, x + rx, y + ry⟩) (by simp [comp, HR.out, compRaw, ← HRT.out]) HR.out.symm, (by repeat' (first | (with_reducible exact Below.refl _ _) | (with_reducible refine Below.alloc ?_ ?_ _) | (with_reducible refine Below.setCell ?_ ?_ _) | (with_reducible refine below_drewN ?_ _) | (with_reducible refine Below.drew ?_) | (with_reducible refine below_step b1 ?_ ?_) | (with_reducible refine below_step b2 ?_ ?_) | (with_reducible refine below_step b3 ?_ ?_) | (with_reducible refine below_step b4 ?_ ?_) | omega | (simp; done) | (simp; omega)))⟩

end Go.Proofs.Ytekppknakegadaa
