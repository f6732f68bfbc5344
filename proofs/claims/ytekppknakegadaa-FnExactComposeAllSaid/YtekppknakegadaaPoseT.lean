/-
  Contracts: ComposeAll. Written by an AI agent.
-/
import Derived.Test.YtekppknakegadaaPoseS
namespace Go.Proofs.Ytekppknakegadaa
open Go.RowKit

theorem impl_ComposeAll (v : Value) (ps : List P3) (r : P3) (hr : r = (compFrom P3.zero ps).1) (w : World) (h : SlP w v ps) :
    Calls Try.prog 26 #[v] w fun e w' => e = .returned (.agg #[.int .i64 r.t, .int .i64 r.x, .int .i64 r.y]) ∧ Below w.heap.size w w' := by
  obtain ⟨t, x, y⟩ := r
  obtain ⟨ok, hok⟩ : ∃ b, b = (compFrom P3.zero ps).2 := ⟨_, rfl⟩
  have HR := Lib.hid hr
  have HK := Lib.hid hok
  clear hr hok
  go_enter Try.func26, Try.ntmps26
  go_wp2_with fail
  refine (impl_composeAllOk v ps _ (h.below (by repeat' (first | (with_reducible exact Below.refl _ _) | (with_reducible refine Below.alloc ?_ ?_ _) | (with_reducible refine Below.setCell ?_ ?_ _) | (with_reducible refine below_drewN ?_ _) | (with_reducible refine Below.drew ?_) | (with_reducible refine below_step (by assumption) ?_ ?_) | omega | (simp; done) | (simp; omega))))).mono ?_
  rintro e w1 ⟨rfl, b1⟩
  rw [← HR.out, ← HK.out]
  unfold P3.v
  obtain ⟨hc, hf⟩ := bcell b1
  have hz := b1.size
  simp at hz
  have z_w1_0 : w.heap.size < w1.heap.size := (by omega)
  go_wp2_with fail
  exact bodyPost_ret (v := .agg #[.int .i64 t, .int .i64 x, .int .i64 y]) (by simp [results, Try.results26, go_sem, *]) rfl ⟨rfl, (by repeat' (first | (with_reducible exact Below.refl _ _) | (with_reducible refine Below.alloc ?_ ?_ _) | (with_reducible refine Below.setCell ?_ ?_ _) | (with_reducible refine below_drewN ?_ _) | (with_reducible refine Below.drew ?_) | (with_reducible refine below_step (by assumption) ?_ ?_) | omega | (simp; done) | (simp; omega)))⟩

set_option maxHeartbeats 2000000 in
theorem spec_ComposeAll (v : Value) (ps : List P3) (r : P3) (hr : r = (compFrom P3.zero ps).1) (w : World) (h : SlP w v ps) :
    Calls Try.prog 24 #[v] w fun e w' => e = .returned (.agg #[.int .i64 r.t, .int .i64 r.x, .int .i64 r.y]) ∧ Below w.heap.size w w' := by
  obtain ⟨A, c, rfl, h1, h2, h3⟩ := h
  have hm : ps.length ≤ 9223372036854775807 := by unfold maxLen at h2; omega
  have HF := Lib.hid hr; clear hr
  go_enter Try.func24, Try.ntmps24
  go_wp2
  go_loopw [11] (fun i wr => ∃ k : Nat, k ≤ ps.length ∧ i = .int .i64 k ∧ Below w.heap.size w wr ∧ Blk wr w.heap.size 24 #[.int .i64 0, .int .i64 0, .int .i64 0] ∧
      ∃ p : P3, Blk wr (w.heap.size + 1) 24 #[.int .i64 p.t, .int .i64 p.x, .int .i64 p.y] ∧ compFrom P3.zero ps = compFrom p (ps.drop k)) (fun i _ => ps.length - (intOf i).toNat)
  case atStart => exact ⟨0, Nat.zero_le _, rfl, (by repeat' (first | (with_reducible exact Below.refl _ _) | (with_reducible refine Below.alloc ?_ ?_ _) | (with_reducible refine Below.setCell ?_ ?_ _) | (with_reducible refine below_drewN ?_ _) | (with_reducible refine Below.drew ?_) | (with_reducible refine below_step (by assumption) ?_ ?_) | omega | (simp; done) | (simp; omega))), (Blk.new _ _ _).alloc _, P3.zero, Blk.newAt _ _ _ (by simp), rfl⟩
  case round =>
    obtain ⟨k, hk, rfl, hb, hB0, p, hB1, heq⟩ := hrel
    obtain ⟨t, x, y⟩ := p
    have HE := Lib.hid heq; clear heq
    have s0 := hB0.lt
    have s1 := hB1.lt
    have nn := Nat.ne_of_lt s0
    have mm := (Nat.ne_of_lt s0).symm
    have f0 := hB0.frozen
    have f1 := hB1.frozen
    have c00 := hB0.cell 0
    have c01 := hB0.cell 1
    have c02 := hB0.cell 2
    have c10 := hB1.cell 0
    have c11 := hB1.cell 1
    have c12 := hB1.cell 2
    simp at c00 c01 c02 c10 c11 c12
    have HB0 := Lib.hid hB0
    have HB1 := Lib.hid hB1
    clear hB0 hB1
    by_cases hlt : k < ps.length
    · obtain ⟨b, off, rfl, hc⟩ := h3 (by omega)
      obtain ⟨q, hq⟩ : ∃ q, ps[k]? = some q := ⟨_, List.getElem?_eq_getElem hlt⟩
      obtain ⟨q0, q1, q2⟩ := hc k q hq
      have r0 := (hb.cell (World.block_lt_of_cell? w _ q0)).trans q0
      have r1 := (hb.cell (World.block_lt_of_cell? w _ q1)).trans q1
      have r2 := (hb.cell (World.block_lt_of_cell? w _ q2)).trans q2
      have HQ := Lib.hid hq
      obtain ⟨t', x', y'⟩ := q
      obtain ⟨⟨ct, cx, cy⟩, hr⟩ : ∃ r, r = comp ⟨t, x, y⟩ ⟨t', x', y'⟩ := ⟨_, rfl⟩
      have HR := Lib.hid hr; clear hr hq q0 q1 q2 h3 hc
      go_wp2_with fail
      refine (spec_composeOkR ⟨t, x, y⟩ ⟨t', x', y'⟩ ⟨ct, cx, cy⟩ HR.out _).mono ?_
      rintro e w2 ⟨rfl, b2⟩
      obtain ⟨hc2, hf2⟩ := bcell b2
      have hz2 := b2.size
      simp at hz2
      have y0 : w.heap.size < wr.heap.size + 1 := by omega
      have y1 : w.heap.size + 1 < wr.heap.size + 1 := by omega
      have y2 : w.heap.size < w2.heap.size := by omega
      have y3 : w.heap.size + 1 < w2.heap.size := by omega
      have HB2 : Blk w2 w.heap.size 24 #[.int .i64 0, .int .i64 0, .int .i64 0] := (HB0.out.alloc _).below b2 (by simp; omega)
      have HB3 : Blk w2 (w.heap.size + 1) 24 #[.int .i64 t, .int .i64 x, .int .i64 y] := (HB1.out.alloc _).below b2 (by simp; omega)
      have HC := Lib.hid HB2
      have HD := Lib.hid HB3
      clear HB2 HB3
      cases hok : compOk ⟨t, x, y⟩ ⟨t', x', y'⟩ with
      | false =>
        go_wp2_with fail
        exact bodyPost_ret (v := .agg #[.int .i64 0, .int .i64 0, .int .i64 0]) (by go_light; simp [results, Try.results24, go_sem, hc2, s0, y0, y2, c00, c01, c02]) rfl
          ⟨ret_pz (by rw [HF.out, HE.out, compFrom_bad HQ.out hok]; rfl), (by repeat' (first | (with_reducible exact Below.refl _ _) | (with_reducible refine Below.alloc ?_ ?_ _) | (with_reducible refine Below.setCell ?_ ?_ _) | (with_reducible refine below_drewN ?_ _) | (with_reducible refine Below.drew ?_) | (with_reducible refine below_step (by assumption) ?_ ?_) | omega | (simp; done) | (simp; omega)))⟩
      | true =>
        go_wp2_with fail
        go_roundw
        case rel =>
          refine ⟨k + 1, by omega, by go_num, (by repeat' (first | (with_reducible exact Below.refl _ _) | (with_reducible refine Below.alloc ?_ ?_ _) | (with_reducible refine Below.setCell ?_ ?_ _) | (with_reducible refine below_drewN ?_ _) | (with_reducible refine Below.drew ?_) | (with_reducible refine below_step (by assumption) ?_ ?_) | omega | (simp; done) | (simp; omega))), ?_, ⟨ct, cx, cy⟩, ?_, by rw [HE.out, compFrom_good HQ.out hok, HR.out]⟩
          · exact (((HC.out.far (by simp) _).far (by simp) _).far (by simp) _).alloc _
          · have := (((HD.out.set_ 0 (.int .i64 ct)).set_ 1 (.int .i64 cx)).set_ 2 (.int .i64 cy)).alloc (.cells #[.int .i64 ct, .int .i64 cx, .int .i64 cy] 24)
            simpa using this
        case measure => simp [intOf]; omega
    · have hkk : ps.drop k = [] := List.drop_eq_nil_of_le (by omega)
      go_wp2_with fail
      exact bodyPost_ret (v := .agg #[.int .i64 t, .int .i64 x, .int .i64 y]) (by go_light; simp [results, Try.results24, go_sem, c00, c01, c02]) rfl
        ⟨ret_pz (by rw [HF.out, HE.out, hkk]; rfl), (by repeat' (first | (with_reducible exact Below.refl _ _) | (with_reducible refine Below.alloc ?_ ?_ _) | (with_reducible refine Below.setCell ?_ ?_ _) | (with_reducible refine below_drewN ?_ _) | (with_reducible refine Below.drew ?_) | (with_reducible refine below_step (by assumption) ?_ ?_) | omega | (simp; done) | (simp; omega)))⟩
end Go.Proofs.Ytekppknakegadaa
