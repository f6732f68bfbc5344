/-
  Lists of poses. Written by an AI agent.
-/
import Derived.Test.YtekppknakegadaaPose7
import Derived.Deep.Light
namespace Go.Proofs.Ytekppknakegadaa
open Go.RowKit

/-- The slice value v reads, in the world w, as the list of poses ps. -/
def SlP (w : World) (v : Value) (ps : List P3) : Prop :=
  ∃ A c, v = .slice A ps.length c ∧ ps.length ≤ c ∧ c ≤ maxLen ∧
    (0 < ps.length → ∃ b off, A = some ⟨b, off, none⟩ ∧ ∀ (i : Nat) (p : P3), ps[i]? = some p → w.cell? ⟨b, off + i * 3, none⟩ = some (.int .i64 p.t) ∧ w.cell? ⟨b, off + i * 3 + 1, none⟩ = some (.int .i64 p.x) ∧ w.cell? ⟨b, off + i * 3 + 2, none⟩ = some (.int .i64 p.y))
theorem SlP.below {w w' : World} {v : Value} {ps : List P3} (h : SlP w v ps) (hb : Below w.heap.size w w') : SlP w' v ps := by
  obtain ⟨A, c, rfl, h1, h2, h3⟩ := h
  refine ⟨A, c, rfl, h1, h2, fun hn => ?_⟩
  obtain ⟨b, off, rfl, hc⟩ := h3 hn
  refine ⟨b, off, rfl, fun i p hp => ?_⟩
  obtain ⟨q0, q1, q2⟩ := hc i p hp
  exact ⟨(hb.cell (World.block_lt_of_cell? w _ q0)).trans q0, (hb.cell (World.block_lt_of_cell? w _ q1)).trans q1, (hb.cell (World.block_lt_of_cell? w _ q2)).trans q2⟩

/-- Composing from the left, and whether all went well. -/
def compFrom : P3 → List P3 → P3 × Bool
  | p, [] => (p, true)
  | p, q :: l => if compOk p q = true then compFrom (comp p q) l else (P3.zero, false)


theorem impl_composeOkR (p q r : P3) (hr : r = comp p q) (w : World) :
    Calls Try.prog 64 #[.agg #[.int .i64 p.t, .int .i64 p.x, .int .i64 p.y], .agg #[.int .i64 q.t, .int .i64 q.x, .int .i64 q.y]] w fun e w' => e = .returned (.tuple #[.agg #[.int .i64 r.t, .int .i64 r.x, .int .i64 r.y], .bool (compOk p q)]) ∧ Below w.heap.size w w' := by
  subst hr
  exact impl_composeOk p q w

theorem spec_composeOkR (p q r : P3) (hr : r = comp p q) (w : World) :
    Calls Try.prog 63 #[.agg #[.int .i64 p.t, .int .i64 p.x, .int .i64 p.y], .agg #[.int .i64 q.t, .int .i64 q.x, .int .i64 q.y]] w fun e w' => e = .returned (.tuple #[.agg #[.int .i64 r.t, .int .i64 r.x, .int .i64 r.y], .bool (compOk p q)]) ∧ Below w.heap.size w w' := by
  subst hr
  exact spec_composeOk p q w

theorem compFrom_good {ps : List P3} {k : Nat} {p q : P3} (hq : ps[k]? = some q) (h : compOk p q = true) : compFrom p (ps.drop k) = compFrom (comp p q) (ps.drop (k + 1)) := by
  rw [List.drop_eq_getElem?_toList_append, hq]
  simp [compFrom, h]
theorem compFrom_bad {ps : List P3} {k : Nat} {p q : P3} (hq : ps[k]? = some q) (h : compOk p q = false) : compFrom p (ps.drop k) = (P3.zero, false) := by
  rw [List.drop_eq_getElem?_toList_append, hq]
  simp [compFrom, h]
theorem ret_pz {p : P3} {t x y : Int} (h : p = ⟨t, x, y⟩) : Ending.returned (.agg #[.int .i64 t, .int .i64 x, .int .i64 y]) = .returned (.agg #[.int .i64 p.t, .int .i64 p.x, .int .i64 p.y]) := by rw [h]
theorem ret_pb' {p : P3} {a : Bool} {r : P3 × Bool} (h : r = (p, a)) : Ending.returned (.tuple #[.agg #[.int .i64 p.t, .int .i64 p.x, .int .i64 p.y], .bool a]) = .returned (.tuple #[r.1.v, .bool r.2]) := by rw [h]; rfl

set_option maxHeartbeats 2000000 in
theorem impl_composeAllOk (v : Value) (ps : List P3) (w : World) (h : SlP w v ps) :
    Calls Try.prog 65 #[v] w fun e w' => e = .returned (.tuple #[(compFrom P3.zero ps).1.v, .bool (compFrom P3.zero ps).2]) ∧ Below w.heap.size w w' := by
  obtain ⟨A, c, rfl, h1, h2, h3⟩ := h
  have hm : ps.length ≤ 9223372036854775807 := by unfold maxLen at h2; omega
  go_enter Try.func65, Try.ntmps65
  go_wp2
  go_loopw [11] (fun i wr => ∃ k : Nat, k ≤ ps.length ∧ i = .int .i64 k ∧ Below w.heap.size w wr ∧ Blk wr w.heap.size 24 #[.int .i64 0, .int .i64 0, .int .i64 0] ∧
      ∃ p : P3, Blk wr (w.heap.size + 1) 24 #[.int .i64 p.t, .int .i64 p.x, .int .i64 p.y] ∧ compFrom P3.zero ps = compFrom p (ps.drop k)) (fun i _ => ps.length - (intOf i).toNat)
  case atStart => exact ⟨0, Nat.zero_le _, rfl, (by repeat' (first | (with_reducible exact Below.refl _ _) | (with_reducible refine Below.alloc ?_ ?_ _) | (with_reducible refine Below.setCell ?_ ?_ _) | (with_reducible refine below_drewN ?_ _) | (with_reducible refine Below.drew ?_) | (with_reducible refine below_step (by assumption) ?_ ?_) | omega | (simp; done) | (simp; omega))), (Blk.new _ _ _).alloc _, P3.zero, Blk.newAt _ _ _ (by simp), rfl⟩
  case round =>
    obtain ⟨k, hk, rfl, hb, hB0, p, hB1, heq⟩ := hrel
    obtain ⟨t, x, y⟩ := p
    have HE := Lib.hid heq; clear heq
    have s0 := hB0.lt
    have s1 := hB1.lt
    have nn := Nat.ne_of_lt s0
    have mm := (Nat.ne_of_lt s0).symm
    have f0 := hB0.frozen
    have f1 := hB1.frozen
    have c00 := hB0.cell 0
    have c01 := hB0.cell 1
    have c02 := hB0.cell 2
    have c10 := hB1.cell 0
    have c11 := hB1.cell 1
    have c12 := hB1.cell 2
    simp at c00 c01 c02 c10 c11 c12
    have HB0 := Lib.hid hB0
    have HB1 := Lib.hid hB1
    clear hB0 hB1
    by_cases hlt : k < ps.length
    · obtain ⟨b, off, rfl, hc⟩ := h3 (by omega)
      obtain ⟨q, hq⟩ : ∃ q, ps[k]? = some q := ⟨_, List.getElem?_eq_getElem hlt⟩
      obtain ⟨q0, q1, q2⟩ := hc k q hq
      have r0 := (hb.cell (World.block_lt_of_cell? w _ q0)).trans q0
      have r1 := (hb.cell (World.block_lt_of_cell? w _ q1)).trans q1
      have r2 := (hb.cell (World.block_lt_of_cell? w _ q2)).trans q2
      have HQ := Lib.hid hq
      obtain ⟨t', x', y'⟩ := q
      obtain ⟨⟨ct, cx, cy⟩, hr⟩ : ∃ r, r = comp ⟨t, x, y⟩ ⟨t', x', y'⟩ := ⟨_, rfl⟩
      have HR := Lib.hid hr; clear hr hq q0 q1 q2 h3 hc
      go_wp2_with fail
      refine (impl_composeOkR ⟨t, x, y⟩ ⟨t', x', y'⟩ ⟨ct, cx, cy⟩ HR.out _).mono ?_
      rintro e w2 ⟨rfl, b2⟩
      obtain ⟨hc2, hf2⟩ := bcell b2
      have hz2 := b2.size
      simp at hz2
      have y0 : w.heap.size < wr.heap.size + 1 := by omega
      have y1 : w.heap.size + 1 < wr.heap.size + 1 := by omega
      have HB2 : Blk w2 w.heap.size 24 #[.int .i64 0, .int .i64 0, .int .i64 0] := (HB0.out.alloc _).below b2 (by simp; omega)
      have HB3 : Blk w2 (w.heap.size + 1) 24 #[.int .i64 t, .int .i64 x, .int .i64 y] := (HB1.out.alloc _).below b2 (by simp; omega)
      have HC := Lib.hid HB2
      have HD := Lib.hid HB3
      clear HB2 HB3
      cases hok : compOk ⟨t, x, y⟩ ⟨t', x', y'⟩ with
      | false =>
        go_wp2_with fail
        exact bodyPost_ret (v := .tuple #[.agg #[.int .i64 0, .int .i64 0, .int .i64 0], .bool false]) (by go_light; simp [results, Try.results65, go_sem, hc2, s0, y0, c00, c01, c02]) rfl
          ⟨ret_pb' (p := ⟨0, 0, 0⟩) (by rw [HE.out, compFrom_bad HQ.out hok]; rfl), (by repeat' (first | (with_reducible exact Below.refl _ _) | (with_reducible refine Below.alloc ?_ ?_ _) | (with_reducible refine Below.setCell ?_ ?_ _) | (with_reducible refine below_drewN ?_ _) | (with_reducible refine Below.drew ?_) | (with_reducible refine below_step (by assumption) ?_ ?_) | omega | (simp; done) | (simp; omega)))⟩
      | true =>
        go_wp2_with fail
        go_roundw
        case rel =>
          refine ⟨k + 1, by omega, by go_num, (by repeat' (first | (with_reducible exact Below.refl _ _) | (with_reducible refine Below.alloc ?_ ?_ _) | (with_reducible refine Below.setCell ?_ ?_ _) | (with_reducible refine below_drewN ?_ _) | (with_reducible refine Below.drew ?_) | (with_reducible refine below_step (by assumption) ?_ ?_) | omega | (simp; done) | (simp; omega))), ?_, ⟨ct, cx, cy⟩, ?_, by rw [HE.out, compFrom_good HQ.out hok, HR.out]⟩
          · exact ((HC.out.far (by simp) _).far (by simp) _).far (by simp) _
          · have := ((HD.out.set_ 0 (.int .i64 ct)).set_ 1 (.int .i64 cx)).set_ 2 (.int .i64 cy)
            simpa using this
        case measure => simp [intOf]; omega
    · have hkk : ps.drop k = [] := List.drop_eq_nil_of_le (by omega)
      go_wp2_with fail
      exact bodyPost_ret (v := .tuple #[.agg #[.int .i64 t, .int .i64 x, .int .i64 y], .bool true]) (by go_light; simp [results, Try.results65, go_sem, c00, c01, c02]) rfl
        ⟨ret_pb' (p := ⟨t, x, y⟩) (by rw [HE.out, hkk]; rfl), (by repeat' (first | (with_reducible exact Below.refl _ _) | (with_reducible refine Below.alloc ?_ ?_ _) | (with_reducible refine Below.setCell ?_ ?_ _) | (with_reducible refine below_drewN ?_ _) | (with_reducible refine Below.drew ?_) | (with_reducible refine below_step (by assumption) ?_ ?_) | omega | (simp; done) | (simp; omega)))⟩
end Go.Proofs.Ytekppknakegadaa
