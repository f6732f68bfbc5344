/-
  Contract: the law's comparison of two lists of poses. Written by an AI agent.
-/
import Derived.Test.YtekppknakegadaaPoseU
namespace Go.Proofs.Ytekppknakegadaa
open Go.RowKit

theorem listP_ne {xs ys : List P3} {k : Nat} {d f : P3} (hd : xs[k]? = some d) (hf : ys[k]? = some f) (h : d.same f = false) : xs ≠ ys := by
  rintro rfl
  rw [hd] at hf
  cases hf
  rw [P3.same_self] at h
  cases h
theorem takeP_snoc {α : Type} {xs : List α} {k : Nat} {d : α} (hd : xs[k]? = some d) : xs.take (k + 1) = xs.take k ++ [d] := by
  rw [List.take_add_one, hd]; rfl
noncomputable def sameP (xs ys : List P3) : Bool := @decide (xs = ys) (Classical.propDecidable _)
theorem sameP_yes {xs ys : List P3} (h : xs = ys) : sameP xs ys = true := @decide_eq_true _ (Classical.propDecidable _) h
theorem sameP_no {xs ys : List P3} (h : xs ≠ ys) : sameP xs ys = false := @decide_eq_false _ (Classical.propDecidable _) h

set_option maxHeartbeats 2000000 in
theorem laws_eqPoseS (u v : Value) (xs ys : List P3) (w : World) (hu : SlP w u xs) (hv : SlP w v ys) :
    Calls Try.prog 27 #[u, v] w fun e w' => e = .returned (.bool (sameP xs ys)) ∧ Below w.heap.size w w' := by
  obtain ⟨A, c, rfl, h1, h2, h3⟩ := hu
  obtain ⟨B, c', rfl, k1, k2, k3⟩ := hv
  have hm : xs.length ≤ 9223372036854775807 := by unfold maxLen at h2; omega
  by_cases hlen : xs.length = ys.length
  · have hb : ((xs.length : Int) != (ys.length : Int)) = false := by simp [hlen]
    have HL := Lib.hid hlen; clear hlen
    go_enter Try.func27, Try.ntmps27
    go_wp2
    go_loopw [5] (fun i wr => ∃ k : Nat, k ≤ xs.length ∧ i = .int .i64 k ∧ Below w.heap.size w wr ∧ xs.take k = ys.take k) (fun i _ => xs.length - (intOf i).toNat)
    case atStart => exact ⟨0, Nat.zero_le _, rfl, Below.refl _ _, rfl⟩
    case round =>
      obtain ⟨k, hk, rfl, hbl, heq⟩ := hrel
      have HE := Lib.hid heq; clear heq
      have hbs := hbl.size
      by_cases hlt : k < xs.length
      · have hlt' : k < ys.length := by rw [← HL.out]; exact hlt
        obtain ⟨b, off, rfl, hc⟩ := h3 (by omega)
        obtain ⟨b', off', rfl, hc'⟩ := k3 (by omega)
        obtain ⟨d, hd⟩ : ∃ d, xs[k]? = some d := ⟨_, List.getElem?_eq_getElem hlt⟩
        obtain ⟨f, hf⟩ : ∃ f, ys[k]? = some f := ⟨_, List.getElem?_eq_getElem hlt'⟩
        obtain ⟨q0, q1, q2⟩ := hc k d hd
        obtain ⟨p0, p1, p2⟩ := hc' k f hf
        have r0 := (hbl.cell (World.block_lt_of_cell? w _ q0)).trans q0
        have r1 := (hbl.cell (World.block_lt_of_cell? w _ q1)).trans q1
        have r2 := (hbl.cell (World.block_lt_of_cell? w _ q2)).trans q2
        have t0 := (hbl.cell (World.block_lt_of_cell? w _ p0)).trans p0
        have t1 := (hbl.cell (World.block_lt_of_cell? w _ p1)).trans p1
        have t2 := (hbl.cell (World.block_lt_of_cell? w _ p2)).trans p2
        have z0 := World.block_lt_of_cell? wr _ r0
        have z1 := World.block_lt_of_cell? wr _ t0
        simp only at z0 z1
        have HD := Lib.hid hd
        have HF := Lib.hid hf
        clear hd hc h3 hf hc' k3 q0 q1 q2 p0 p1 p2
        obtain ⟨t, x, y⟩ := d
        obtain ⟨t', x', y'⟩ := f
        simp only at r0 r1 r2 t0 t1 t2
        have i1 : (k : Int) < (xs.length : Int) := by omega
        have i2 : (k : Int) < (ys.length : Int) := by omega
        cases hs : P3.same ⟨t, x, y⟩ ⟨t', x', y'⟩ with
        | true =>
          have HS := Lib.hid (P3.same_iff.1 hs)
          go_wp2_with fail
          go_region_held3 (fun w' => w'.cell? ⟨b, off + k * 3, none⟩ = some (.int .i64 t) ∧ w'.cell? ⟨b, off + k * 3 + 1, none⟩ = some (.int .i64 x) ∧ w'.cell? ⟨b, off + k * 3 + 2, none⟩ = some (.int .i64 y) ∧
              w'.cell? ⟨b', off' + k * 3, none⟩ = some (.int .i64 t') ∧ w'.cell? ⟨b', off' + k * 3 + 1, none⟩ = some (.int .i64 x') ∧ w'.cell? ⟨b', off' + k * 3 + 2, none⟩ = some (.int .i64 y')) (go_keep)
            (first
              | (go_at_call 18; refine (laws_eqPose ⟨t, x, y⟩ ⟨t', x', y'⟩ _).mono ?_; rintro e w1 ⟨rfl, b1⟩; obtain ⟨hc, hf⟩ := bcell b1; have q0 := fun o => hc (b) o (by first | omega | (simp; done) | (simp; omega)); have q1 := fun o => hc (b') o (by first | omega | (simp; done) | (simp; omega)); have hz := b1.size; (try simp at hz); have z0 : b < w1.heap.size := (by omega); have n0 := Nat.ne_of_lt z0; have m0 := (Nat.ne_of_lt z0).symm; have z1 : b' < w1.heap.size := (by omega); have n1 := Nat.ne_of_lt z1; have m1 := (Nat.ne_of_lt z1).symm; (try have hs := Nat.lt_of_succ_le hz)))
          all_goals
            go_wp2
            go_roundw
            case rel => exact ⟨k + 1, by omega, by go_num, (by repeat' (first | (with_reducible exact Below.refl _ _) | (with_reducible refine Below.alloc ?_ ?_ _) | (with_reducible refine Below.setCell ?_ ?_ _) | (with_reducible refine below_drewN ?_ _) | (with_reducible refine Below.drew ?_) | (with_reducible refine below_step (by assumption) ?_ ?_) | omega | (simp; done) | (simp; omega))), by rw [takeP_snoc HD.out, takeP_snoc HF.out, HE.out, HS.out]⟩
            case measure => simp [intOf]; omega
        | false =>
          have HN := Lib.hid (sameP_no (listP_ne HD.out HF.out hs))
          go_wp2_with fail
          go_region_held3 (fun w' => w'.cell? ⟨b, off + k * 3, none⟩ = some (.int .i64 t) ∧ w'.cell? ⟨b, off + k * 3 + 1, none⟩ = some (.int .i64 x) ∧ w'.cell? ⟨b, off + k * 3 + 2, none⟩ = some (.int .i64 y) ∧
              w'.cell? ⟨b', off' + k * 3, none⟩ = some (.int .i64 t') ∧ w'.cell? ⟨b', off' + k * 3 + 1, none⟩ = some (.int .i64 x') ∧ w'.cell? ⟨b', off' + k * 3 + 2, none⟩ = some (.int .i64 y')) (go_keep)
            (first
              | (go_at_call 18; refine (laws_eqPose ⟨t, x, y⟩ ⟨t', x', y'⟩ _).mono ?_; rintro e w1 ⟨rfl, b1⟩; obtain ⟨hc, hf⟩ := bcell b1; have q0 := fun o => hc (b) o (by first | omega | (simp; done) | (simp; omega)); have q1 := fun o => hc (b') o (by first | omega | (simp; done) | (simp; omega)); have hz := b1.size; (try simp at hz); have z0 : b < w1.heap.size := (by omega); have n0 := Nat.ne_of_lt z0; have m0 := (Nat.ne_of_lt z0).symm; have z1 : b' < w1.heap.size := (by omega); have n1 := Nat.ne_of_lt z1; have m1 := (Nat.ne_of_lt z1).symm; (try have hs := Nat.lt_of_succ_le hz)))
          all_goals
            go_wp2
            go_ret
            exact ⟨ret_bool HN.out.symm, (by repeat' (first | (with_reducible exact Below.refl _ _) | (with_reducible refine Below.alloc ?_ ?_ _) | (with_reducible refine Below.setCell ?_ ?_ _) | (with_reducible refine below_drewN ?_ _) | (with_reducible refine Below.drew ?_) | (with_reducible refine below_step (by assumption) ?_ ?_) | omega | (simp; done) | (simp; omega)))⟩
      · have hkk : xs.take k = xs := List.take_of_length_le (by omega)
        have hkk' : ys.take k = ys := List.take_of_length_le (by have := HL.out; omega)
        have HS := Lib.hid (sameP_yes (show xs = ys by have := HE.out; rwa [hkk, hkk'] at this))
        clear hkk hkk'
        go_wp2
        go_ret
        exact ⟨ret_bool HS.out.symm, hbl⟩
  · have hb : ((xs.length : Int) != (ys.length : Int)) = true := by simp; omega
    have HS := Lib.hid (sameP_no (xs := xs) (ys := ys) (by rintro rfl; exact hlen rfl))
    go_enter Try.func27, Try.ntmps27
    go_wp2
    go_ret
    exact ⟨ret_bool HS.out.symm, Below.refl _ _⟩
end Go.Proofs.Ytekppknakegadaa
