/-
  Making a fraction in the reference: l04One, l04Low. Written by an AI agent.
-/
import Derived.Test.YticekjagmcphbaaDoorRatM
import Derived.Deep.DeepCutAuto
namespace Go.Proofs.YticekjagmcphbaaDoor
open Go.RowKit

def oneB (m : Nat) : Bool := decide (m = 1)
theorem toL_one {m : Nat} (h0 : 0 < m) (h : m < 1000000000) : toL m = [(m : Int)] := by
  rw [toL_pos h0, Nat.div_eq_of_lt h, toL_zero, Nat.mod_eq_of_lt h]
set_option maxHeartbeats 1000000 in
theorem spec_l04One (v : Value) (m : Nat) (w : World) (h : Sl w v (toL m)) :
    Calls Tryd.prog 63 #[v] w fun e w' => e = .returned (.bool (oneB m)) ∧ w = w' := by
  obtain ⟨A, c, rfl, h1, h2, h3⟩ := h
  have hm : (toL m).length ≤ 9223372036854775807 := by unfold maxLen at h2; omega
  clear h1 h2
  by_cases hl : (toL m).length = 1
  · have h9 : m < 1000000000 := toL_len_le.1 (Nat.le_of_eq hl)
    have h0 : 0 < m := by
      rcases Nat.eq_zero_or_pos m with h0 | h0
      · subst h0
        rw [toL_zero] at hl
        cases hl
      · exact h0
    obtain ⟨b, off, rfl, hc⟩ := h3 (by omega)
    have k0 : w.cell? ⟨b, off, none⟩ = some (.int .i64 (m : Int)) := hc 0 (m : Int) (by rw [toL_one h0 h9]; rfl)
    rw [hl]
    clear hc h3 hm hl
    by_cases h : m = 1
    · have HR := Lib.hid (show oneB m = true from decide_eq_true h)
      have hb : ((m : Int) == 1) = true := beq_iff_eq.2 (by omega)
      clear h h9 h0
      go_enter Tryd.func63, Tryd.ntmps63
      go_wp2
      go_ret
      exact ⟨by rw [HR.out]; rfl, rfl⟩
    · have HR := Lib.hid (show oneB m = false from decide_eq_false h)
      have hb : ((m : Int) == 1) = false := beq_eq_false_iff_ne.2 (by omega)
      clear h h9 h0
      go_enter Tryd.func63, Tryd.ntmps63
      go_wp2
      go_ret
      exact ⟨by rw [HR.out]; rfl, rfl⟩
  · have HR := Lib.hid (show oneB m = false from decide_eq_false (fun h => hl (by subst h; rw [toL_one (by omega) (by omega)]; rfl)))
    have hb : (((toL m).length : Int) == 1) = false := beq_eq_false_iff_ne.2 (by omega)
    clear hl h3
    go_enter Tryd.func63, Tryd.ntmps63
    go_wp2
    go_ret
    exact ⟨by rw [HR.out]; rfl, rfl⟩

theorem spec_trim (v : Value) (m : Nat) (w : World) (h : Sl w v (toL m)) :
    Calls Tryd.prog 101 #[v] w fun e w' => ∃ A n c, e = .returned (.slice A n c) ∧ n = (toL m).length ∧ Sl w' (.slice A n c) (toL m) ∧ w = w' := by
  refine (spec_natTrim_sl v _ w h (limbs_toL m)).mono fun e w' ⟨A, n, c, he, hs, hw⟩ => ?_
  rw [val_toL, Int.toNat_natCast] at hs
  exact ⟨A, n, c, he, hs.len, hs, hw⟩
/-- The state behind the division: the numerator q, the denominator p. -/
def LowCut (W : World) (q p : Nat) (x y : Value) (w : World) : Prop :=
  ∃ A c B d, x = .slice A (toL q).length c ∧ y = .slice B (toL p).length d ∧ Sl w (.slice A (toL q).length c) (toL q) ∧ Sl w (.slice B (toL p).length d) (toL p) ∧ Below W.heap.size W w

end Go.Proofs.YticekjagmcphbaaDoor
