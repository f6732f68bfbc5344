/-
  Contracts: NatToInt. Written by an AI agent.
-/
import Derived.Test.YticekjagmcphbaaGreatDoorCmp
import Derived.Test.YticekjagmcphbaaGreatDoorNatOf
namespace Go.Proofs.YticekjagmcphbaaGreatDoor
open Go.RowKit

def maxInt : Nat := 9223372036854775807
def natToIntF (xs : List Int) : Int × Bool := if okB xs = true ∧ (val xs).toNat ≤ maxInt then (val xs, true) else (0, false)
theorem natToIntF_bad {xs : List Int} (h : okB xs = false) : natToIntF xs = (0, false) := by unfold natToIntF; rw [if_neg (by rw [h]; simp)]
theorem natToIntF_big {m : Nat} (h : maxInt < m) : natToIntF (toL m) = (0, false) := by
  unfold natToIntF
  rw [if_neg]
  rw [val_toL, Int.toNat_natCast]
  omega
theorem natToIntF_good {m : Nat} (h : okB (toL m) = true) (hm : m ≤ maxInt) : natToIntF (toL m) = ((m : Int), true) := by
  unfold natToIntF
  rw [if_pos]
  · rw [val_toL]
  · rw [val_toL, Int.toNat_natCast]
    exact ⟨h, hm⟩
theorem cmp_max {m : Nat} (h : ¬ 0 < cmpN m maxInt) : m ≤ maxInt := by
  rcases Nat.lt_or_ge maxInt m with h1 | h1
  · rw [cmpN_gt h1] at h
    omega
  · exact h1
theorem cmp_max' {m : Nat} (h : 0 < cmpN m maxInt) : maxInt < m := by
  rcases Nat.lt_or_ge maxInt m with h1 | h1
  · exact h1
  · rcases Nat.lt_or_ge m maxInt with h2 | h2
    · rw [cmpN_lt h2] at h
      omega
    · have : m = maxInt := by omega
      rw [this, cmpN_eq] at h
      omega
theorem toL_max : toL maxInt = [854775807, 223372036, 9] := by
  unfold maxInt
  rw [toL_pos (by omega), toL_pos (by omega), toL_pos (by omega), show 9223372036854775807 / 1000000000 / 1000000000 / 1000000000 = 0 by omega, toL_zero]
  simp
theorem step_val {m j : Nat} {d y : Int} (hd : d = ((m / pw j % 1000000000 : Nat) : Int)) (hy : y = ((m / pw (j + 1) : Nat) : Int)) : y * 1000000000 + d = ((m / pw j : Nat) : Int) := by
  rw [hy, hd, div_pw_succ]
  omega
theorem div_le {m p : Nat} (hm : m ≤ maxInt) : ((m / p : Nat) : Int) ≤ 9223372036854775807 := by
  have := Nat.div_le_self m p
  unfold maxInt at hm
  omega
theorem ret_ib {a : Int} {b : Bool} {r : Int × Bool} (h : r = (a, b)) : Ending.returned (.tuple #[.int .i64 a, .bool b]) = .returned (.tuple #[.int .i64 r.1, .bool r.2]) := by rw [h]
theorem own_lit {w : World} {base e : Nat} (xs : List Int) (h : xs.length ≤ 1000) (hb : base ≤ w.heap.size) :
    Own (w.alloc (.cells (xs.map (Value.int .i64)).toArray e)) base e (.slice (some ⟨w.heap.size, 0, none⟩) xs.length xs.length) xs := by
  have := World.ownsRow_lit (base := base) (e := e) (size := 1) w (xs.map (Value.int .i64)).toArray xs.length hb (by unfold maxLen; omega) (by simp)
  simpa [Own] using this

theorem sl_max (w : World) : Sl (w.alloc (.cells #[.int .i64 854775807, .int .i64 223372036, .int .i64 9] 3)) (.slice (some ⟨w.heap.size, 0, none⟩) 3 3) (toL maxInt) := by
  rw [toL_max]
  exact (own_lit (base := 0) [854775807, 223372036, 9] (by decide) (Nat.zero_le _)).sl

set_option maxHeartbeats 1000000 in
theorem spec_NatToInt (v : Value) (xs : List Int) (w : World) (h : Sl w v xs) :
    Calls Tryz.prog 87 #[v] w fun e w' => e = .returned (.tuple #[.int .i64 (natToIntF xs).1, .bool (natToIntF xs).2]) ∧ Below w.heap.size w w' := by
  cases hx : okB xs with
  | false =>
    have HR := Lib.hid (natToIntF_bad hx)
    go_enter Tryz.func87, Tryz.ntmps87
    go_wp2_with fail
    refine (spec_NatOk _ xs _ h).mono ?_
    rintro e w1 ⟨rfl, rfl⟩
    go_wp2
    go_ret2
    exact ⟨ret_ib HR.out, Below.refl _ _⟩
  | true =>
    obtain ⟨m, rfl, _⟩ := okB_toL hx
    by_cases hc : 0 < cmpN m maxInt
    · have HR := Lib.hid (natToIntF_big (cmp_max' hc))
      go_enter Tryz.func87, Tryz.ntmps87
      go_wp2_with fail
      refine (spec_NatOk _ _ _ h).mono ?_
      rintro e w1 ⟨rfl, rfl⟩
      go_wp2_with fail
      refine (spec_natCmp _ _ m maxInt _ (h.alloc _) (sl_max w)).mono ?_
      rintro e w2 ⟨rfl, k, rfl⟩
      go_wp2
      go_ret2
      exact ⟨ret_ib HR.out, (by repeat' (first | (with_reducible exact Below.refl _ _) | (with_reducible refine Below.alloc ?_ ?_ _) | (with_reducible refine Below.setCell ?_ ?_ _) | (with_reducible refine below_drewN ?_ _) | (with_reducible refine Below.drew ?_) | (with_reducible refine below_step (by assumption) ?_ ?_) | omega | (simp; done) | (simp; omega)))⟩
    · have hmm := cmp_max hc
      have HR := Lib.hid (natToIntF_good hx hmm)
      have HM := Lib.hid hmm
      have HS := Lib.hid h
      obtain ⟨A, c, rfl, h1, h2, h3⟩ := h
      obtain ⟨xs, hxs⟩ : ∃ xs, xs = toL m := ⟨_, rfl⟩
      have hgx := toL_at m
      have htop := top_div (m := m)
      rw [← hxs] at h1 h3 hgx htop HS ⊢
      have HGX := Lib.hid hgx
      have HT := Lib.hid htop
      clear hgx hmm htop
      have hm : xs.length ≤ 9223372036854775807 := by unfold maxLen at h2; omega
      have HXS := Lib.hid hxs
      clear hxs
      have HX : Hid (okB xs = true) := Lib.hid (by rw [HXS.out]; exact hx)
      clear hx
      go_enter Tryz.func87, Tryz.ntmps87
      go_wp2_with fail
      refine (spec_NatOk _ xs _ HS.out).mono ?_
      rintro e w1 ⟨rfl, rfl⟩
      rw [HX.out]
      go_wp2_with fail
      refine (spec_natCmp _ _ m maxInt _ (by rw [← HXS.out]; exact HS.out.alloc _) (sl_max w)).mono ?_
      have b1 : Below w.heap.size w (w.alloc (.cells #[.int .i64 854775807, .int .i64 223372036, .int .i64 9] 3)) := (Below.refl _ _).alloc (Nat.le_refl _) _
      rintro e w2 ⟨rfl, k, rfl⟩
      go_wp2
      go_loop [4, 5] (fun q i => ∃ x y : Int, i = .int .i64 x ∧ q = .int .i64 y ∧ -1 ≤ x ∧ x < xs.length ∧ y = ((m / pw (x + 1).toNat : Nat) : Int)) (fun _ i => (intOf i + 1).toNat)
      case atStart => exact ⟨_, 0, rfl, rfl, by omega, by omega, by rw [show ((xs.length : Int) - 1 + 1).toNat = xs.length by omega, HT.out]; rfl⟩
      case round =>
        obtain ⟨x, y, rfl, rfl, hx1, hx2, hy⟩ := hrel
        by_cases hx : 0 ≤ x
        · obtain ⟨j, rfl⟩ := Int.eq_ofNat_of_zero_le hx
          rw [show ((j : Int) + 1).toNat = j + 1 by omega] at hy
          have hlt : j < xs.length := by omega
          obtain ⟨b, off, rfl, hcl⟩ := h3 (by omega)
          obtain ⟨d, hd⟩ : ∃ d : Int, d = ((m / pw j % 1000000000 : Nat) : Int) := ⟨_, rfl⟩
          have hcw := hcl j d (by rw [HGX.out j hlt, hd])
          have hcell : (w.alloc (.cells #[.int .i64 854775807, .int .i64 223372036, .int .i64 9] 3)).cell? ⟨b, off + j, none⟩ = some (.int .i64 d) := (b1.cell (World.block_lt_of_cell? w _ hcw)).trans hcw
          have hst := step_val hd hy
          have hle := div_le (p := pw j) HM.out
          rw [← hst] at hle
          have hy0 : 0 ≤ y := by rw [hy]; exact Int.natCast_nonneg _
          have hd0 : 0 ≤ d := by rw [hd]; exact Int.natCast_nonneg _
          have HST := Lib.hid hst
          clear hst hd hy hcl h3 hcw
          go_wp2
          go_round
          case rel => exact ⟨(j : Int) - 1, y * 1000000000 + d, rfl, rfl, by omega, by omega, by rw [show ((j : Int) - 1 + 1).toNat = j by omega]; exact HST.out⟩
          case measure => simp [intOf]
        · have HZ := Lib.hid (show y = (m : Int) by rw [hy, show (x + 1).toNat = 0 by omega, pw_zero, Nat.div_one])
          clear hy
          go_wp2
          go_ret2
          exact ⟨ret_ib (by rw [HZ.out, HXS.out]; exact HR.out), below_drewN b1 _⟩
end Go.Proofs.YticekjagmcphbaaGreatDoor
