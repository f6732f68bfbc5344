/-
  The laws' own draws: a cursor over the code's bytes. Only the bounds of what is drawn are told. Written by an AI agent.
-/
import Derived.Test.YticekjagmcphbaaDoorOpenB
import Derived.Test.YticekjagmcphbaaDoorEmp
namespace Go.Proofs.YticekjagmcphbaaDoor
open Go.RowKit

/-- Block g is a cursor over bytes that lie below B. -/
def Cur (w : World) (B g : Nat) : Prop :=
  ∃ v n i h, Blk w g 96 #[v, .int .i64 i, .int .i64 h] ∧ B ≤ g ∧ SlB w B v n ∧ n ≤ 1048576 ∧ 0 ≤ i ∧ i ≤ (n : Int) ∧ -9223372036854775808 ≤ h ∧ h ≤ 9223372036854775807
theorem Cur.below {w w' : World} {B g : Nat} (h : Cur w B g) (hb : Below w.heap.size w w') : Cur w' B g := by
  obtain ⟨v, n, i, k, h1, h2, h3, r⟩ := h
  exact ⟨v, n, i, k, h1.below hb h1.lt, h2, h3.below (hb.mono (Nat.le_of_lt (Nat.lt_of_le_of_lt h2 h1.lt))), r⟩
theorem Cur.lt {w : World} {B g : Nat} (h : Cur w B g) : g < w.heap.size := by
  obtain ⟨v, n, i, k, h1, _⟩ := h
  exact h1.lt
theorem Cur.base {w : World} {B g : Nat} (h : Cur w B g) : B ≤ g := by
  obtain ⟨v, n, i, k, _, h2, _⟩ := h
  exact h2
/-- What a draw of an int from lo to hi ends in. -/
def Drew (B g : Nat) (lo hi : Int) (w : World) (e : Ending) (w' : World) : Prop :=
  ∃ x, e = .returned (.int .i64 x) ∧ lo ≤ x ∧ x ≤ hi ∧ Cur w' B g ∧ Only g (g + 1) w w'

set_option maxHeartbeats 2000000 in
theorem spec_l01New (v : Value) (n : Nat) (w : World) (h : SlB w w.heap.size v n) (hn : n ≤ 1048576) :
    Calls Tryd.prog 76 #[v] w fun e w' => ∃ g, e = .returned (.pointer (some ⟨g, 0, none⟩)) ∧ Cur w' w.heap.size g ∧ Below w.heap.size w w' := by
  have HB := Lib.hid h
  obtain ⟨A, c, rfl, h1, h2, h3⟩ := h
  have hand := i64_and30
  go_enter Tryd.func76, Tryd.ntmps76
  go_wp2
  go_loop [3, 4] (fun q i => ∃ (j : Nat) (z : Int), i = .int .i64 j ∧ q = .int .i64 z ∧ j ≤ n ∧ 0 ≤ z ∧ z ≤ 1073741824) (fun _ i => n - (intOf i).toNat)
  case atStart => exact ⟨0, _, rfl, rfl, Nat.zero_le _, by omega, by omega⟩
  case round =>
    obtain ⟨j, z, rfl, rfl, hj, hz0, hz1⟩ := hrel
    by_cases hlt : j < n
    · by_cases h4 : (j : Int) < 4000
      · obtain ⟨b, off, rfl, hb, hc⟩ := h3 (by omega)
        obtain ⟨d, d0, d1, hcell⟩ := hc j hlt
        clear hc h3
        go_wp2
        go_round
        case rel => exact ⟨j + 1, _, by go_num, rfl, by omega, by omega, by omega⟩
        case measure => simp [intOf]; omega
      · have hd : decide ((j : Int) < 4000) = false := decide_eq_false h4
        go_wp2
        go_ret
        refine ⟨w.heap.size, rfl, ⟨_, n, 0, z, Blk.new _ _ _, Nat.le_refl _, HB.out.below (by repeat' (first | (with_reducible exact Below.refl _ _) | (with_reducible refine Below.alloc ?_ ?_ _) | (with_reducible refine Below.setCell ?_ ?_ _) | (with_reducible refine below_drewN ?_ _) | (with_reducible refine Below.drew ?_) | (with_reducible refine below_step (by assumption) ?_ ?_) | omega | (simp; done) | (simp; omega))), hn, by omega, by omega, by omega, by omega⟩, (by repeat' (first | (with_reducible exact Below.refl _ _) | (with_reducible refine Below.alloc ?_ ?_ _) | (with_reducible refine Below.setCell ?_ ?_ _) | (with_reducible refine below_drewN ?_ _) | (with_reducible refine Below.drew ?_) | (with_reducible refine below_step (by assumption) ?_ ?_) | omega | (simp; done) | (simp; omega)))⟩
    · go_wp2
      go_ret
      refine ⟨w.heap.size, rfl, ⟨_, n, 0, z, Blk.new _ _ _, Nat.le_refl _, HB.out.below (by repeat' (first | (with_reducible exact Below.refl _ _) | (with_reducible refine Below.alloc ?_ ?_ _) | (with_reducible refine Below.setCell ?_ ?_ _) | (with_reducible refine below_drewN ?_ _) | (with_reducible refine Below.drew ?_) | (with_reducible refine below_step (by assumption) ?_ ?_) | omega | (simp; done) | (simp; omega))), hn, by omega, by omega, by omega, by omega⟩, (by repeat' (first | (with_reducible exact Below.refl _ _) | (with_reducible refine Below.alloc ?_ ?_ _) | (with_reducible refine Below.setCell ?_ ?_ _) | (with_reducible refine below_drewN ?_ _) | (with_reducible refine Below.drew ?_) | (with_reducible refine below_step (by assumption) ?_ ?_) | omega | (simp; done) | (simp; omega)))⟩

theorem Only.drewN (w : World) (lo hi n : Nat) : Only lo hi w (w.drewN n) := ⟨rfl, rfl, rfl, Nat.le_refl _, fun _ _ _ => rfl⟩
theorem Cur.mk1 {w : World} {B g n : Nat} {v : Value} {i h : Int} (h1 : Blk w g 96 #[v, .int .i64 i, .int .i64 h]) (h2 : B ≤ g) (h3 : SlB w B v n) (h4 : n ≤ 1048576) (h5 : 0 ≤ i) (h6 : i ≤ (n : Int)) (h7 : -9223372036854775808 ≤ h) (h8 : h ≤ 9223372036854775807) : Cur w B g :=
  ⟨v, n, i, h, h1, h2, h3, h4, h5, h6, h7, h8⟩
set_option maxHeartbeats 2000000 in
theorem spec_l01Byte (B g : Nat) (w : World) (h : Cur w B g) : Calls Tryd.prog 75 #[.pointer (some ⟨g, 0, none⟩)] w (Drew B g 0 255 w) := by
  obtain ⟨v, n, i, k, h1, h2, h3, h4, h5, h6, h7, h8⟩ := h
  have HB := Lib.hid h3
  obtain ⟨A, c, rfl, s1, s2, s3⟩ := h3
  have k0 := h1.cell 0
  have k1 := h1.cell 1
  have k2 := h1.cell 2
  simp at k0 k1 k2
  have f1 := h1.frozen 1
  have f2 := h1.frozen 2
  have H1 := Lib.hid h1
  have hg := h1.lt
  have hand := i64_and8
  obtain ⟨X, hX⟩ : ∃ X, wrap64 (wrap64 (k * 6364136223846793005) + 1442695040888963407) = X := ⟨_, rfl⟩
  have hX0 : -9223372036854775808 ≤ X ∧ X ≤ 9223372036854775807 := by rw [← hX]; unfold wrap64; omega
  obtain ⟨hX0, hX1⟩ := hX0
  have n4 : (n : Int) ≤ 1048576 := by omega
  obtain ⟨Y, hY⟩ : ∃ Y, bits BinOp.xor IntKind.i64 (X / 8589934592) (X / 35184372088832) % 256 = Y := ⟨_, rfl⟩
  have hY0 : 0 ≤ Y ∧ Y ≤ 255 := by rw [← hY]; omega
  obtain ⟨hY0, hY1⟩ := hY0
  have FIN : Hid (∀ (x j : Int) (w' : World), 0 ≤ x → x ≤ 255 → 0 ≤ j → j ≤ (n : Int) → Only g (g + 1) w w' → Blk w' g 96 #[.slice A n c, .int .i64 j, .int .i64 X] → Drew B g 0 255 w (.returned (.int .i64 x)) w') :=
    Lib.hid fun x j w' e1 e2 e3 e4 ho hb => ⟨x, rfl, e1, e2, Cur.mk1 hb h2 (HB.out.below ((ho.below (Nat.le_of_lt hg)).mono h2)) h4 e3 e4 hX0 hX1, ho⟩
  clear h1
  by_cases hin : i < (n : Int)
  · obtain ⟨b, off, rfl, hb, hc⟩ := s3 (by omega)
    obtain ⟨d, d0, d1, hcell⟩ := hc i.toNat (by omega)
    have n1 : b ≠ g := by omega
    have n2 : g ≠ b := by omega
    clear hc s3
    go_enter Tryd.func75, Tryd.ntmps75
    go_wp2
    go_quiet (fail)
    go_wp2
    go_quiet (fail)
    go_wp2
    go_quiet (fail)
    go_wp2
    go_ret
    exact FIN.out _ _ _ (by omega) (by omega) (by omega) (by omega) (((Only.setCell w ⟨g, 2, none⟩ (.int .i64 X)).trans (Only.drewN _ _ _ _)).trans (Only.setCell _ ⟨g, 1, none⟩ (.int .i64 (i + 1)))) (((H1.out.set_ 2 (.int .i64 X)).drewN _).set_ 1 (.int .i64 (i + 1)))
  · go_enter Tryd.func75, Tryd.ntmps75
    go_wp2
    go_quiet (fail)
    go_wp2
    go_quiet (fail)
    go_wp2
    go_ret
    exact FIN.out _ _ _ (by omega) (by omega) (by omega) (by omega) (((Only.setCell w ⟨g, 2, none⟩ (.int .i64 X)).trans (Only.drewN _ _ _ _)).trans (Only.drewN _ _ _ _)) (((H1.out.set_ 2 (.int .i64 X)).drewN _).drewN _)

set_option maxHeartbeats 2000000 in
theorem spec_l01Below (B g : Nat) (n : Int) (w : World) (h : Cur w B g) (n0 : 0 < n) (n1 : n ≤ 1099511627776) : Calls Tryd.prog 77 #[.pointer (some ⟨g, 0, none⟩), .int .i64 n] w (Drew B g 0 (n - 1) w) := by
  have HC := Lib.hid h
  have hn0 : ¬ n = 0 := by omega
  have hnb : (n == 0) = false := beq_eq_false_iff_ne.2 hn0
  have fin : ∀ x : Int, 0 ≤ x → 0 ≤ x % n ∧ x % n ≤ n - 1 := fun x _ => ⟨Int.emod_nonneg _ hn0, by have := Int.emod_lt_of_pos x n0; omega⟩
  have FIN := Lib.hid fin
  clear h fin
  by_cases h256 : n ≤ 256
  · go_enter Tryd.func77, Tryd.ntmps77
    go_wp2_with fail
    refine (spec_l01Byte B g _ HC.out).mono ?_
    rintro e w1 ⟨x, rfl, x0, x1, c1, o1⟩
    have hm : x.tmod n = x % n := Int.tmod_eq_emod_of_nonneg x0
    obtain ⟨y0, y1⟩ := FIN.out x x0
    have C1 := Lib.hid c1
    have O1 := Lib.hid o1
    obtain ⟨y, hy⟩ : ∃ y, x % n = y := ⟨_, rfl⟩
    rw [hy] at hm y0 y1
    clear c1 o1 hy
    go_wp2
    go_ret
    exact ⟨y, rfl, y0, y1, C1.out, O1.out⟩
  · go_enter Tryd.func77, Tryd.ntmps77
    go_wp2_with fail
    refine (spec_l01Byte B g _ HC.out).mono ?_
    rintro e w1 ⟨x1, rfl, xa1, xb1, c1, o1⟩
    have C1 := Lib.hid c1
    have O1 := Lib.hid o1
    clear c1 o1
    go_wp2_with fail
    refine (spec_l01Byte B g _ C1.out).mono ?_
    rintro e w2 ⟨x2, rfl, xa2, xb2, c2, o2⟩
    have C2 := Lib.hid c2
    have O2 := Lib.hid o2
    clear c2 o2
    go_wp2_with fail
    refine (spec_l01Byte B g _ C2.out).mono ?_
    rintro e w3 ⟨x3, rfl, xa3, xb3, c3, o3⟩
    have C3 := Lib.hid c3
    have O3 := Lib.hid o3
    clear c3 o3
    go_wp2_with fail
    refine (spec_l01Byte B g _ C3.out).mono ?_
    rintro e w4 ⟨x4, rfl, xa4, xb4, c4, o4⟩
    have C4 := Lib.hid c4
    have O4 := Lib.hid o4
    clear c4 o4
    have hm : (x1 * 16777216 + x2 * 65536 + x3 * 256 + x4).tmod n = (x1 * 16777216 + x2 * 65536 + x3 * 256 + x4) % n := Int.tmod_eq_emod_of_nonneg (by omega)
    obtain ⟨y0, y1⟩ := FIN.out (x1 * 16777216 + x2 * 65536 + x3 * 256 + x4) (by omega)
    obtain ⟨y, hy⟩ : ∃ y, (x1 * 16777216 + x2 * 65536 + x3 * 256 + x4) % n = y := ⟨_, rfl⟩
    rw [hy] at hm y0 y1
    clear hy
    go_wp2
    go_ret
    exact ⟨y, rfl, y0, y1, C4.out, ((O1.out.trans O2.out).trans O3.out).trans O4.out⟩
theorem spec_l01Once (B g : Nat) (n : Int) (w : World) (h : Cur w B g) (n0 : 0 < n) (n1 : n ≤ 1099511627776) :
    Calls Tryd.prog 111 #[.pointer (some ⟨g, 0, none⟩), .int .i64 n] w fun e w' => ∃ b, e = .returned (.bool b) ∧ Cur w' B g ∧ Only g (g + 1) w w' := by
  have HC := Lib.hid h
  clear h
  go_enter Tryd.func111, Tryd.ntmps111
  go_wp2_with fail
  refine (spec_l01Below B g n _ HC.out n0 n1).mono ?_
  rintro e w1 ⟨x, rfl, x0, x1, c1, o1⟩
  have C1 := Lib.hid c1
  have O1 := Lib.hid o1
  clear c1 o1
  go_wp2
  go_ret
  exact ⟨_, rfl, C1.out, O1.out⟩

set_option maxHeartbeats 1000000 in
theorem spec_l32New (v : Value) (n : Nat) (m : Int) (w : World) (h : SlB w w.heap.size v n) (hn : n ≤ 1048576) (m0 : 0 ≤ m) (m1 : m ≤ 1000) :
    Calls Tryd.prog 74 #[v, .int .i64 m] w fun e w' => ∃ g, e = .returned (.pointer (some ⟨g, 0, none⟩)) ∧ Cur w' w.heap.size g ∧ Below w.heap.size w w' := by
  have HB := Lib.hid h
  clear h
  go_enter Tryd.func74, Tryd.ntmps74
  go_wp2_with fail
  refine (spec_l01New v n _ HB.out hn).mono ?_
  rintro e w1 ⟨g, rfl, c1, b1⟩
  have C1 := Lib.hid c1
  have hgb := c1.base
  clear c1
  go_wp2
  go_loopw [6] (fun i wr => ∃ j : Nat, i = .int .i64 j ∧ (j : Int) ≤ m ∧ Cur wr w.heap.size g ∧ Below w.heap.size w wr) (fun i _ => m.toNat - (intOf i).toNat)
  case atStart => exact ⟨0, rfl, by omega, C1.out, b1⟩
  case round =>
    obtain ⟨j, rfl, hj, hcur, hbl⟩ := hrel
    have C := Lib.hid hcur
    clear hcur
    by_cases hlt : (j : Int) < m
    · go_wp2_with fail
      refine (spec_l01Byte _ g _ C.out).mono ?_
      rintro e w2 ⟨x, rfl, x0, x1, c2, o2⟩
      have C2 := Lib.hid c2
      have b2 := o2.below (Nat.le_of_lt C.out.lt) |>.mono hgb
      clear c2 o2
      go_wp2
      go_roundw
      case rel => exact ⟨j + 1, by go_num, by omega, C2.out, hbl.trans b2⟩
      case measure => simp [intOf]; omega
    · go_wp2
      go_ret
      exact ⟨g, rfl, C.out, hbl⟩
set_option maxHeartbeats 1000000 in
theorem spec_MakeNum (v : Value) (n : Nat) (m : Int) (w : World) (h : SlB w w.heap.size v n) (hn : n ≤ 1048576) (m0 : 0 ≤ m) (m1 : m ≤ 1000) :
    Calls Tryd.prog 34 #[v, .int .i64 m] w fun e w' => ∃ x : Int, e = .returned (.int .i64 x) ∧ 0 ≤ x ∧ x ≤ 65535 ∧ Below w.heap.size w w' := by
  have HB := Lib.hid h
  clear h
  go_enter Tryd.func34, Tryd.ntmps34
  go_wp2_with fail
  refine (spec_l32New v n m _ HB.out hn m0 m1).mono ?_
  rintro e w1 ⟨g, rfl, c1, b1⟩
  have C1 := Lib.hid c1
  have hgb := c1.base
  clear c1
  go_wp2_with fail
  refine (spec_l01Byte _ g _ C1.out).mono ?_
  rintro e w2 ⟨x, rfl, x0, x1, c2, o2⟩
  have C2 := Lib.hid c2
  have b2 := o2.below (Nat.le_of_lt C1.out.lt) |>.mono hgb
  clear c2 o2
  go_wp2_with fail
  refine (spec_l01Byte _ g _ C2.out).mono ?_
  rintro e w3 ⟨y, rfl, y0, y1, c3, o3⟩
  have b3 := o3.below (Nat.le_of_lt C2.out.lt) |>.mono hgb
  clear c3 o3
  go_wp2
  go_ret
  exact ⟨_, rfl, by omega, by omega, (b1.trans b2).trans b3⟩
end Go.Proofs.YticekjagmcphbaaDoor
