/-
  FnBigInts, proved (the tied card): for every code the law returns true. The card's own condition: the listed library variables lie as their initialisers lay them. Written by an AI agent.
-/
import Derived.Test.YticekjagmcphbaaDoorOpenB
import Derived.Test.YticekjagmcphbaaDoorEmp
import Derived.Test.YticekjagmcphbaaDoorTrim
import Derived.Test.YticekjagmcphbaaDoorOwn2
import Derived.Test.YticekjagmcphbaaDoorBigZF
import Derived.Test.YticekjagmcphbaaDoorNatOf
import Derived.Test.YticekjagmcphbaaDoorToInt
import Derived.Test.YticekjagmcphbaaDoorGuess
import Derived.Test.YticekjagmcphbaaDoorFmtN
import Derived.Test.YticekjagmcphbaaDoorParse
import Derived.Test.YticekjagmcphbaaDoorBigM
import Derived.Test.YticekjagmcphbaaDoorBigFD
import Derived.Test.YticekjagmcphbaaDoorFmtB
import Derived.Test.YticekjagmcphbaaDoorParseB
import Derived.Test.YticekjagmcphbaaDoorBox
import Derived.Test.YticekjagmcphbaaDoorOpen
import Derived.Deep.RegionHeld3
import Derived.Test.YticekjagmcphbaaDoorLaid
import Derived.Test.YticekjagmcphbaaDoorCards
namespace Go.Proofs.YticekjagmcphbaaDoor
open Go.RowKit

/-- Block g is a cursor over bytes that lie below B. -/
def Cur (w : World) (B g : Nat) : Prop :=
  ∃ v n i h, Blk w g 96 #[v, .int .i64 i, .int .i64 h] ∧ B ≤ g ∧ SlB w B v n ∧ n ≤ 1048576 ∧ 0 ≤ i ∧ i ≤ (n : Int) ∧ -9223372036854775808 ≤ h ∧ h ≤ 9223372036854775807
theorem Cur.below {w w' : World} {B g : Nat} (h : Cur w B g) (hb : Below w.heap.size w w') : Cur w' B g := by
  obtain ⟨v, n, i, k, h1, h2, h3, r⟩ := h
  exact ⟨v, n, i, k, h1.below hb h1.lt, h2, h3.below (hb.mono (Nat.le_of_lt (Nat.lt_of_le_of_lt h2 h1.lt))), r⟩
theorem Cur.lt {w : World} {B g : Nat} (h : Cur w B g) : g < w.heap.size := by
  obtain ⟨v, n, i, k, h1, _⟩ := h
  exact h1.lt
theorem Cur.base {w : World} {B g : Nat} (h : Cur w B g) : B ≤ g := by
  obtain ⟨v, n, i, k, _, h2, _⟩ := h
  exact h2
/-- What a draw of an int from lo to hi ends in. -/
def Drew (B g : Nat) (lo hi : Int) (w : World) (e : Ending) (w' : World) : Prop :=
  ∃ x, e = .returned (.int .i64 x) ∧ lo ≤ x ∧ x ≤ hi ∧ Cur w' B g ∧ Only g (g + 1) w w'

set_option maxHeartbeats 2000000 in
theorem spec_l01New (v : Value) (n : Nat) (w : World) (h : SlB w w.heap.size v n) (hn : n ≤ 1048576) :
    Calls Tryd.prog 76 #[v] w fun e w' => ∃ g, e = .returned (.pointer (some ⟨g, 0, none⟩)) ∧ Cur w' w.heap.size g ∧ Below w.heap.size w w' := by
  have HB := Lib.hid h
  obtain ⟨A, c, rfl, h1, h2, h3⟩ := h
  have hand := i64_and30
  go_enter Tryd.func76, Tryd.ntmps76
  go_wp2
  go_loop [3, 4] (fun q i => ∃ (j : Nat) (z : Int), i = .int .i64 j ∧ q = .int .i64 z ∧ j ≤ n ∧ 0 ≤ z ∧ z ≤ 1073741824) (fun _ i => n - (intOf i).toNat)
  case atStart => exact ⟨0, _, rfl, rfl, Nat.zero_le _, by omega, by omega⟩
  case round =>
    obtain ⟨j, z, rfl, rfl, hj, hz0, hz1⟩ := hrel
    by_cases hlt : j < n
    · by_cases h4 : (j : Int) < 4000
      · obtain ⟨b, off, rfl, hb, hc⟩ := h3 (by omega)
        obtain ⟨d, d0, d1, hcell⟩ := hc j hlt
        clear hc h3
        go_wp2
        go_round
        case rel => exact ⟨j + 1, _, by go_num, rfl, by omega, by omega, by omega⟩
        case measure => simp [intOf]; omega
      · have hd : decide ((j : Int) < 4000) = false := decide_eq_false h4
        go_wp2
        go_ret
        refine ⟨w.heap.size, rfl, ⟨_, n, 0, z, Blk.new _ _ _, Nat.le_refl _, HB.out.below (by repeat' (first | (with_reducible exact Below.refl _ _) | (with_reducible refine Below.alloc ?_ ?_ _) | (with_reducible refine Below.setCell ?_ ?_ _) | (with_reducible refine below_drewN ?_ _) | (with_reducible refine Below.drew ?_) | (with_reducible refine below_step (by assumption) ?_ ?_) | omega | (simp; done) | (simp; omega))), hn, by omega, by omega, by omega, by omega⟩, (by repeat' (first | (with_reducible exact Below.refl _ _) | (with_reducible refine Below.alloc ?_ ?_ _) | (with_reducible refine Below.setCell ?_ ?_ _) | (with_reducible refine below_drewN ?_ _) | (with_reducible refine Below.drew ?_) | (with_reducible refine below_step (by assumption) ?_ ?_) | omega | (simp; done) | (simp; omega)))⟩
    · go_wp2
      go_ret
      refine ⟨w.heap.size, rfl, ⟨_, n, 0, z, Blk.new _ _ _, Nat.le_refl _, HB.out.below (by repeat' (first | (with_reducible exact Below.refl _ _) | (with_reducible refine Below.alloc ?_ ?_ _) | (with_reducible refine Below.setCell ?_ ?_ _) | (with_reducible refine below_drewN ?_ _) | (with_reducible refine Below.drew ?_) | (with_reducible refine below_step (by assumption) ?_ ?_) | omega | (simp; done) | (simp; omega))), hn, by omega, by omega, by omega, by omega⟩, (by repeat' (first | (with_reducible exact Below.refl _ _) | (with_reducible refine Below.alloc ?_ ?_ _) | (with_reducible refine Below.setCell ?_ ?_ _) | (with_reducible refine below_drewN ?_ _) | (with_reducible refine Below.drew ?_) | (with_reducible refine below_step (by assumption) ?_ ?_) | omega | (simp; done) | (simp; omega)))⟩

theorem Only.drewN (w : World) (lo hi n : Nat) : Only lo hi w (w.drewN n) := ⟨rfl, rfl, rfl, Nat.le_refl _, fun _ _ _ => rfl⟩
theorem Cur.mk1 {w : World} {B g n : Nat} {v : Value} {i h : Int} (h1 : Blk w g 96 #[v, .int .i64 i, .int .i64 h]) (h2 : B ≤ g) (h3 : SlB w B v n) (h4 : n ≤ 1048576) (h5 : 0 ≤ i) (h6 : i ≤ (n : Int)) (h7 : -9223372036854775808 ≤ h) (h8 : h ≤ 9223372036854775807) : Cur w B g :=
  ⟨v, n, i, h, h1, h2, h3, h4, h5, h6, h7, h8⟩
set_option maxHeartbeats 2000000 in
theorem spec_l01Byte (B g : Nat) (w : World) (h : Cur w B g) : Calls Tryd.prog 75 #[.pointer (some ⟨g, 0, none⟩)] w (Drew B g 0 255 w) := by
  obtain ⟨v, n, i, k, h1, h2, h3, h4, h5, h6, h7, h8⟩ := h
  have HB := Lib.hid h3
  obtain ⟨A, c, rfl, s1, s2, s3⟩ := h3
  have k0 := h1.cell 0
  have k1 := h1.cell 1
  have k2 := h1.cell 2
  simp at k0 k1 k2
  have f1 := h1.frozen 1
  have f2 := h1.frozen 2
  have H1 := Lib.hid h1
  have hg := h1.lt
  have hand := i64_and8
  obtain ⟨X, hX⟩ : ∃ X, wrap64 (wrap64 (k * 6364136223846793005) + 1442695040888963407) = X := ⟨_, rfl⟩
  have hX0 : -9223372036854775808 ≤ X ∧ X ≤ 9223372036854775807 := by rw [← hX]; unfold wrap64; omega
  obtain ⟨hX0, hX1⟩ := hX0
  have n4 : (n : Int) ≤ 1048576 := by omega
  obtain ⟨Y, hY⟩ : ∃ Y, bits BinOp.xor IntKind.i64 (X / 8589934592) (X / 35184372088832) % 256 = Y := ⟨_, rfl⟩
  have hY0 : 0 ≤ Y ∧ Y ≤ 255 := by rw [← hY]; omega
  obtain ⟨hY0, hY1⟩ := hY0
  have FIN : Hid (∀ (x j : Int) (w' : World), 0 ≤ x → x ≤ 255 → 0 ≤ j → j ≤ (n : Int) → Only g (g + 1) w w' → Blk w' g 96 #[.slice A n c, .int .i64 j, .int .i64 X] → Drew B g 0 255 w (.returned (.int .i64 x)) w') :=
    Lib.hid fun x j w' e1 e2 e3 e4 ho hb => ⟨x, rfl, e1, e2, Cur.mk1 hb h2 (HB.out.below ((ho.below (Nat.le_of_lt hg)).mono h2)) h4 e3 e4 hX0 hX1, ho⟩
  clear h1
  by_cases hin : i < (n : Int)
  · obtain ⟨b, off, rfl, hb, hc⟩ := s3 (by omega)
    obtain ⟨d, d0, d1, hcell⟩ := hc i.toNat (by omega)
    have n1 : b ≠ g := by omega
    have n2 : g ≠ b := by omega
    clear hc s3
    go_enter Tryd.func75, Tryd.ntmps75
    go_wp2
    go_quiet (fail)
    go_wp2
    go_quiet (fail)
    go_wp2
    go_quiet (fail)
    go_wp2
    go_ret
    exact FIN.out _ _ _ (by omega) (by omega) (by omega) (by omega) (((Only.setCell w ⟨g, 2, none⟩ (.int .i64 X)).trans (Only.drewN _ _ _ _)).trans (Only.setCell _ ⟨g, 1, none⟩ (.int .i64 (i + 1)))) (((H1.out.set_ 2 (.int .i64 X)).drewN _).set_ 1 (.int .i64 (i + 1)))
  · go_enter Tryd.func75, Tryd.ntmps75
    go_wp2
    go_quiet (fail)
    go_wp2
    go_quiet (fail)
    go_wp2
    go_ret
    exact FIN.out _ _ _ (by omega) (by omega) (by omega) (by omega) (((Only.setCell w ⟨g, 2, none⟩ (.int .i64 X)).trans (Only.drewN _ _ _ _)).trans (Only.drewN _ _ _ _)) (((H1.out.set_ 2 (.int .i64 X)).drewN _).drewN _)

set_option maxHeartbeats 2000000 in
theorem spec_l01Below (B g : Nat) (n : Int) (w : World) (h : Cur w B g) (n0 : 0 < n) (n1 : n ≤ 1099511627776) : Calls Tryd.prog 77 #[.pointer (some ⟨g, 0, none⟩), .int .i64 n] w (Drew B g 0 (n - 1) w) := by
  have HC := Lib.hid h
  have hn0 : ¬ n = 0 := by omega
  have hnb : (n == 0) = false := beq_eq_false_iff_ne.2 hn0
  have fin : ∀ x : Int, 0 ≤ x → 0 ≤ x % n ∧ x % n ≤ n - 1 := fun x _ => ⟨Int.emod_nonneg _ hn0, by have := Int.emod_lt_of_pos x n0; omega⟩
  have FIN := Lib.hid fin
  clear h fin
  by_cases h256 : n ≤ 256
  · go_enter Tryd.func77, Tryd.ntmps77
    go_wp2_with fail
    refine (spec_l01Byte B g _ HC.out).mono ?_
    rintro e w1 ⟨x, rfl, x0, x1, c1, o1⟩
    have hm : x.tmod n = x % n := Int.tmod_eq_emod_of_nonneg x0
    obtain ⟨y0, y1⟩ := FIN.out x x0
    have C1 := Lib.hid c1
    have O1 := Lib.hid o1
    obtain ⟨y, hy⟩ : ∃ y, x % n = y := ⟨_, rfl⟩
    rw [hy] at hm y0 y1
    clear c1 o1 hy
    go_wp2
    go_ret
    exact ⟨y, rfl, y0, y1, C1.out, O1.out⟩
  · go_enter Tryd.func77, Tryd.ntmps77
    go_wp2_with fail
    refine (spec_l01Byte B g _ HC.out).mono ?_
    rintro e w1 ⟨x1, rfl, xa1, xb1, c1, o1⟩
    have C1 := Lib.hid c1
    have O1 := Lib.hid o1
    clear c1 o1
    go_wp2_with fail
    refine (spec_l01Byte B g _ C1.out).mono ?_
    rintro e w2 ⟨x2, rfl, xa2, xb2, c2, o2⟩
    have C2 := Lib.hid c2
    have O2 := Lib.hid o2
    clear c2 o2
    go_wp2_with fail
    refine (spec_l01Byte B g _ C2.out).mono ?_
    rintro e w3 ⟨x3, rfl, xa3, xb3, c3, o3⟩
    have C3 := Lib.hid c3
    have O3 := Lib.hid o3
    clear c3 o3
    go_wp2_with fail
    refine (spec_l01Byte B g _ C3.out).mono ?_
    rintro e w4 ⟨x4, rfl, xa4, xb4, c4, o4⟩
    have C4 := Lib.hid c4
    have O4 := Lib.hid o4
    clear c4 o4
    have hm : (x1 * 16777216 + x2 * 65536 + x3 * 256 + x4).tmod n = (x1 * 16777216 + x2 * 65536 + x3 * 256 + x4) % n := Int.tmod_eq_emod_of_nonneg (by omega)
    obtain ⟨y0, y1⟩ := FIN.out (x1 * 16777216 + x2 * 65536 + x3 * 256 + x4) (by omega)
    obtain ⟨y, hy⟩ : ∃ y, (x1 * 16777216 + x2 * 65536 + x3 * 256 + x4) % n = y := ⟨_, rfl⟩
    rw [hy] at hm y0 y1
    clear hy
    go_wp2
    go_ret
    exact ⟨y, rfl, y0, y1, C4.out, ((O1.out.trans O2.out).trans O3.out).trans O4.out⟩
theorem spec_l01Once (B g : Nat) (n : Int) (w : World) (h : Cur w B g) (n0 : 0 < n) (n1 : n ≤ 1099511627776) :
    Calls Tryd.prog 111 #[.pointer (some ⟨g, 0, none⟩), .int .i64 n] w fun e w' => ∃ b, e = .returned (.bool b) ∧ Cur w' B g ∧ Only g (g + 1) w w' := by
  have HC := Lib.hid h
  clear h
  go_enter Tryd.func111, Tryd.ntmps111
  go_wp2_with fail
  refine (spec_l01Below B g n _ HC.out n0 n1).mono ?_
  rintro e w1 ⟨x, rfl, x0, x1, c1, o1⟩
  have C1 := Lib.hid c1
  have O1 := Lib.hid o1
  clear c1 o1
  go_wp2
  go_ret
  exact ⟨_, rfl, C1.out, O1.out⟩

set_option maxHeartbeats 1000000 in
theorem spec_l32New (v : Value) (n : Nat) (m : Int) (w : World) (h : SlB w w.heap.size v n) (hn : n ≤ 1048576) (m0 : 0 ≤ m) (m1 : m ≤ 1000) :
    Calls Tryd.prog 74 #[v, .int .i64 m] w fun e w' => ∃ g, e = .returned (.pointer (some ⟨g, 0, none⟩)) ∧ Cur w' w.heap.size g ∧ Below w.heap.size w w' := by
  have HB := Lib.hid h
  clear h
  go_enter Tryd.func74, Tryd.ntmps74
  go_wp2_with fail
  refine (spec_l01New v n _ HB.out hn).mono ?_
  rintro e w1 ⟨g, rfl, c1, b1⟩
  have C1 := Lib.hid c1
  have hgb := c1.base
  clear c1
  go_wp2
  go_loopw [6] (fun i wr => ∃ j : Nat, i = .int .i64 j ∧ (j : Int) ≤ m ∧ Cur wr w.heap.size g ∧ Below w.heap.size w wr) (fun i _ => m.toNat - (intOf i).toNat)
  case atStart => exact ⟨0, rfl, by omega, C1.out, b1⟩
  case round =>
    obtain ⟨j, rfl, hj, hcur, hbl⟩ := hrel
    have C := Lib.hid hcur
    clear hcur
    by_cases hlt : (j : Int) < m
    · go_wp2_with fail
      refine (spec_l01Byte _ g _ C.out).mono ?_
      rintro e w2 ⟨x, rfl, x0, x1, c2, o2⟩
      have C2 := Lib.hid c2
      have b2 := o2.below (Nat.le_of_lt C.out.lt) |>.mono hgb
      clear c2 o2
      go_wp2
      go_roundw
      case rel => exact ⟨j + 1, by go_num, by omega, C2.out, hbl.trans b2⟩
      case measure => simp [intOf]; omega
    · go_wp2
      go_ret
      exact ⟨g, rfl, C.out, hbl⟩
set_option maxHeartbeats 1000000 in
theorem spec_MakeNum (v : Value) (n : Nat) (m : Int) (w : World) (h : SlB w w.heap.size v n) (hn : n ≤ 1048576) (m0 : 0 ≤ m) (m1 : m ≤ 1000) :
    Calls Tryd.prog 34 #[v, .int .i64 m] w fun e w' => ∃ x : Int, e = .returned (.int .i64 x) ∧ 0 ≤ x ∧ x ≤ 65535 ∧ Below w.heap.size w w' := by
  have HB := Lib.hid h
  clear h
  go_enter Tryd.func34, Tryd.ntmps34
  go_wp2_with fail
  refine (spec_l32New v n m _ HB.out hn m0 m1).mono ?_
  rintro e w1 ⟨g, rfl, c1, b1⟩
  have C1 := Lib.hid c1
  have hgb := c1.base
  clear c1
  go_wp2_with fail
  refine (spec_l01Byte _ g _ C1.out).mono ?_
  rintro e w2 ⟨x, rfl, x0, x1, c2, o2⟩
  have C2 := Lib.hid c2
  have b2 := o2.below (Nat.le_of_lt C1.out.lt) |>.mono hgb
  clear c2 o2
  go_wp2_with fail
  refine (spec_l01Byte _ g _ C2.out).mono ?_
  rintro e w3 ⟨y, rfl, y0, y1, c3, o3⟩
  have b3 := o3.below (Nat.le_of_lt C2.out.lt) |>.mono hgb
  clear c3 o3
  go_wp2
  go_ret
  exact ⟨_, rfl, by omega, by omega, (b1.trans b2).trans b3⟩
end Go.Proofs.YticekjagmcphbaaDoor

namespace Go.Proofs.YticekjagmcphbaaDoor
open Go.RowKit

theorem Cur.under {a b : World} {B g X : Nat} (h : Cur a B g) (hb : Below X a b) (hg : g < X) : Cur b B g := by
  obtain ⟨v, n, i, k, h1, h2, h3, r⟩ := h
  exact ⟨v, n, i, k, h1.below hb hg, h2, h3.below (hb.mono (by omega)), r⟩
theorem Only.step {w a b : World} {lo hi : Nat} (h : Only lo hi w a) (hb : Below w.heap.size a b) : Only lo hi w b :=
  ⟨hb.os.trans h.os, hb.tape.trans h.tape, hb.output.trans h.output, Nat.le_trans h.size hb.size, fun k hk ho => (hb.block k hk).trans (h.block k hk ho)⟩
theorem Own.only {w w' : World} {lo hi base e : Nat} {v : Value} {xs : List Int} (h : Own w base e v xs) (ho : Only lo hi w w') (hd : hi ≤ base) : Own w' base e v xs := ((OwnR.of h).only ho (.inr hd)).1

set_option maxHeartbeats 1000000 in
theorem spec_l01Pick (B g b n c : Nat) (w : World) (h : Cur w B g) (n0 : 0 < n) (n1 : n ≤ 1000) (hb : b ≠ g) (hi : Int) (hx : ∀ i, i < n → ∃ d : Int, 0 ≤ d ∧ d < hi ∧ w.cell? ⟨b, i, none⟩ = some (.int .i64 d)) :
    Calls Tryd.prog 105 #[.pointer (some ⟨g, 0, none⟩), .slice (some ⟨b, 0, none⟩) n c] w fun e w' => ∃ d : Int, e = .returned (.int .i64 d) ∧ 0 ≤ d ∧ d < hi ∧ Cur w' B g ∧ Only g (g + 1) w w' := by
  have HC := Lib.hid h
  have HX := Lib.hid hx
  clear h hx
  go_enter Tryd.func105, Tryd.ntmps105
  go_wp2_with fail
  refine (spec_l01Below B g (n : Int) _ HC.out (by omega) (by omega)).mono ?_
  rintro e w1 ⟨x, rfl, x0, x1, c1, o1⟩
  have C1 := Lib.hid c1
  have O1 := Lib.hid o1
  obtain ⟨j, rfl⟩ := Int.eq_ofNat_of_zero_le x0
  have hj : j < n := by omega
  obtain ⟨d, hd0, hd1, hcell⟩ := HX.out j hj
  have hbw := World.block_lt_of_cell? w _ hcell
  have hcl : w1.cell? ⟨b, j, none⟩ = some (.int .i64 d) := (o1.cell (b := b) (o := j) hbw (by omega)).trans hcell
  have HD := Lib.hid hd1
  clear c1 o1 hcell hd1
  go_wp2
  go_ret
  exact ⟨d, rfl, hd0, HD.out, C1.out, O1.out⟩
set_option maxHeartbeats 4000000 in
theorem spec_l02Nat (B g most : Nat) (w : World) (h : Cur w B g) (hm : most ≤ 100) :
    Calls Tryd.prog 81 #[.pointer (some ⟨g, 0, none⟩), .int .i64 (most : Int)] w fun e w' => ∃ r m, e = .returned r ∧ m < pw most ∧ Own w' w.heap.size 3 r (toL m) ∧ Cur w' B g ∧ Only g (g + 1) w w' := by
  have HC := Lib.hid h
  have hgl := h.lt
  clear h
  go_enter Tryd.func81, Tryd.ntmps81
  go_wp2_with fail
  have ba := (Below.refl w.heap.size w).alloc (Nat.le_refl _) (.cells #[] 3)
  refine (spec_l01Below B g ((most : Int) + 1) _ (HC.out.below ba) (by omega) (by omega)).mono ?_
  rintro e w1 ⟨x, rfl, x0, x1, c1, o1⟩
  have C1 := Lib.hid c1
  have HO := Lib.hid ((own_empty w (e := 3) (Nat.le_refl _)).only o1 (by omega))
  have H1 : Hid (Only g (g + 1) w w1) := Lib.hid ((Only.of_below ba).trans o1)
  clear c1 o1 ba
  go_wp2
  go_loopw [5, 6] (fun a q wr => ∃ (xs : List Int) (z : Int), q = .int .i64 z ∧ 0 ≤ z ∧ (xs.length : Int) + z ≤ (most : Int) ∧ Hid (Limbs xs) ∧ Hid (Own wr w.heap.size 3 a xs) ∧ Hid (Cur wr B g) ∧ Hid (Only g (g + 1) w wr)) (fun _ q _ => (intOf q).toNat)
  case atStart => exact ⟨[], x, rfl, x0, by simp; omega, Lib.hid Limbs.nil, HO, C1, H1⟩
  case round =>
    obtain ⟨xs, z, rfl, hz, hlen, HL, HOW, HCU, HON⟩ := hrel
    have hws := HON.out.size
    by_cases hlt : 0 < z
    · go_wp2_with fail
      refine (spec_l01Below B g 1000000000 _ HCU.out (by omega) (by omega)).mono ?_
      rintro e w2 ⟨y, rfl, y0, y1, c2, o2⟩
      have C2 := Lib.hid c2
      have O2 := Lib.hid (HOW.out.only o2 (by omega))
      have N2 := Lib.hid (HON.out.trans o2)
      have hs2 := o2.size
      clear c2 o2 HOW HCU HON
      go_wp2_with fail
      refine (spec_l01Below B g 1000000000 _ C2.out (by omega) (by omega)).mono ?_
      rintro e w3 ⟨u, rfl, u0, u1, c3, o3⟩
      have C3 := Lib.hid c3
      have O3 := Lib.hid (O2.out.only o3 (by omega))
      have N3 := Lib.hid (N2.out.trans o3)
      have hs3 := o3.size
      have hg3 := c3.lt
      clear c3 o3 C2 O2 N2
      go_wp2_with fail
      have bb := (Below.refl w3.heap.size w3).alloc (Nat.le_refl _) (.cells #[.int .i64 0, .int .i64 1, .int .i64 2, .int .i64 999999999, .int .i64 500000000, .int .i64 y, .int .i64 u] 3)
      refine (spec_l01Pick B g w3.heap.size 7 7 _ (C3.out.below bb) (by omega) (by omega) (by omega) 1000000000 (by
        intro i hi
        match i, hi with
        | 0, _ => exact ⟨0, by omega, by omega, by simp [go_sem]⟩
        | 1, _ => exact ⟨1, by omega, by omega, by simp [go_sem]⟩
        | 2, _ => exact ⟨2, by omega, by omega, by simp [go_sem]⟩
        | 3, _ => exact ⟨999999999, by omega, by omega, by simp [go_sem]⟩
        | 4, _ => exact ⟨500000000, by omega, by omega, by simp [go_sem]⟩
        | 5, _ => exact ⟨y, by omega, by omega, by simp [go_sem]⟩
        | 6, _ => exact ⟨u, by omega, by omega, by simp [go_sem]⟩)).mono ?_
      rintro e w4 ⟨d, rfl, d0, d1, c4, o4⟩
      have C4 := Lib.hid c4
      have O4 := Lib.hid (((OwnR.of O3.out).below bb (Nat.le_refl _)).1.only o4 (by omega))
      have N4 := Lib.hid ((N3.out.trans (Only.of_below bb)).trans o4)
      have hs4 : w3.heap.size + 1 ≤ w4.heap.size := by have := o4.size; simpa using this
      have hw4 : w.heap.size ≤ w4.heap.size := by omega
      clear c4 o4 bb C3 O3 N3
      go_wp2_with (at_builtin; refine wpList_app1 _ rfl _ _ rfl Tryd.intP O4.out rfl rfl (by omega) hw4 ?_; intro v' w5 hown' hb' hg'; clear hg')
      have O5 := Lib.hid hown'
      have C5 := Lib.hid (C4.out.under hb' hgl)
      have N5 := Lib.hid (N4.out.step hb')
      clear hown' hb'
      go_roundw
      case rel => exact ⟨xs ++ [d], z - 1, rfl, by omega, by simp; omega, Lib.hid (HL.out.append (Limbs.cons d0 d1 Limbs.nil)), O5, C5, N5⟩
      case measure => simp [intOf]; omega
    · obtain ⟨A, c, rfl, f1, f2, f3⟩ := HOW.out.form
      clear f3
      go_wp2_with fail
      refine (spec_natTrim A c xs _ HOW.out.sl HL.out).mono ?_
      rintro e w' ⟨rfl, rfl⟩
      go_wp2
      go_ret
      refine ⟨_, (val xs).toNat, rfl, ?_, ?_, HCU.out, HON.out⟩
      · have h1 := val_lt HL.out
        have h2 : pw xs.length ≤ pw most := pw_le (by omega)
        have h3 := pw_pos most
        omega
      · have h7 := HOW.out.cut (trim_le HL.out)
        rwa [trim_cut HL.out] at h7
set_option maxHeartbeats 1000000 in
theorem spec_MakeNat (v : Value) (n : Nat) (k : Int) (w : World) (h : SlB w w.heap.size v n) (hn : n ≤ 1048576) (k0 : 0 ≤ k) (k1 : k ≤ 100) :
    Calls Tryd.prog 40 #[v, .int .i64 k] w fun e w' => ∃ r m, e = .returned r ∧ m < pw 3 ∧ Own w' w.heap.size 3 r (toL m) ∧ Below w.heap.size w w' := by
  have HB := Lib.hid h
  clear h
  go_enter Tryd.func40, Tryd.ntmps40
  go_wp2_with fail
  refine (spec_l32New v n (4 * k) _ HB.out hn (by omega) (by omega)).mono ?_
  rintro e w1 ⟨g, rfl, c1, b1⟩
  have C1 := Lib.hid c1
  have hgb := c1.base
  have hz1 := b1.size
  clear c1
  go_wp2_with fail
  refine (spec_l02Nat _ g 3 _ C1.out (by omega)).mono ?_
  rintro e w2 ⟨r, m, rfl, hm, o2, c2, n2⟩
  have O2 := Lib.hid o2
  have HM := Lib.hid hm
  have b2 := (n2.below (Nat.le_of_lt C1.out.lt)).mono hgb
  clear o2 c2 n2 hm
  go_wp2
  go_ret
  exact ⟨r, m, rfl, HM.out, O2.out.rebase hz1, b1.trans b2⟩
end Go.Proofs.YticekjagmcphbaaDoor

namespace Go.Proofs.YticekjagmcphbaaDoor
open Go.RowKit

theorem int_lt {n : Int} (h1 : -9223372036854775808 ≤ n) (h2 : n ≤ 9223372036854775807) : n.natAbs < pw 60 := Nat.lt_of_lt_of_le (show n.natAbs < pw 3 by unfold pw; omega) (pw_le (by omega))
theorem ofInt_len {n : Int} (h1 : -9223372036854775808 ≤ n) (h2 : n ≤ 9223372036854775807) : (toL n.natAbs).length ≤ 2000000 := Nat.le_trans (toL_len_le.2 (int_lt h1 h2)) (by omega)
theorem bigZ_of_neg {n : Int} (h : n < 0) : bigZ true n.natAbs = n := by simp [bigZ]; omega
theorem bigZ_of_pos {n : Int} (h : ¬ n < 0) : bigZ false n.natAbs = n := by simp [bigZ]; omega
theorem lim_neg {n : Int} (h1 : -9223372036854775808 ≤ n) (h2 : n ≤ 9223372036854775807) (h : n < 0) : limZ (bigZ true n.natAbs) = n := by rw [bigZ_of_neg h, limZ_eq (int_lt h1 h2)]
theorem lim_pos {n : Int} (h1 : -9223372036854775808 ≤ n) (h2 : n ≤ 9223372036854775807) (h : ¬ n < 0) : limZ (bigZ false n.natAbs) = n := by rw [bigZ_of_pos h, limZ_eq (int_lt h1 h2)]
theorem toL_min : toL 9223372036854775808 = [854775808, 223372036, 9] := by
  rw [toL_pos (by omega), toL_pos (by omega), toL_pos (by omega), show 9223372036854775808 / 1000000000 / 1000000000 / 1000000000 = 0 by omega, toL_zero]
  rfl
theorem own_minB {w : World} {g base : Nat} (hg : g = w.heap.size) (hb : base ≤ w.heap.size) : Own (w.alloc (.cells #[.int .i64 854775808, .int .i64 223372036, .int .i64 9] 3)) base 3 (.slice (some ⟨g, 0, none⟩) 3 3) (toL 9223372036854775808) := by
  subst hg
  rw [toL_min]
  exact own_lit [854775808, 223372036, 9] (by decide) hb

set_option maxHeartbeats 2000000 in
theorem spec_BigIntOf (n : Int) (w : World) (h1 : -9223372036854775808 ≤ n) (h2 : n ≤ 9223372036854775807) :
    Calls Tryd.prog 112 #[.int .i64 n] w (RetI n w) := by
  by_cases hmin : n = -9223372036854775808
  · have HL := Lib.hid (show limZ (bigZ true 9223372036854775808) = n by have := lim_neg h1 h2 (by omega); rwa [hmin] at this ⊢)
    have hb : (n == (-9223372036854775808 : Int)) = true := by simpa using hmin
    clear hmin
    go_enter Tryd.func112, Tryd.ntmps112
    go_wp2_with fail
    (with_reducible refine (spec_make true _ 9223372036854775808 (w.heap.size + 1) _ (own_minB (by first | omega | (simp; done) | (simp; omega)) (by first | omega | (simp; done) | (simp; omega))) (by first | omega | (simp; done) | (simp; omega))).mono ?_); rintro e w2 ⟨s2, A2, n2, c2, rfl, hs2, o2, b2⟩; obtain ⟨hc2, hf2⟩ := bxcell b2; have q2_0 := fun o => hc2 (w.heap.size) o (by first | omega | (simp; done) | (simp; omega)); have f2_0 := fun o => hf2 (w.heap.size) o (by first | omega | (simp; done) | (simp; omega)); have hz2 := b2.size; (try simp at hz2); have z2_0 : w.heap.size < w2.heap.size := (by omega); have n2_0 := Nat.ne_of_lt z2_0; have m2_0 := (Nat.ne_of_lt z2_0).symm
    rw [HL.out] at hs2 o2
    have HS2 := Lib.hid hs2
    have O2 := Lib.hid o2
    clear hs2 o2
    go_wp2
    exact bodyPost_ret (v := .agg #[.bool s2, .slice A2 n2 c2]) (by simp [results, Tryd.results112, go_sem, *]) rfl (ret_made rfl HS2.out (by refine Own.rebase (base := w.heap.size + 1) ?_ (by first | omega | (simp; done) | (simp; omega)); have this := O2.out; (try rw [List.nil_append] at this); repeat' (first | (with_reducible refine Own.far ?_ _ _ ?_) | (exact this) | (simp; done) | (simp; omega) | (simpa using this))) (by repeat' (first | (with_reducible exact Below.refl _ _) | (with_reducible refine Below.alloc ?_ ?_ _) | (with_reducible refine Below.setCell ?_ ?_ _) | (with_reducible refine below_drewN ?_ _) | (with_reducible refine Below.drew ?_) | (with_reducible refine below_step (by assumption) ?_ ?_) | omega | (simp; done) | (simp; omega))))
  have hb : (n == (-9223372036854775808 : Int)) = false := beq_eq_false_iff_ne.2 hmin
  by_cases hn : n < 0
  · have HL := Lib.hid (lim_neg h1 h2 hn)
    have HA := Lib.hid (show (-n).toNat = n.natAbs by omega)
    have h1' : -9223372036854775808 < n := by omega
    clear hmin
    go_enter Tryd.func112, Tryd.ntmps112
    go_wp2_with fail
    (with_reducible refine (spec_NatOf (-n) _ (by omega) (by omega)).mono ?_); rintro e w1 ⟨r1, rfl, o1, b1⟩; obtain ⟨hc1, hf1⟩ := bxcell b1; have q1_0 := fun o => hc1 (w.heap.size) o (by first | omega | (simp; done) | (simp; omega)); have f1_0 := fun o => hf1 (w.heap.size) o (by first | omega | (simp; done) | (simp; omega)); have hz1 := b1.size; (try simp at hz1); have z1_0 : w.heap.size < w1.heap.size := (by omega); have n1_0 := Nat.ne_of_lt z1_0; have m1_0 := (Nat.ne_of_lt z1_0).symm
    rw [HA.out] at o1
    have O1 := Lib.hid (o1.rebase (base' := w.heap.size + 1) (by first | omega | (simp; done) | (simp; omega)))
    clear o1
    go_wp2_with fail
    (with_reducible refine (spec_make true _ n.natAbs (w.heap.size + 1) _ O1.out (by first | omega | (simp; done) | (simp; omega))).mono ?_); rintro e w2 ⟨s2, A2, n2, c2, rfl, hs2, o2, b2⟩; obtain ⟨hc2, hf2⟩ := bxcell b2; have q2_0 := fun o => hc2 (w.heap.size) o (by first | omega | (simp; done) | (simp; omega)); have f2_0 := fun o => hf2 (w.heap.size) o (by first | omega | (simp; done) | (simp; omega)); have hz2 := b2.size; (try simp at hz2); have z2_0 : w.heap.size < w2.heap.size := (by omega); have n2_0 := Nat.ne_of_lt z2_0; have m2_0 := (Nat.ne_of_lt z2_0).symm
    rw [HL.out] at hs2 o2
    have HS2 := Lib.hid hs2
    have O2 := Lib.hid o2
    clear hs2 o2
    go_wp2
    exact bodyPost_ret (v := .agg #[.bool s2, .slice A2 n2 c2]) (by simp [results, Tryd.results112, go_sem, *]) rfl (ret_made rfl HS2.out (by refine Own.rebase (base := w.heap.size + 1) ?_ (by first | omega | (simp; done) | (simp; omega)); have this := O2.out; (try rw [List.nil_append] at this); repeat' (first | (with_reducible refine Own.far ?_ _ _ ?_) | (exact this) | (simp; done) | (simp; omega) | (simpa using this))) (by repeat' (first | (with_reducible exact Below.refl _ _) | (with_reducible refine Below.alloc ?_ ?_ _) | (with_reducible refine Below.setCell ?_ ?_ _) | (with_reducible refine below_drewN ?_ _) | (with_reducible refine Below.drew ?_) | (with_reducible refine below_step (by assumption) ?_ ?_) | omega | (simp; done) | (simp; omega))))
  · have HL := Lib.hid (lim_pos h1 h2 hn)
    have HA := Lib.hid (show n.toNat = n.natAbs by omega)
    clear hmin
    go_enter Tryd.func112, Tryd.ntmps112
    go_wp2_with fail
    (with_reducible refine (spec_NatOf n _ (by omega) (by omega)).mono ?_); rintro e w1 ⟨r1, rfl, o1, b1⟩; obtain ⟨hc1, hf1⟩ := bxcell b1; have q1_0 := fun o => hc1 (w.heap.size) o (by first | omega | (simp; done) | (simp; omega)); have f1_0 := fun o => hf1 (w.heap.size) o (by first | omega | (simp; done) | (simp; omega)); have hz1 := b1.size; (try simp at hz1); have z1_0 : w.heap.size < w1.heap.size := (by omega); have n1_0 := Nat.ne_of_lt z1_0; have m1_0 := (Nat.ne_of_lt z1_0).symm
    rw [HA.out] at o1
    have O1 := Lib.hid (o1.rebase (base' := w.heap.size + 1) (by first | omega | (simp; done) | (simp; omega)))
    clear o1
    go_wp2_with fail
    (with_reducible refine (spec_make false _ n.natAbs (w.heap.size + 1) _ O1.out (by first | omega | (simp; done) | (simp; omega))).mono ?_); rintro e w2 ⟨s2, A2, n2, c2, rfl, hs2, o2, b2⟩; obtain ⟨hc2, hf2⟩ := bxcell b2; have q2_0 := fun o => hc2 (w.heap.size) o (by first | omega | (simp; done) | (simp; omega)); have f2_0 := fun o => hf2 (w.heap.size) o (by first | omega | (simp; done) | (simp; omega)); have hz2 := b2.size; (try simp at hz2); have z2_0 : w.heap.size < w2.heap.size := (by omega); have n2_0 := Nat.ne_of_lt z2_0; have m2_0 := (Nat.ne_of_lt z2_0).symm
    rw [HL.out] at hs2 o2
    have HS2 := Lib.hid hs2
    have O2 := Lib.hid o2
    clear hs2 o2
    go_wp2
    exact bodyPost_ret (v := .agg #[.bool s2, .slice A2 n2 c2]) (by simp [results, Tryd.results112, go_sem, *]) rfl (ret_made rfl HS2.out (by refine Own.rebase (base := w.heap.size + 1) ?_ (by first | omega | (simp; done) | (simp; omega)); have this := O2.out; (try rw [List.nil_append] at this); repeat' (first | (with_reducible refine Own.far ?_ _ _ ?_) | (exact this) | (simp; done) | (simp; omega) | (simpa using this))) (by repeat' (first | (with_reducible exact Below.refl _ _) | (with_reducible refine Below.alloc ?_ ?_ _) | (with_reducible refine Below.setCell ?_ ?_ _) | (with_reducible refine below_drewN ?_ _) | (with_reducible refine Below.drew ?_) | (with_reducible refine below_step (by assumption) ?_ ?_) | omega | (simp; done) | (simp; omega))))
end Go.Proofs.YticekjagmcphbaaDoor

namespace Go.Proofs.YticekjagmcphbaaDoor
open Go.RowKit

theorem put_top {n d : Nat} {k : Int} (h : n < pw d) (hk0 : 0 < k) (hk : k < 1000000000) : ∃ l, toL n ++ [k] = toL l ∧ 0 < l ∧ l < pw (d + 1) := by
  have hl : Limbs (toL n ++ [k]) := (limbs_toL n).append (Limbs.cons (by omega) hk Limbs.nil)
  have hlast : (toL n ++ [k]).getLast? ≠ some 0 := by
    rw [List.getLast?_append, List.getLast?_singleton, Option.some_or]
    intro h1
    have := Option.some.inj h1
    omega
  have h1 := toL_of_limbs hl hlast
  have h2 := val_lt hl
  rw [List.length_append, List.length_singleton] at h2
  have h3 : pw ((toL n).length + 1) ≤ pw (d + 1) := pw_le (by have := toL_len_lt h; omega)
  refine ⟨(val (toL n ++ [k])).toNat, h1.symm, ?_, ?_⟩
  · rcases Nat.eq_zero_or_pos (val (toL n ++ [k])).toNat with h4 | h4
    · rw [h4, toL_zero] at h1
      have := congrArg List.length h1
      simp at this
    · exact h4
  · have := pw_pos (d + 1)
    omega
theorem parse_dec {m : Nat} (h : m < pw 60) : parseNatF (decF m) = (toL m, true) := by
  have h1 : (decF m).data.toList = Lib.decDigits m := rfl
  have h2 : (decF m).size = (Lib.decDigits m).length := by rw [← list_size, h1]
  have h3 := parse_good (s := decF m) (by
    unfold digitsB
    rw [h1, dec_all, h2]
    simp [dec_ne]) (by rw [h2]; exact dec_len_pw h (by omega)) (by
    rw [h1, h2]
    rcases Nat.eq_zero_or_pos m with h4 | h4
    · subst h4
      left
      rw [dec_small (by omega)]
      rfl
    · exact .inr (dec_head h4))
  rw [h3, h1, num_dec]
theorem fmtNat_size0 {m : Nat} (h : m < pw 3) : (decF m).size ≤ 27 := by
  have h2 : (decF m).size = (Lib.decDigits m).length := by rw [← list_size]; rfl
  rw [h2]
  exact dec_len_pw h (by omega)
theorem limN_small {n : Nat} (h : n < pw 60) : limN n = n := by unfold limN; rw [if_pos h]
theorem ok_lt {m k : Nat} (h : m < pw k) (hk : k ≤ 60) : okB (toL m) = true := okB_of_toL (Nat.lt_of_lt_of_le h (pw_le hk))

theorem dec_cons0 (m : Nat) : ∃ c r, Lib.decDigits m = c :: r ∧ digB c = true := by
  have h1 := dec_ne m
  have h2 := dec_all m
  cases h : Lib.decDigits m with
  | nil => rw [h] at h1; cases h1
  | cons c r =>
    rw [h, List.all_cons, Bool.and_eq_true] at h2
    exact ⟨c, r, rfl, h2.1⟩
end Go.Proofs.YticekjagmcphbaaDoor

namespace Go.Proofs.YticekjagmcphbaaDoor
open Go.RowKit

/-- What a draw of a big int ends in: fewer than four limbs. -/
def DrewZ (B g : Nat) (w : World) (en : Ending) (w' : World) : Prop :=
  ∃ (z : Int) (A : Option Addr) (n c : Nat), en = .returned (.agg #[.bool (decide (z < 0)), .slice A n c]) ∧ z.natAbs < pw 3 ∧ Own w' w.heap.size 3 (.slice A n c) (toL z.natAbs) ∧ Cur w' B g ∧ Only g (g + 1) w w'
theorem big_thousand : 1000 < pw 3 := by rw [pw_succ, pw_succ, pw_succ, pw_zero]; omega

theorem spec_l02Nat3 (B g : Nat) (w : World) (h : Cur w B g) :
    Calls Tryd.prog 81 #[.pointer (some ⟨g, 0, none⟩), .int .i64 3] w fun e w' => ∃ r m, e = .returned r ∧ m < pw 3 ∧ Own w' w.heap.size 3 r (toL m) ∧ Cur w' B g ∧ Only g (g + 1) w w' := spec_l02Nat B g 3 w h (by omega)
set_option maxHeartbeats 4000000 in
theorem spec_l03Draw (B g : Nat) (w : World) (h : Cur w B g) :
    Calls Tryd.prog 89 #[.pointer (some ⟨g, 0, none⟩), .int .i64 3] w (DrewZ B g w) := by
  have HC := Lib.hid h
  have hgl := h.lt
  clear h
  go_enter Tryd.func89, Tryd.ntmps89
  go_wp2_with fail
  (with_reducible refine (spec_l01Once B g 3 _ (HC.out.below (by repeat' (first | (with_reducible exact Below.refl _ _) | (with_reducible refine Below.alloc ?_ ?_ _) | (with_reducible refine Below.setCell ?_ ?_ _) | (with_reducible refine below_drewN ?_ _) | (with_reducible refine Below.drew ?_) | (with_reducible refine below_step (by assumption) ?_ ?_) | omega | (simp; done) | (simp; omega)))) (by omega) (by omega)).mono ?_); rintro e w1 ⟨b1, rfl, c1, o1⟩; have q1_0 := fun o => o1.cell (b := w.heap.size) (o := o) (by first | omega | (simp; done) | (simp; omega)) (by first | (left; first | omega | (simp; done) | (simp; omega)) | (right; first | omega | (simp; done) | (simp; omega))); have f1_0 := fun o => o1.frozen (b := w.heap.size) (o := o) (by first | omega | (simp; done) | (simp; omega)) (by first | (left; first | omega | (simp; done) | (simp; omega)) | (right; first | omega | (simp; done) | (simp; omega))); have hz1 := o1.size; (try simp at hz1); have z1_0 : w.heap.size < w1.heap.size := (by omega); have n1_0 := Nat.ne_of_lt z1_0; have m1_0 := (Nat.ne_of_lt z1_0).symm; have C1 := Lib.hid c1; clear c1
  have N1 := Lib.hid ((Only.of_below (lo := g) (hi := g + 1) (show Below w.heap.size w _ from (by repeat' (first | (with_reducible exact Below.refl _ _) | (with_reducible refine Below.alloc ?_ ?_ _) | (with_reducible refine Below.setCell ?_ ?_ _) | (with_reducible refine below_drewN ?_ _) | (with_reducible refine Below.drew ?_) | (with_reducible refine below_step (by assumption) ?_ ?_) | omega | (simp; done) | (simp; omega))))).trans o1)
  cases b1 with
  | true =>
    go_wp2_with fail
    (with_reducible refine (spec_l01Below B g 2001 _ C1.out (by omega) (by omega)).mono ?_); rintro e w2 ⟨x2, rfl, xa2, xb2, c2, o2⟩; have q2_0 := fun o => o2.cell (b := w.heap.size) (o := o) (by first | omega | (simp; done) | (simp; omega)) (by first | (left; first | omega | (simp; done) | (simp; omega)) | (right; first | omega | (simp; done) | (simp; omega))); have f2_0 := fun o => o2.frozen (b := w.heap.size) (o := o) (by first | omega | (simp; done) | (simp; omega)) (by first | (left; first | omega | (simp; done) | (simp; omega)) | (right; first | omega | (simp; done) | (simp; omega))); have hz2 := o2.size; (try simp at hz2); have z2_0 : w.heap.size < w2.heap.size := (by omega); have n2_0 := Nat.ne_of_lt z2_0; have m2_0 := (Nat.ne_of_lt z2_0).symm; have C2 := Lib.hid c2; clear c2
    have N2 := Lib.hid (N1.out.trans o2)
    go_wp2_with fail
    (with_reducible refine (spec_BigIntOf (x2 - 1000) _ (by omega) (by omega)).mono ?_); rintro e w3 ⟨A3, n3, c3, rfl, o3, b3⟩; obtain ⟨hc3, hf3⟩ := bxcell b3; have q3_0 := fun o => hc3 (w.heap.size) o (by first | omega | (simp; done) | (simp; omega)); have f3_0 := fun o => hf3 (w.heap.size) o (by first | omega | (simp; done) | (simp; omega)); have hz3 := b3.size; (try simp at hz3); have z3_0 : w.heap.size < w3.heap.size := (by omega); have n3_0 := Nat.ne_of_lt z3_0; have m3_0 := (Nat.ne_of_lt z3_0).symm; have O3 := Lib.hid o3; clear o3
    have C3 := Lib.hid (C2.out.below b3)
    have N3 := Lib.hid (N2.out.step (b3.mono (by first | omega | (simp; done) | (simp; omega))))
    have hbd : (x2 - 1000).natAbs < pw 3 := by have := big_thousand; omega
    have HBD := Lib.hid hbd
    clear hbd b3 o1 o2
    go_wp2
    refine bodyPost_ret (v := .agg #[.bool (decide (x2 - 1000 < 0)), .slice A3 n3 c3]) (by simp [results, Tryd.results89, go_sem, *]) rfl ⟨x2 - 1000, A3, n3, c3, rfl, HBD.out, ?_, ?_, ?_⟩
    · exact (by refine Own.rebase (base := w2.heap.size) ?_ (by first | omega | (simp; done) | (simp; omega)); have this := O3.out; (try rw [List.nil_append] at this); repeat' (first | (with_reducible refine Own.far ?_ _ _ ?_) | (exact this) | (simp; done) | (simp; omega) | (simpa using this)))
    · exact C3.out.under (X := w.heap.size) (by repeat' (first | (with_reducible exact Below.refl _ _) | (with_reducible refine Below.alloc ?_ ?_ _) | (with_reducible refine Below.setCell ?_ ?_ _) | (with_reducible refine below_drewN ?_ _) | (with_reducible refine Below.drew ?_) | (with_reducible refine below_step (by assumption) ?_ ?_) | omega | (simp; done) | (simp; omega))) hgl
    · exact N3.out.step (by repeat' (first | (with_reducible exact Below.refl _ _) | (with_reducible refine Below.alloc ?_ ?_ _) | (with_reducible refine Below.setCell ?_ ?_ _) | (with_reducible refine below_drewN ?_ _) | (with_reducible refine Below.drew ?_) | (with_reducible refine below_step (by assumption) ?_ ?_) | omega | (simp; done) | (simp; omega)))
  | false =>
    go_wp2_with fail
    (with_reducible refine (spec_l01Once B g 2 _ C1.out (by omega) (by omega)).mono ?_); rintro e w2 ⟨b2, rfl, c2, o2⟩; have q2_0 := fun o => o2.cell (b := w.heap.size) (o := o) (by first | omega | (simp; done) | (simp; omega)) (by first | (left; first | omega | (simp; done) | (simp; omega)) | (right; first | omega | (simp; done) | (simp; omega))); have f2_0 := fun o => o2.frozen (b := w.heap.size) (o := o) (by first | omega | (simp; done) | (simp; omega)) (by first | (left; first | omega | (simp; done) | (simp; omega)) | (right; first | omega | (simp; done) | (simp; omega))); have hz2 := o2.size; (try simp at hz2); have z2_0 : w.heap.size < w2.heap.size := (by omega); have n2_0 := Nat.ne_of_lt z2_0; have m2_0 := (Nat.ne_of_lt z2_0).symm; have C2 := Lib.hid c2; clear c2
    have N2 := Lib.hid (N1.out.trans o2)
    go_wp2_with fail
    (with_reducible refine (spec_l02Nat3 B g _ C2.out).mono ?_); rintro e w3 ⟨r3, m3, rfl, hm3, p3, c3, o3⟩; have q3_0 := fun o => o3.cell (b := w.heap.size) (o := o) (by first | omega | (simp; done) | (simp; omega)) (by first | (left; first | omega | (simp; done) | (simp; omega)) | (right; first | omega | (simp; done) | (simp; omega))); have f3_0 := fun o => o3.frozen (b := w.heap.size) (o := o) (by first | omega | (simp; done) | (simp; omega)) (by first | (left; first | omega | (simp; done) | (simp; omega)) | (right; first | omega | (simp; done) | (simp; omega))); have hz3 := o3.size; (try simp at hz3); have z3_0 : w.heap.size < w3.heap.size := (by omega); have n3_0 := Nat.ne_of_lt z3_0; have m3_0 := (Nat.ne_of_lt z3_0).symm; have C3 := Lib.hid c3; have P3 := Lib.hid p3; have HM3 := Lib.hid hm3; clear c3 p3 hm3
    have N3 := Lib.hid (N2.out.trans o3)
    go_wp2_with fail
    (with_reducible refine (spec_l03Make b2 r3 m3 _ P3.out.sl).mono ?_); rintro e w4 ⟨u4, A4, n4, c4, rfl, hu4, o4, b4⟩; obtain ⟨hc4, hf4⟩ := bxcell b4; have q4_0 := fun o => hc4 (w.heap.size) o (by first | omega | (simp; done) | (simp; omega)); have f4_0 := fun o => hf4 (w.heap.size) o (by first | omega | (simp; done) | (simp; omega)); have hz4 := b4.size; (try simp at hz4); have z4_0 : w.heap.size < w4.heap.size := (by omega); have n4_0 := Nat.ne_of_lt z4_0; have m4_0 := (Nat.ne_of_lt z4_0).symm
    have hlz : limZ (bigZ b2 m3) = bigZ b2 m3 := limZ_small (Nat.lt_of_lt_of_le HM3.out (pw_le (by omega)))
    rw [hlz] at hu4 o4
    subst hu4
    have O4 := Lib.hid o4
    have C4 := Lib.hid (C3.out.below b4)
    have N4 := Lib.hid (N3.out.step (b4.mono (by first | omega | (simp; done) | (simp; omega))))
    have HBD : Hid ((bigZ b2 m3).natAbs < pw 3) := Lib.hid (by rw [bigZ_abs]; exact HM3.out)
    obtain ⟨z, hz⟩ : ∃ z, z = bigZ b2 m3 := ⟨_, rfl⟩
    rw [← hz] at O4 HBD ⊢
    clear b4 o1 o2 o3 o4 hlz hz
    go_wp2
    refine bodyPost_ret (v := .agg #[.bool (decide (z < 0)), .slice A4 n4 c4]) (by simp [results, Tryd.results89, go_sem, *]) rfl ⟨z, A4, n4, c4, rfl, HBD.out, ?_, ?_, ?_⟩
    · exact (by refine Own.rebase (base := w3.heap.size) ?_ (by first | omega | (simp; done) | (simp; omega)); have this := O4.out; (try rw [List.nil_append] at this); repeat' (first | (with_reducible refine Own.far ?_ _ _ ?_) | (exact this) | (simp; done) | (simp; omega) | (simpa using this)))
    · exact C4.out.under (X := w.heap.size) (by repeat' (first | (with_reducible exact Below.refl _ _) | (with_reducible refine Below.alloc ?_ ?_ _) | (with_reducible refine Below.setCell ?_ ?_ _) | (with_reducible refine below_drewN ?_ _) | (with_reducible refine Below.drew ?_) | (with_reducible refine below_step (by assumption) ?_ ?_) | omega | (simp; done) | (simp; omega))) hgl
    · exact N4.out.step (by repeat' (first | (with_reducible exact Below.refl _ _) | (with_reducible refine Below.alloc ?_ ?_ _) | (with_reducible refine Below.setCell ?_ ?_ _) | (with_reducible refine below_drewN ?_ _) | (with_reducible refine Below.drew ?_) | (with_reducible refine below_step (by assumption) ?_ ?_) | omega | (simp; done) | (simp; omega)))
/-- What MakeBigInt ends in. -/
def MadeBig (w : World) (en : Ending) (w' : World) : Prop :=
  ∃ (z : Int) (A : Option Addr) (n c : Nat), en = .returned (.agg #[.bool (decide (z < 0)), .slice A n c]) ∧ z.natAbs < pw 3 ∧ Own w' w.heap.size 3 (.slice A n c) (toL z.natAbs) ∧ Below w.heap.size w w'
set_option maxHeartbeats 2000000 in
theorem spec_MakeBigInt (v : Value) (n : Nat) (k : Int) (w : World) (h : SlB w w.heap.size v n) (hn : n ≤ 1048576) (k0 : 0 ≤ k) (k1 : k ≤ 100) :
    Calls Tryd.prog 47 #[v, .int .i64 k] w (MadeBig w) := by
  have HB := Lib.hid h
  clear h
  go_enter Tryd.func47, Tryd.ntmps47
  go_wp2_with fail
  (with_reducible refine (spec_l32New v n (4 * k) _ (HB.out.up (by repeat' (first | (with_reducible exact Below.refl _ _) | (with_reducible refine Below.alloc ?_ ?_ _) | (with_reducible refine Below.setCell ?_ ?_ _) | (with_reducible refine below_drewN ?_ _) | (with_reducible refine Below.drew ?_) | (with_reducible refine below_step (by assumption) ?_ ?_) | omega | (simp; done) | (simp; omega))) (by first | omega | (simp; done) | (simp; omega))) hn (by omega) (by omega)).mono ?_); rintro e w1 ⟨g1, rfl, c1, b1⟩; obtain ⟨hc1, hf1⟩ := bxcell b1; have q1_0 := fun o => hc1 (w.heap.size) o (by first | omega | (simp; done) | (simp; omega)); have f1_0 := fun o => hf1 (w.heap.size) o (by first | omega | (simp; done) | (simp; omega)); have hz1 := b1.size; (try simp at hz1); have z1_0 : w.heap.size < w1.heap.size := (by omega); have n1_0 := Nat.ne_of_lt z1_0; have m1_0 := (Nat.ne_of_lt z1_0).symm; have C1 := Lib.hid c1; have hgb := c1.base; clear c1
  (try simp at hgb)
  go_wp2_with fail
  (with_reducible refine (spec_l03Draw _ g1 _ C1.out).mono ?_); rintro e w2 ⟨z2, A2, n2, c2, rfl, hq2, p2, d2, o2⟩; have q2_0 := fun o => o2.cell (b := w.heap.size) (o := o) (by first | omega | (simp; done) | (simp; omega)) (by first | (left; first | omega | (simp; done) | (simp; omega)) | (right; first | omega | (simp; done) | (simp; omega))); have f2_0 := fun o => o2.frozen (b := w.heap.size) (o := o) (by first | omega | (simp; done) | (simp; omega)) (by first | (left; first | omega | (simp; done) | (simp; omega)) | (right; first | omega | (simp; done) | (simp; omega))); have hz2 := o2.size; (try simp at hz2); have z2_0 : w.heap.size < w2.heap.size := (by omega); have n2_0 := Nat.ne_of_lt z2_0; have m2_0 := (Nat.ne_of_lt z2_0).symm; have P2 := Lib.hid p2; have HZ2 := Lib.hid hq2; clear p2 d2 hq2
  have b2 := (o2.below (Nat.le_of_lt C1.out.lt)).mono hgb
  clear o2
  go_wp2
  refine bodyPost_ret (v := .agg #[.bool (decide (z2 < 0)), .slice A2 n2 c2]) (by simp [results, Tryd.results47, go_sem, *]) rfl ⟨z2, A2, n2, c2, rfl, HZ2.out, ?_, (by repeat' (first | (with_reducible exact Below.refl _ _) | (with_reducible refine Below.alloc ?_ ?_ _) | (with_reducible refine Below.setCell ?_ ?_ _) | (with_reducible refine below_drewN ?_ _) | (with_reducible refine Below.drew ?_) | (with_reducible refine below_step (by assumption) ?_ ?_) | omega | (simp; done) | (simp; omega)))⟩
  exact (by refine Own.rebase (base := w1.heap.size) ?_ (by first | omega | (simp; done) | (simp; omega)); have this := P2.out; (try rw [List.nil_append] at this); repeat' (first | (with_reducible refine Own.far ?_ _ _ ?_) | (exact this) | (simp; done) | (simp; omega) | (simpa using this)))
end Go.Proofs.YticekjagmcphbaaDoor

namespace Go.Proofs.YticekjagmcphbaaDoor
open Go.RowKit

theorem okI {z : Int} (h : z.natAbs < pw 60) : bigOk (decide (z < 0)) (toL z.natAbs) = true := by
  unfold bigOk
  rw [okB_of_toL h, Bool.true_and, Bool.not_eq_true', Bool.and_eq_false_iff]
  by_cases hz : z < 0
  · right
    rw [toL_pos (by omega)]
    rfl
  · exact .inl (decide_eq_false hz)
theorem okN {l : Nat} (h : l < pw 60) : bigOk false (toL l) = true := by
  unfold bigOk
  rw [okB_of_toL h]
  rfl
theorem zvI (z : Int) : zv (decide (z < 0)) (toL z.natAbs) = z := by
  rw [zv_toL]
  unfold bigZ
  by_cases hz : z < 0
  · rw [if_pos (decide_eq_true hz)]; omega
  · rw [if_neg (by simpa using hz)]; omega
theorem zvN (l : Nat) : zv false (toL l) = (l : Int) := by rw [zv_toL]; rfl
theorem limI {z : Int} (h : z.natAbs < pw 60) : limZ z = z := by unfold limZ; rw [if_pos h]
theorem addI {a b : Int} (ha : a.natAbs < pw 60) (hb : b.natAbs < pw 60) (h : (a + b).natAbs < pw 60) : bigAddF (decide (a < 0)) (decide (b < 0)) (toL a.natAbs) (toL b.natAbs) = a + b := by
  unfold bigAddF
  rw [okI ha, okI hb, Bool.and_true, if_pos rfl, zvI, zvI, limI h]
theorem addN {a : Int} {b : Nat} (ha : a.natAbs < pw 60) (hb : b < pw 60) (h : (a + (b : Int)).natAbs < pw 60) : bigAddF (decide (a < 0)) false (toL a.natAbs) (toL b) = a + (b : Int) := by
  unfold bigAddF
  rw [okI ha, okN hb, Bool.and_true, if_pos rfl, zvI, zvN, limI h]
theorem subI {a b : Int} (ha : a.natAbs < pw 60) (hb : b.natAbs < pw 60) (h : (a - b).natAbs < pw 60) : bigSubF (decide (a < 0)) (decide (b < 0)) (toL a.natAbs) (toL b.natAbs) = a - b := by
  unfold bigSubF
  rw [okI ha, okI hb, Bool.and_true, if_pos rfl, zvI, zvI, limI h]
theorem mulN {a : Int} {b : Nat} (ha : a.natAbs < pw 60) (hb : b < pw 60) (h : (a * (b : Int)).natAbs < pw 60) : bigMulF (decide (a < 0)) false (toL a.natAbs) (toL b) = a * (b : Int) := by
  unfold bigMulF
  rw [okI ha, okN hb, Bool.and_true, if_pos rfl, zvI, zvN, limI h]
theorem cmpI (a : Int) : bigCmpF (decide (a < 0)) (decide (a < 0)) (toL a.natAbs) (toL a.natAbs) = 0 := by
  unfold bigCmpF
  split
  · unfold cmpZ
    rw [if_neg (by omega), if_neg (by omega)]
  · rfl
theorem pw34 : pw 3 + pw 4 < pw 60 := by
  have h1 : pw 3 ≤ pw 4 := pw_le (by omega)
  have h2 : pw 5 = 1000000000 * pw 4 := pw_succ 4
  have h3 : pw 5 ≤ pw 60 := pw_le (by omega)
  have h4 := pw_pos 4
  omega
theorem floor_spec {z : Int} {l : Nat} (hz : z.natAbs < pw 3) (h0 : 0 < l) (hl : l < pw 4) :
    ∃ (q : Int) (r : Nat), bigFloorF (decide (z < 0)) (toL z.natAbs) (toL l) = (q, r) ∧ q * (l : Int) + (r : Int) = z ∧ r < l ∧ q.natAbs < pw 60 ∧ (q * (l : Int)).natAbs < pw 60 := by
  have hp := pw34
  have h1 := floor_yes (s := decide (z < 0)) (m := z.natAbs) (d := l) (okI (by omega)) (okB_of_toL (by omega)) h0
  have hd := Nat.div_add_mod' z.natAbs l
  have hm := Nat.mod_lt z.natAbs h0
  have hq1 := Nat.div_le_self z.natAbs l
  have hql := Nat.div_mul_le_self z.natAbs l
  obtain ⟨Q, hQ⟩ : ∃ Q, Q = z.natAbs / l := ⟨_, rfl⟩
  obtain ⟨R, hR⟩ : ∃ R, R = z.natAbs % l := ⟨_, rfl⟩
  rw [← hQ] at hd hq1 hql
  rw [← hR] at hd hm
  have hQl : (Q : Int) * (l : Int) = ((Q * l : Nat) : Int) := by rw [Int.natCast_mul]
  by_cases hz0 : z < 0
  · by_cases hr : 0 < R
    · refine ⟨-((Q + 1 : Nat) : Int), l - R, ?_, ?_, by omega, by omega, ?_⟩
      · rw [h1, floorQ_round (decide_eq_true hz0) (by rw [← hR]; exact hr), floorR_round (decide_eq_true hz0) (by rw [← hR]; exact hr), ← hQ, ← hR, limZ_small (by omega)]
        rfl
      · have e : -((Q + 1 : Nat) : Int) * (l : Int) = -((Q : Int) * (l : Int)) - (l : Int) := by
          rw [Int.natCast_add, Int.neg_mul, Int.add_mul]
          simp
          omega
        rw [e, hQl]
        omega
      · have e : -((Q + 1 : Nat) : Int) * (l : Int) = -((Q : Int) * (l : Int)) - (l : Int) := by
          rw [Int.natCast_add, Int.neg_mul, Int.add_mul]
          simp
          omega
        rw [e, hQl]
        omega
    · have hns : ¬ (decide (z < 0) = true ∧ 0 < z.natAbs % l) := by rw [← hR]; exact fun h => hr h.2
      refine ⟨-(Q : Int), R, ?_, ?_, hm, by omega, ?_⟩
      · rw [h1, floorQ_plain hns, floorR_plain hns, ← hQ, ← hR, limZ_small (by omega)]
        unfold bigZ
        rw [if_pos (decide_eq_true hz0)]
      · rw [Int.neg_mul, hQl]
        omega
      · rw [Int.neg_mul, hQl]
        omega
  · have hns : ¬ (decide (z < 0) = true ∧ 0 < z.natAbs % l) := fun h => hz0 (of_decide_eq_true h.1)
    refine ⟨(Q : Int), R, ?_, ?_, hm, by omega, ?_⟩
    · rw [h1, floorQ_plain hns, floorR_plain hns, ← hQ, ← hR, limZ_small (by omega)]
      unfold bigZ
      rw [if_neg (by simpa using hz0)]
    · rw [hQl]
      omega
    · rw [hQl]
      omega
theorem minus_dec (m : Nat) : minusB (decF m) = false := by
  obtain ⟨c, r, hcr, hc⟩ := dec_cons0 m
  unfold minusB
  rw [show (decF m).data.toList = Lib.decDigits m from rfl, hcr, List.head?_cons]
  refine decide_eq_false ?_
  intro h
  have h2 := digB_nat hc
  rw [Option.some.inj h] at h2
  simp at h2
theorem parse_ok_dec {m : Nat} (h : m < pw 60) : parseOk (decF m) = true := by
  have h1 := congrArg Prod.snd (parse_dec h)
  rw [parse_snd] at h1
  exact h1
theorem parse_big {z : Int} (h : z.natAbs < pw 60) : parseBigF (fmtBigF (decide (z < 0)) (toL z.natAbs)) = (z, true) := by
  have ho := okI h
  have hn : okB (toL z.natAbs) = true := okB_of_toL h
  by_cases hz : z < 0
  · have e1 : decide (z < 0) = true := decide_eq_true hz
    rw [e1] at ho ⊢
    rw [fmtBig_neg ho, fmtNat_yes hn]
    have hm : minusB (⟨#[45]⟩ ++ decF z.natAbs) = true := by
      unfold minusB
      simp
    have hb : behindB (⟨#[45]⟩ ++ decF z.natAbs) = decF z.natAbs := by
      unfold behindB
      rw [if_pos hm]
      apply ByteArray.ext
      rw [← Array.toList_inj, ByteArray.data_extract, Array.toList_extract, List.extract_eq_take_drop]
      rw [show (⟨#[45]⟩ ++ decF z.natAbs : ByteArray).data.toList = 45 :: (decF z.natAbs).data.toList by simp, List.drop_succ_cons, List.drop_zero]
      exact List.take_of_length_le (by rw [list_size, ByteArray.size_append]; show _ ≤ 1 + _ - 1; omega)
    rw [pb_good (by rw [hb]; exact parse_ok_dec h) (by
      intro _
      rw [hb, show (decF z.natAbs).data.toList = Lib.decDigits z.natAbs from rfl, num_dec]
      omega), hb, hm, show (decF z.natAbs).data.toList = Lib.decDigits z.natAbs from rfl, num_dec]
    unfold bigZ
    rw [if_pos rfl]
    congr 1
    omega
  · have e1 : decide (z < 0) = false := decide_eq_false hz
    rw [e1] at ho ⊢
    rw [fmtBig_pos ho, fmtNat_yes hn]
    have hm := minus_dec z.natAbs
    have hb : behindB (decF z.natAbs) = decF z.natAbs := by unfold behindB; rw [if_neg (by rw [hm]; simp)]
    rw [pb_good (by rw [hb]; exact parse_ok_dec h) (by intro h9; rw [hm] at h9; cases h9), hb, hm, show (decF z.natAbs).data.toList = Lib.decDigits z.natAbs from rfl, num_dec]
    unfold bigZ
    rw [if_neg (by simp)]
    congr 1
    omega
end Go.Proofs.YticekjagmcphbaaDoor

namespace Go.Proofs.YticekjagmcphbaaDoor
open Go.ChangeShapes Go.WideShapes Go.ChangeAt Go.RowKit

set_option maxRecDepth 100000 in
set_option maxHeartbeats 16000000 in
theorem walk_FnBigInts (w : World) (ht : Tab w) (v0 : Value) (n : Nat) (h0 : SlB w w.heap.size v0 n) :
    Calls Tryd.prog 11 #[v0] w fun e w' => e = .returned (.bool true) ∧ Below w.heap.size w w' := by
  have HB := Lib.hid h0
  have HT := Lib.hid ht
  obtain ⟨A, c, rfl, s1, s2, s3⟩ := h0
  have hmx : n ≤ 9223372036854775807 := by unfold maxLen at s2; omega
  clear s3 ht
  by_cases hbig : 1048576 < n
  · go_enter Tryd.func11, Tryd.ntmps11
    go_wp2
    go_ret
    exact ⟨rfl, Below.refl _ _⟩
  go_enter Tryd.func11, Tryd.ntmps11
  go_wp2_with fail
  (with_reducible refine (spec_MakeBigInt _ n 0 _ HB.out (by omega) (by omega) (by omega)).mono ?_); rintro e w1 ⟨x1, A1, n1, c1, rfl, hx1, o1, b1⟩; obtain ⟨hc1, hf1⟩ := bxcell b1; have hz1 := b1.size; (try simp at hz1); have O1 := Lib.hid (OwnR.of o1); have HX1 := Lib.hid hx1; clear o1 hx1
  go_wp2_with fail
  (with_reducible refine (spec_MakeBigInt _ n 1 _ (HB.out.up (by repeat' (first | (with_reducible exact Below.refl _ _) | (with_reducible refine Below.alloc ?_ ?_ _) | (with_reducible refine Below.setCell ?_ ?_ _) | (with_reducible refine below_drewN ?_ _) | (with_reducible refine Below.drew ?_) | (with_reducible refine below_step (by assumption) ?_ ?_) | omega | (simp; done) | (simp; omega))) (by first | omega | (simp; done) | (simp; omega))) (by omega) (by omega) (by omega)).mono ?_); rintro e w2 ⟨x2, A2, n2, c2, rfl, hx2, o2, b2⟩; obtain ⟨hc2, hf2⟩ := bxcell b2; have q2_0 := fun o => hc2 (w1.heap.size) o (by first | omega | (simp; done) | (simp; omega)); have f2_0 := fun o => hf2 (w1.heap.size) o (by first | omega | (simp; done) | (simp; omega)); have hz2 := b2.size; (try simp at hz2); have z2_0 : w1.heap.size < w2.heap.size := (by omega); have n2_0 := Nat.ne_of_lt z2_0; have m2_0 := (Nat.ne_of_lt z2_0).symm; have O2 := Lib.hid ((OwnR.of o2).wide (lo' := w1.heap.size + 1) (by first | omega | (simp; done) | (simp; omega)) (Nat.le_refl _)); have HX2 := Lib.hid hx2; clear o2 hx2
  go_wp2_with fail
  (with_reducible refine (spec_MakeNat _ n 2 _ (HB.out.up (by repeat' (first | (with_reducible exact Below.refl _ _) | (with_reducible refine Below.alloc ?_ ?_ _) | (with_reducible refine Below.setCell ?_ ?_ _) | (with_reducible refine below_drewN ?_ _) | (with_reducible refine Below.drew ?_) | (with_reducible refine below_step (by assumption) ?_ ?_) | omega | (simp; done) | (simp; omega))) (by first | omega | (simp; done) | (simp; omega))) (by omega) (by omega) (by omega)).mono ?_); rintro e w3 ⟨r3, l0, rfl, hl3, o3, b3⟩; obtain ⟨hc3, hf3⟩ := bxcell b3; have q3_0 := fun o => hc3 (w1.heap.size) o (by first | omega | (simp; done) | (simp; omega)); have q3_1 := fun o => hc3 (w2.heap.size) o (by first | omega | (simp; done) | (simp; omega)); have f3_0 := fun o => hf3 (w1.heap.size) o (by first | omega | (simp; done) | (simp; omega)); have f3_1 := fun o => hf3 (w2.heap.size) o (by first | omega | (simp; done) | (simp; omega)); have hz3 := b3.size; (try simp at hz3); have z3_0 : w1.heap.size < w3.heap.size := (by omega); have n3_0 := Nat.ne_of_lt z3_0; have m3_0 := (Nat.ne_of_lt z3_0).symm; have z3_1 : w2.heap.size < w3.heap.size := (by omega); have n3_1 := Nat.ne_of_lt z3_1; have m3_1 := (Nat.ne_of_lt z3_1).symm; have O3 := Lib.hid (Own.rebase (base' := w2.heap.size + 1) o3 (by first | omega | (simp; done) | (simp; omega))); have hlen := toL_len_lt hl3; clear o3
  obtain ⟨l, hl, hl1, hl2⟩ := put_top (k := 7) hl3 (by omega) (by omega)
  have HL := Lib.hid hl
  have HLP := Lib.hid hl1
  have HLL := Lib.hid (show l < pw 4 from hl2)
  clear hl3 hl hl1 hl2
  go_wp2_with (at_builtin; refine wpList_app1 _ rfl _ _ rfl Tryd.intP O3.out rfl rfl (by omega) (by first | omega | (simp; done) | (simp; omega)) ?_; intro r4 w4 hown' b4 hg'; clear hg'; refine Hid.out ?_)
  refine Lib.hid ?_
  have hz4 := b4.size
  have O4 := Lib.hid (OwnR.of (HL.out ▸ hown'))
  have q4_0 := fun o => b4.cell (p := ⟨w1.heap.size, o, none⟩) (by first | omega | (simp; done) | (simp; omega))
  have q4_1 := fun o => b4.cell (p := ⟨w2.heap.size, o, none⟩) (by first | omega | (simp; done) | (simp; omega))
  obtain ⟨D4, c4, hv4, _, f4, _⟩ := O4.out.1.form
  subst hv4
  have hl4 : ((toL l).length : Int) ≤ 4 := by have := toL_len_lt HLL.out; omega
  have HX1P := Lib.hid (Nat.lt_trans HX1.out (show pw 3 < pw 60 by have := pw34; omega))
  have HX2P := Lib.hid (Nat.lt_trans HX2.out (show pw 3 < pw 60 by have := pw34; omega))
  obtain ⟨q, r, e1, e2, e3, e4, e5⟩ := floor_spec HX1.out HLP.out HLL.out
  have E1 := Lib.hid e1
  have E2 := Lib.hid e2
  have E3 := Lib.hid e3
  have E4 := Lib.hid e4
  have E5 := Lib.hid e5
  have HLO := Lib.hid (show l < pw 60 by have := HLL.out; have := pw34; omega)
  have HRO := Lib.hid (show r < pw 60 by have := HLO.out; omega)
  have z4_0 : w1.heap.size < w4.heap.size := by omega
  have z4_1 : w2.heap.size < w4.heap.size := by omega
  clear hown' hlen O3 f4 e1 e2 e3 e4 e5
  go_wp2_with fail
  (with_reducible refine (impl_FloorV _ _ _ _ (.slice D4 (toL l).length c4) (toL x1.natAbs) (toL l) _ (OwnR.here O1.out (by repeat' (first | (with_reducible exact Below.refl _ _) | (with_reducible refine Below.alloc ?_ ?_ _) | (with_reducible refine Below.setCell ?_ ?_ _) | (with_reducible refine below_drewN ?_ _) | (with_reducible refine Below.drew ?_) | (with_reducible refine below_step (by assumption) ?_ ?_) | omega | (simp; done) | (simp; omega)))).sl (OwnR.here O4.out (by repeat' (first | (with_reducible exact Below.refl _ _) | (with_reducible refine Below.alloc ?_ ?_ _) | (with_reducible refine Below.setCell ?_ ?_ _) | (with_reducible refine below_drewN ?_ _) | (with_reducible refine Below.drew ?_) | (with_reducible refine below_step (by assumption) ?_ ?_) | omega | (simp; done) | (simp; omega)))).sl).mono ?_); rintro e w5 ⟨A5, n5, c5, v5, lo5, hi5, lp5, hp5, rfl, o5, p5, ea5, eb5, ed5, ee5, ef5, b5⟩; obtain ⟨hc5, hf5⟩ := bxcell b5; have q5_0 := fun o => hc5 (w1.heap.size) o (by first | omega | (simp; done) | (simp; omega)); have q5_1 := fun o => hc5 (w2.heap.size) o (by first | omega | (simp; done) | (simp; omega)); have f5_0 := fun o => hf5 (w1.heap.size) o (by first | omega | (simp; done) | (simp; omega)); have f5_1 := fun o => hf5 (w2.heap.size) o (by first | omega | (simp; done) | (simp; omega)); have hz5 := b5.size; (try simp at hz5); have z5_0 : w1.heap.size < w5.heap.size := (by omega); have n5_0 := Nat.ne_of_lt z5_0; have m5_0 := (Nat.ne_of_lt z5_0).symm; have z5_1 : w2.heap.size < w5.heap.size := (by omega); have n5_1 := Nat.ne_of_lt z5_1; have m5_1 := (Nat.ne_of_lt z5_1).symm
  rw [E1.out] at o5 p5
  rw [E1.out]
  obtain ⟨D5, d5, hv5, _, f5, _⟩ := p5.1.form
  subst hv5
  have hr5 : ((toL (q, r).2).length : Int) ≤ 60 := by have h9 := toL_len_lt HRO.out; show ((toL r).length : Int) ≤ 60; omega
  have O5 := Lib.hid (show OwnR w5 lo5 hi5 3 (.slice A5 n5 c5) (toL q.natAbs) from o5)
  have P5 := Lib.hid (show OwnR w5 lp5 hp5 3 (.slice D5 (toL r).length d5) (toL r) from p5)
  clear o5 p5 f5
  obtain ⟨p, hp⟩ : ∃ p, p = q * (l : Int) := ⟨_, rfl⟩
  have HP := Lib.hid hp
  have E2' := Lib.hid (show p + (r : Int) = x1 by rw [hp]; exact E2.out)
  have E5' := Lib.hid (show p.natAbs < pw 60 by rw [hp]; exact E5.out)
  have HMUL := Lib.hid (show bigMulF (decide (q < 0)) false (toL q.natAbs) (toL l) = p by rw [mulN E4.out HLO.out E5.out, hp])
  have HADD := Lib.hid (show bigAddF (decide (p < 0)) false (toL p.natAbs) (toL r) = x1 by rw [addN E5'.out HRO.out (by rw [E2'.out]; exact HX1P.out), E2'.out])
  clear hp
  go_wp2_with fail
  (with_reducible refine (impl_BigIntMul (decide (q < 0)) false _ _ _ _ _ _ (toL q.natAbs) (toL l) _ (OwnR.here O5.out (by repeat' (first | (with_reducible exact Below.refl _ _) | (with_reducible refine Below.alloc ?_ ?_ _) | (with_reducible refine Below.setCell ?_ ?_ _) | (with_reducible refine below_drewN ?_ _) | (with_reducible refine Below.drew ?_) | (with_reducible refine below_step (by assumption) ?_ ?_) | omega | (simp; done) | (simp; omega)))).sl (OwnR.here O4.out (by repeat' (first | (with_reducible exact Below.refl _ _) | (with_reducible refine Below.alloc ?_ ?_ _) | (with_reducible refine Below.setCell ?_ ?_ _) | (with_reducible refine below_drewN ?_ _) | (with_reducible refine Below.drew ?_) | (with_reducible refine below_step (by assumption) ?_ ?_) | omega | (simp; done) | (simp; omega)))).sl).mono ?_); rintro e w6 ⟨A6, n6, c6, rfl, o6, b6⟩; obtain ⟨hc6, hf6⟩ := bxcell b6; have q6_0 := fun o => hc6 (w1.heap.size) o (by first | omega | (simp; done) | (simp; omega)); have q6_1 := fun o => hc6 (w2.heap.size) o (by first | omega | (simp; done) | (simp; omega)); have q6_2 := fun o => hc6 (w5.heap.size) o (by first | omega | (simp; done) | (simp; omega)); have f6_0 := fun o => hf6 (w1.heap.size) o (by first | omega | (simp; done) | (simp; omega)); have f6_1 := fun o => hf6 (w2.heap.size) o (by first | omega | (simp; done) | (simp; omega)); have f6_2 := fun o => hf6 (w5.heap.size) o (by first | omega | (simp; done) | (simp; omega)); have hz6 := b6.size; (try simp at hz6); have z6_0 : w1.heap.size < w6.heap.size := (by omega); have n6_0 := Nat.ne_of_lt z6_0; have m6_0 := (Nat.ne_of_lt z6_0).symm; have z6_1 : w2.heap.size < w6.heap.size := (by omega); have n6_1 := Nat.ne_of_lt z6_1; have m6_1 := (Nat.ne_of_lt z6_1).symm; have z6_2 : w5.heap.size < w6.heap.size := (by omega); have n6_2 := Nat.ne_of_lt z6_2; have m6_2 := (Nat.ne_of_lt z6_2).symm
  rw [HMUL.out] at o6 ⊢
  have O6 := Lib.hid (OwnR.of o6)
  clear o6
  go_wp2_with fail
  (with_reducible refine (impl_BigIntAdd (decide (p < 0)) false _ _ _ _ _ _ (toL p.natAbs) (toL r) _ (OwnR.here O6.out (by repeat' (first | (with_reducible exact Below.refl _ _) | (with_reducible refine Below.alloc ?_ ?_ _) | (with_reducible refine Below.setCell ?_ ?_ _) | (with_reducible refine below_drewN ?_ _) | (with_reducible refine Below.drew ?_) | (with_reducible refine below_step (by assumption) ?_ ?_) | omega | (simp; done) | (simp; omega)))).sl (OwnR.here P5.out (by repeat' (first | (with_reducible exact Below.refl _ _) | (with_reducible refine Below.alloc ?_ ?_ _) | (with_reducible refine Below.setCell ?_ ?_ _) | (with_reducible refine below_drewN ?_ _) | (with_reducible refine Below.drew ?_) | (with_reducible refine below_step (by assumption) ?_ ?_) | omega | (simp; done) | (simp; omega)))).sl).mono ?_); rintro e w7 ⟨A7, n7, c7, rfl, o7, b7⟩; obtain ⟨hc7, hf7⟩ := bxcell b7; have q7_0 := fun o => hc7 (w1.heap.size) o (by first | omega | (simp; done) | (simp; omega)); have q7_1 := fun o => hc7 (w2.heap.size) o (by first | omega | (simp; done) | (simp; omega)); have q7_2 := fun o => hc7 (w5.heap.size) o (by first | omega | (simp; done) | (simp; omega)); have f7_0 := fun o => hf7 (w1.heap.size) o (by first | omega | (simp; done) | (simp; omega)); have f7_1 := fun o => hf7 (w2.heap.size) o (by first | omega | (simp; done) | (simp; omega)); have f7_2 := fun o => hf7 (w5.heap.size) o (by first | omega | (simp; done) | (simp; omega)); have hz7 := b7.size; (try simp at hz7); have z7_0 : w1.heap.size < w7.heap.size := (by omega); have n7_0 := Nat.ne_of_lt z7_0; have m7_0 := (Nat.ne_of_lt z7_0).symm; have z7_1 : w2.heap.size < w7.heap.size := (by omega); have n7_1 := Nat.ne_of_lt z7_1; have m7_1 := (Nat.ne_of_lt z7_1).symm; have z7_2 : w5.heap.size < w7.heap.size := (by omega); have n7_2 := Nat.ne_of_lt z7_2; have m7_2 := (Nat.ne_of_lt z7_2).symm
  rw [HADD.out] at o7 ⊢
  have O7 := Lib.hid (OwnR.of o7)
  clear o7
  obtain ⟨F, hF⟩ : ∃ F, F = fmtBigF (decide (x1 < 0)) (toL x1.natAbs) := ⟨_, rfl⟩
  have hFs : F.size ≤ 541 := by rw [hF]; exact fmtBig_size _ _
  have HPB := Lib.hid (show parseBigF F = (x1, true) by rw [hF]; exact parse_big HX1P.out)
  have HF := Lib.hid hF
  clear hF
  go_wp2_with fail
  (with_reducible refine (impl_FormatBigInt (decide (x1 < 0)) A1 n1 c1 (toL x1.natAbs) _ (OwnR.here O1.out (by repeat' (first | (with_reducible exact Below.refl _ _) | (with_reducible refine Below.alloc ?_ ?_ _) | (with_reducible refine Below.setCell ?_ ?_ _) | (with_reducible refine below_drewN ?_ _) | (with_reducible refine Below.drew ?_) | (with_reducible refine below_step (by assumption) ?_ ?_) | omega | (simp; done) | (simp; omega)))).sl (HT.out.below (by repeat' (first | (with_reducible exact Below.refl _ _) | (with_reducible refine Below.alloc ?_ ?_ _) | (with_reducible refine Below.setCell ?_ ?_ _) | (with_reducible refine below_drewN ?_ _) | (with_reducible refine Below.drew ?_) | (with_reducible refine below_step (by assumption) ?_ ?_) | omega | (simp; done) | (simp; omega))))).mono ?_); rintro e w8 ⟨rfl, b8⟩; obtain ⟨hc8, hf8⟩ := bxcell b8; have q8_0 := fun o => hc8 (w1.heap.size) o (by first | omega | (simp; done) | (simp; omega)); have q8_1 := fun o => hc8 (w2.heap.size) o (by first | omega | (simp; done) | (simp; omega)); have q8_2 := fun o => hc8 (w5.heap.size) o (by first | omega | (simp; done) | (simp; omega)); have q8_3 := fun o => hc8 (w7.heap.size) o (by first | omega | (simp; done) | (simp; omega)); have f8_0 := fun o => hf8 (w1.heap.size) o (by first | omega | (simp; done) | (simp; omega)); have f8_1 := fun o => hf8 (w2.heap.size) o (by first | omega | (simp; done) | (simp; omega)); have f8_2 := fun o => hf8 (w5.heap.size) o (by first | omega | (simp; done) | (simp; omega)); have f8_3 := fun o => hf8 (w7.heap.size) o (by first | omega | (simp; done) | (simp; omega)); have hz8 := b8.size; (try simp at hz8); have z8_0 : w1.heap.size < w8.heap.size := (by omega); have n8_0 := Nat.ne_of_lt z8_0; have m8_0 := (Nat.ne_of_lt z8_0).symm; have z8_1 : w2.heap.size < w8.heap.size := (by omega); have n8_1 := Nat.ne_of_lt z8_1; have m8_1 := (Nat.ne_of_lt z8_1).symm; have z8_2 : w5.heap.size < w8.heap.size := (by omega); have n8_2 := Nat.ne_of_lt z8_2; have m8_2 := (Nat.ne_of_lt z8_2).symm; have z8_3 : w7.heap.size < w8.heap.size := (by omega); have n8_3 := Nat.ne_of_lt z8_3; have m8_3 := (Nat.ne_of_lt z8_3).symm
  rw [← HF.out]
  go_wp2_with fail
  (with_reducible refine (impl_ParseBigInt F _ (by omega)).mono ?_); rintro e w9 ⟨A9, n9, c9, rfl, o9, b9⟩; obtain ⟨hc9, hf9⟩ := bxcell b9; have q9_0 := fun o => hc9 (w1.heap.size) o (by first | omega | (simp; done) | (simp; omega)); have q9_1 := fun o => hc9 (w2.heap.size) o (by first | omega | (simp; done) | (simp; omega)); have q9_2 := fun o => hc9 (w5.heap.size) o (by first | omega | (simp; done) | (simp; omega)); have q9_3 := fun o => hc9 (w7.heap.size) o (by first | omega | (simp; done) | (simp; omega)); have f9_0 := fun o => hf9 (w1.heap.size) o (by first | omega | (simp; done) | (simp; omega)); have f9_1 := fun o => hf9 (w2.heap.size) o (by first | omega | (simp; done) | (simp; omega)); have f9_2 := fun o => hf9 (w5.heap.size) o (by first | omega | (simp; done) | (simp; omega)); have f9_3 := fun o => hf9 (w7.heap.size) o (by first | omega | (simp; done) | (simp; omega)); have hz9 := b9.size; (try simp at hz9); have z9_0 : w1.heap.size < w9.heap.size := (by omega); have n9_0 := Nat.ne_of_lt z9_0; have m9_0 := (Nat.ne_of_lt z9_0).symm; have z9_1 : w2.heap.size < w9.heap.size := (by omega); have n9_1 := Nat.ne_of_lt z9_1; have m9_1 := (Nat.ne_of_lt z9_1).symm; have z9_2 : w5.heap.size < w9.heap.size := (by omega); have n9_2 := Nat.ne_of_lt z9_2; have m9_2 := (Nat.ne_of_lt z9_2).symm; have z9_3 : w7.heap.size < w9.heap.size := (by omega); have n9_3 := Nat.ne_of_lt z9_3; have m9_3 := (Nat.ne_of_lt z9_3).symm
  rw [HPB.out] at o9 ⊢
  have O9 := Lib.hid (OwnR.of (show Own w9 w8.heap.size 3 (.slice A9 n9 c9) (toL x1.natAbs) from o9))
  clear o9
  obtain ⟨t, ht⟩ : ∃ t, t = x1 + x2 := ⟨_, rfl⟩
  have h60 := pw34
  have HTS := Lib.hid (show t.natAbs < pw 60 by have := HX1.out; have := HX2.out; have : pw 3 ≤ pw 4 := pw_le (by omega); omega)
  have HA1 := Lib.hid (show bigAddF (decide (x1 < 0)) (decide (x2 < 0)) (toL x1.natAbs) (toL x2.natAbs) = t by rw [ht]; exact addI HX1P.out HX2P.out (by rw [← ht]; exact HTS.out))
  have HS1 := Lib.hid (show bigSubF (decide (t < 0)) (decide (x2 < 0)) (toL t.natAbs) (toL x2.natAbs) = x1 by rw [subI HTS.out HX2P.out (by rw [show t - x2 = x1 by omega]; exact HX1P.out)]; omega)
  have HNC := Lib.hid (show natCmpF (toL r) (toL l) = -1 by rw [natCmpF_toL (okB_of_toL HRO.out) (okB_of_toL HLO.out), cmpN_lt E3.out])
  clear ht h60
  have k9_0 : w9.cell? ⟨w1.heap.size, 0, none⟩ = some (.bool (decide (x1 < 0))) := by rw [q9_0]; simp [go_sem, *]
  have k9_1 : w9.cell? ⟨w1.heap.size, 1, none⟩ = some (.slice A1 n1 c1) := by rw [q9_0]; simp [go_sem, *]
  have k9_2 : w9.cell? ⟨w2.heap.size, 0, none⟩ = some (.bool (decide (x2 < 0))) := by rw [q9_1]; simp [go_sem, *]
  have k9_3 : w9.cell? ⟨w2.heap.size, 1, none⟩ = some (.slice A2 n2 c2) := by rw [q9_1]; simp [go_sem, *]
  have k9_4 : w9.cell? ⟨w7.heap.size, 0, none⟩ = some (.bool (decide (x1 < 0))) := by rw [q9_3]; simp [go_sem, *]
  have k9_5 : w9.cell? ⟨w7.heap.size, 1, none⟩ = some (.slice A7 n7 c7) := by rw [q9_3]; simp [go_sem, *]
  clear q2_0 q3_0 q3_1 q4_0 q4_1 q5_0 q5_1 q6_0 q6_1 q6_2 q7_0 q7_1 q7_2 q8_0 q8_1 q8_2 q8_3 q9_0 q9_1 q9_2 q9_3 hc1 hc2 hc3 hc5 hc6 hc7 hc8 hc9
  go_wp2_with fail
  go_region_held3 (fun w' => w'.cell? ⟨w1.heap.size, 0, none⟩ = some (.bool (decide (x1 < 0))) ∧ w'.cell? ⟨w1.heap.size, 1, none⟩ = some (.slice A1 n1 c1) ∧ w'.cell? ⟨w2.heap.size, 0, none⟩ = some (.bool (decide (x2 < 0))) ∧ w'.cell? ⟨w2.heap.size, 1, none⟩ = some (.slice A2 n2 c2) ∧ w'.cell? ⟨w7.heap.size, 0, none⟩ = some (.bool (decide (x1 < 0))) ∧ w'.cell? ⟨w7.heap.size, 1, none⟩ = some (.slice A7 n7 c7) ∧ w'.cell? ⟨w9.heap.size, 0, none⟩ = some (.bool (decide (x1 < 0))) ∧ w'.cell? ⟨w9.heap.size, 1, none⟩ = some (.slice A9 n9 c9)) (go_keep)
    (first
      | (go_at_call 52; (with_reducible refine (impl_BigIntCmp (decide (x1 < 0)) (decide (x1 < 0)) A9 A1 n9 c9 n1 c1 (toL x1.natAbs) (toL x1.natAbs) _ (OwnR.here O9.out (by repeat' (first | (with_reducible exact Below.refl _ _) | (with_reducible refine Below.alloc ?_ ?_ _) | (with_reducible refine Below.setCell ?_ ?_ _) | (with_reducible refine below_drewN ?_ _) | (with_reducible refine Below.drew ?_) | (with_reducible refine below_step (by assumption) ?_ ?_) | omega | (simp; done) | (simp; omega)))).sl (OwnR.here O1.out (by repeat' (first | (with_reducible exact Below.refl _ _) | (with_reducible refine Below.alloc ?_ ?_ _) | (with_reducible refine Below.setCell ?_ ?_ _) | (with_reducible refine below_drewN ?_ _) | (with_reducible refine Below.drew ?_) | (with_reducible refine below_step (by assumption) ?_ ?_) | omega | (simp; done) | (simp; omega)))).sl).mono ?_); rintro e w10 ⟨rfl, b10⟩; obtain ⟨hc10, hf10⟩ := bxcell b10; have q10_0 := fun o => hc10 (w1.heap.size) o (by first | omega | (simp; done) | (simp; omega)); have q10_1 := fun o => hc10 (w2.heap.size) o (by first | omega | (simp; done) | (simp; omega)); have q10_2 := fun o => hc10 (w7.heap.size) o (by first | omega | (simp; done) | (simp; omega)); have q10_3 := fun o => hc10 (w9.heap.size) o (by first | omega | (simp; done) | (simp; omega)); have f10_0 := fun o => hf10 (w1.heap.size) o (by first | omega | (simp; done) | (simp; omega)); have f10_1 := fun o => hf10 (w2.heap.size) o (by first | omega | (simp; done) | (simp; omega)); have f10_2 := fun o => hf10 (w7.heap.size) o (by first | omega | (simp; done) | (simp; omega)); have f10_3 := fun o => hf10 (w9.heap.size) o (by first | omega | (simp; done) | (simp; omega)); have hz10 := b10.size; (try simp at hz10); have z10_0 : w1.heap.size < w10.heap.size := (by omega); have n10_0 := Nat.ne_of_lt z10_0; have m10_0 := (Nat.ne_of_lt z10_0).symm; have z10_1 : w2.heap.size < w10.heap.size := (by omega); have n10_1 := Nat.ne_of_lt z10_1; have m10_1 := (Nat.ne_of_lt z10_1).symm; have z10_2 : w7.heap.size < w10.heap.size := (by omega); have n10_2 := Nat.ne_of_lt z10_2; have m10_2 := (Nat.ne_of_lt z10_2).symm; have z10_3 : w9.heap.size < w10.heap.size := (by omega); have n10_3 := Nat.ne_of_lt z10_3; have m10_3 := (Nat.ne_of_lt z10_3).symm; rw [cmpI])
      | (go_at_call 49; (with_reducible refine (impl_BigIntAdd (decide (x1 < 0)) (decide (x2 < 0)) A1 A2 n1 c1 n2 c2 (toL x1.natAbs) (toL x2.natAbs) _ (OwnR.here O1.out (by repeat' (first | (with_reducible exact Below.refl _ _) | (with_reducible refine Below.alloc ?_ ?_ _) | (with_reducible refine Below.setCell ?_ ?_ _) | (with_reducible refine below_drewN ?_ _) | (with_reducible refine Below.drew ?_) | (with_reducible refine below_step (by assumption) ?_ ?_) | omega | (simp; done) | (simp; omega)))).sl (OwnR.here O2.out (by repeat' (first | (with_reducible exact Below.refl _ _) | (with_reducible refine Below.alloc ?_ ?_ _) | (with_reducible refine Below.setCell ?_ ?_ _) | (with_reducible refine below_drewN ?_ _) | (with_reducible refine Below.drew ?_) | (with_reducible refine below_step (by assumption) ?_ ?_) | omega | (simp; done) | (simp; omega)))).sl).mono ?_); rintro e w11 ⟨A11, n11, c11, rfl, o11, b11⟩; obtain ⟨hc11, hf11⟩ := bxcell b11; have q11_0 := fun o => hc11 (w1.heap.size) o (by first | omega | (simp; done) | (simp; omega)); have q11_1 := fun o => hc11 (w2.heap.size) o (by first | omega | (simp; done) | (simp; omega)); have q11_2 := fun o => hc11 (w7.heap.size) o (by first | omega | (simp; done) | (simp; omega)); have q11_3 := fun o => hc11 (w9.heap.size) o (by first | omega | (simp; done) | (simp; omega)); have f11_0 := fun o => hf11 (w1.heap.size) o (by first | omega | (simp; done) | (simp; omega)); have f11_1 := fun o => hf11 (w2.heap.size) o (by first | omega | (simp; done) | (simp; omega)); have f11_2 := fun o => hf11 (w7.heap.size) o (by first | omega | (simp; done) | (simp; omega)); have f11_3 := fun o => hf11 (w9.heap.size) o (by first | omega | (simp; done) | (simp; omega)); have hz11 := b11.size; (try simp at hz11); have z11_0 : w1.heap.size < w11.heap.size := (by omega); have n11_0 := Nat.ne_of_lt z11_0; have m11_0 := (Nat.ne_of_lt z11_0).symm; have z11_1 : w2.heap.size < w11.heap.size := (by omega); have n11_1 := Nat.ne_of_lt z11_1; have m11_1 := (Nat.ne_of_lt z11_1).symm; have z11_2 : w7.heap.size < w11.heap.size := (by omega); have n11_2 := Nat.ne_of_lt z11_2; have m11_2 := (Nat.ne_of_lt z11_2).symm; have z11_3 : w9.heap.size < w11.heap.size := (by omega); have n11_3 := Nat.ne_of_lt z11_3; have m11_3 := (Nat.ne_of_lt z11_3).symm; rw [HA1.out] at o11 ⊢; have O11 := Lib.hid (OwnR.of o11); clear o11)
      | (go_at_call 53; (with_reducible refine (impl_BigIntSub (decide (t < 0)) (decide (x2 < 0)) A11 A2 n11 c11 n2 c2 (toL t.natAbs) (toL x2.natAbs) _ (OwnR.here O11.out (by repeat' (first | (with_reducible exact Below.refl _ _) | (with_reducible refine Below.alloc ?_ ?_ _) | (with_reducible refine Below.setCell ?_ ?_ _) | (with_reducible refine below_drewN ?_ _) | (with_reducible refine Below.drew ?_) | (with_reducible refine below_step (by assumption) ?_ ?_) | omega | (simp; done) | (simp; omega)))).sl (OwnR.here O2.out (by repeat' (first | (with_reducible exact Below.refl _ _) | (with_reducible refine Below.alloc ?_ ?_ _) | (with_reducible refine Below.setCell ?_ ?_ _) | (with_reducible refine below_drewN ?_ _) | (with_reducible refine Below.drew ?_) | (with_reducible refine below_step (by assumption) ?_ ?_) | omega | (simp; done) | (simp; omega)))).sl).mono ?_); rintro e w12 ⟨A12, n12, c12, rfl, o12, b12⟩; obtain ⟨hc12, hf12⟩ := bxcell b12; have q12_0 := fun o => hc12 (w1.heap.size) o (by first | omega | (simp; done) | (simp; omega)); have q12_1 := fun o => hc12 (w2.heap.size) o (by first | omega | (simp; done) | (simp; omega)); have q12_2 := fun o => hc12 (w7.heap.size) o (by first | omega | (simp; done) | (simp; omega)); have q12_3 := fun o => hc12 (w9.heap.size) o (by first | omega | (simp; done) | (simp; omega)); have f12_0 := fun o => hf12 (w1.heap.size) o (by first | omega | (simp; done) | (simp; omega)); have f12_1 := fun o => hf12 (w2.heap.size) o (by first | omega | (simp; done) | (simp; omega)); have f12_2 := fun o => hf12 (w7.heap.size) o (by first | omega | (simp; done) | (simp; omega)); have f12_3 := fun o => hf12 (w9.heap.size) o (by first | omega | (simp; done) | (simp; omega)); have hz12 := b12.size; (try simp at hz12); have z12_0 : w1.heap.size < w12.heap.size := (by omega); have n12_0 := Nat.ne_of_lt z12_0; have m12_0 := (Nat.ne_of_lt z12_0).symm; have z12_1 : w2.heap.size < w12.heap.size := (by omega); have n12_1 := Nat.ne_of_lt z12_1; have m12_1 := (Nat.ne_of_lt z12_1).symm; have z12_2 : w7.heap.size < w12.heap.size := (by omega); have n12_2 := Nat.ne_of_lt z12_2; have m12_2 := (Nat.ne_of_lt z12_2).symm; have z12_3 : w9.heap.size < w12.heap.size := (by omega); have n12_3 := Nat.ne_of_lt z12_3; have m12_3 := (Nat.ne_of_lt z12_3).symm; rw [HS1.out] at o12 ⊢; have O12 := Lib.hid (OwnR.of o12); clear o12)
      | (go_at_call 52; (with_reducible refine (impl_BigIntCmp (decide (x1 < 0)) (decide (x1 < 0)) A12 A1 n12 c12 n1 c1 (toL x1.natAbs) (toL x1.natAbs) _ (OwnR.here O12.out (by repeat' (first | (with_reducible exact Below.refl _ _) | (with_reducible refine Below.alloc ?_ ?_ _) | (with_reducible refine Below.setCell ?_ ?_ _) | (with_reducible refine below_drewN ?_ _) | (with_reducible refine Below.drew ?_) | (with_reducible refine below_step (by assumption) ?_ ?_) | omega | (simp; done) | (simp; omega)))).sl (OwnR.here O1.out (by repeat' (first | (with_reducible exact Below.refl _ _) | (with_reducible refine Below.alloc ?_ ?_ _) | (with_reducible refine Below.setCell ?_ ?_ _) | (with_reducible refine below_drewN ?_ _) | (with_reducible refine Below.drew ?_) | (with_reducible refine below_step (by assumption) ?_ ?_) | omega | (simp; done) | (simp; omega)))).sl).mono ?_); rintro e w13 ⟨rfl, b13⟩; obtain ⟨hc13, hf13⟩ := bxcell b13; have q13_0 := fun o => hc13 (w1.heap.size) o (by first | omega | (simp; done) | (simp; omega)); have q13_1 := fun o => hc13 (w2.heap.size) o (by first | omega | (simp; done) | (simp; omega)); have q13_2 := fun o => hc13 (w7.heap.size) o (by first | omega | (simp; done) | (simp; omega)); have q13_3 := fun o => hc13 (w9.heap.size) o (by first | omega | (simp; done) | (simp; omega)); have f13_0 := fun o => hf13 (w1.heap.size) o (by first | omega | (simp; done) | (simp; omega)); have f13_1 := fun o => hf13 (w2.heap.size) o (by first | omega | (simp; done) | (simp; omega)); have f13_2 := fun o => hf13 (w7.heap.size) o (by first | omega | (simp; done) | (simp; omega)); have f13_3 := fun o => hf13 (w9.heap.size) o (by first | omega | (simp; done) | (simp; omega)); have hz13 := b13.size; (try simp at hz13); have z13_0 : w1.heap.size < w13.heap.size := (by omega); have n13_0 := Nat.ne_of_lt z13_0; have m13_0 := (Nat.ne_of_lt z13_0).symm; have z13_1 : w2.heap.size < w13.heap.size := (by omega); have n13_1 := Nat.ne_of_lt z13_1; have m13_1 := (Nat.ne_of_lt z13_1).symm; have z13_2 : w7.heap.size < w13.heap.size := (by omega); have n13_2 := Nat.ne_of_lt z13_2; have m13_2 := (Nat.ne_of_lt z13_2).symm; have z13_3 : w9.heap.size < w13.heap.size := (by omega); have n13_3 := Nat.ne_of_lt z13_3; have m13_3 := (Nat.ne_of_lt z13_3).symm; rw [cmpI])
      | (go_at_call 52; (with_reducible refine (impl_BigIntCmp (decide (x1 < 0)) (decide (x1 < 0)) A7 A1 n7 c7 n1 c1 (toL x1.natAbs) (toL x1.natAbs) _ (OwnR.here O7.out (by repeat' (first | (with_reducible exact Below.refl _ _) | (with_reducible refine Below.alloc ?_ ?_ _) | (with_reducible refine Below.setCell ?_ ?_ _) | (with_reducible refine below_drewN ?_ _) | (with_reducible refine Below.drew ?_) | (with_reducible refine below_step (by assumption) ?_ ?_) | omega | (simp; done) | (simp; omega)))).sl (OwnR.here O1.out (by repeat' (first | (with_reducible exact Below.refl _ _) | (with_reducible refine Below.alloc ?_ ?_ _) | (with_reducible refine Below.setCell ?_ ?_ _) | (with_reducible refine below_drewN ?_ _) | (with_reducible refine Below.drew ?_) | (with_reducible refine below_step (by assumption) ?_ ?_) | omega | (simp; done) | (simp; omega)))).sl).mono ?_); rintro e w14 ⟨rfl, b14⟩; obtain ⟨hc14, hf14⟩ := bxcell b14; have q14_0 := fun o => hc14 (w1.heap.size) o (by first | omega | (simp; done) | (simp; omega)); have q14_1 := fun o => hc14 (w2.heap.size) o (by first | omega | (simp; done) | (simp; omega)); have q14_2 := fun o => hc14 (w7.heap.size) o (by first | omega | (simp; done) | (simp; omega)); have q14_3 := fun o => hc14 (w9.heap.size) o (by first | omega | (simp; done) | (simp; omega)); have f14_0 := fun o => hf14 (w1.heap.size) o (by first | omega | (simp; done) | (simp; omega)); have f14_1 := fun o => hf14 (w2.heap.size) o (by first | omega | (simp; done) | (simp; omega)); have f14_2 := fun o => hf14 (w7.heap.size) o (by first | omega | (simp; done) | (simp; omega)); have f14_3 := fun o => hf14 (w9.heap.size) o (by first | omega | (simp; done) | (simp; omega)); have hz14 := b14.size; (try simp at hz14); have z14_0 : w1.heap.size < w14.heap.size := (by omega); have n14_0 := Nat.ne_of_lt z14_0; have m14_0 := (Nat.ne_of_lt z14_0).symm; have z14_1 : w2.heap.size < w14.heap.size := (by omega); have n14_1 := Nat.ne_of_lt z14_1; have m14_1 := (Nat.ne_of_lt z14_1).symm; have z14_2 : w7.heap.size < w14.heap.size := (by omega); have n14_2 := Nat.ne_of_lt z14_2; have m14_2 := (Nat.ne_of_lt z14_2).symm; have z14_3 : w9.heap.size < w14.heap.size := (by omega); have n14_3 := Nat.ne_of_lt z14_3; have m14_3 := (Nat.ne_of_lt z14_3).symm; rw [cmpI])
      | (go_at_call 44; (with_reducible refine (impl_NatCmp (.slice D5 (toL r).length d5) (.slice D4 (toL l).length c4) (toL r) (toL l) _ (OwnR.here P5.out (by repeat' (first | (with_reducible exact Below.refl _ _) | (with_reducible refine Below.alloc ?_ ?_ _) | (with_reducible refine Below.setCell ?_ ?_ _) | (with_reducible refine below_drewN ?_ _) | (with_reducible refine Below.drew ?_) | (with_reducible refine below_step (by assumption) ?_ ?_) | omega | (simp; done) | (simp; omega)))).sl (OwnR.here O4.out (by repeat' (first | (with_reducible exact Below.refl _ _) | (with_reducible refine Below.alloc ?_ ?_ _) | (with_reducible refine Below.setCell ?_ ?_ _) | (with_reducible refine below_drewN ?_ _) | (with_reducible refine Below.drew ?_) | (with_reducible refine below_step (by assumption) ?_ ?_) | omega | (simp; done) | (simp; omega)))).sl).mono ?_); rintro e w15 ⟨rfl, b15⟩; obtain ⟨hc15, hf15⟩ := bxcell b15; have q15_0 := fun o => hc15 (w1.heap.size) o (by first | omega | (simp; done) | (simp; omega)); have q15_1 := fun o => hc15 (w2.heap.size) o (by first | omega | (simp; done) | (simp; omega)); have q15_2 := fun o => hc15 (w7.heap.size) o (by first | omega | (simp; done) | (simp; omega)); have q15_3 := fun o => hc15 (w9.heap.size) o (by first | omega | (simp; done) | (simp; omega)); have f15_0 := fun o => hf15 (w1.heap.size) o (by first | omega | (simp; done) | (simp; omega)); have f15_1 := fun o => hf15 (w2.heap.size) o (by first | omega | (simp; done) | (simp; omega)); have f15_2 := fun o => hf15 (w7.heap.size) o (by first | omega | (simp; done) | (simp; omega)); have f15_3 := fun o => hf15 (w9.heap.size) o (by first | omega | (simp; done) | (simp; omega)); have hz15 := b15.size; (try simp at hz15); have z15_0 : w1.heap.size < w15.heap.size := (by omega); have n15_0 := Nat.ne_of_lt z15_0; have m15_0 := (Nat.ne_of_lt z15_0).symm; have z15_1 : w2.heap.size < w15.heap.size := (by omega); have n15_1 := Nat.ne_of_lt z15_1; have m15_1 := (Nat.ne_of_lt z15_1).symm; have z15_2 : w7.heap.size < w15.heap.size := (by omega); have n15_2 := Nat.ne_of_lt z15_2; have m15_2 := (Nat.ne_of_lt z15_2).symm; have z15_3 : w9.heap.size < w15.heap.size := (by omega); have n15_3 := Nat.ne_of_lt z15_3; have m15_3 := (Nat.ne_of_lt z15_3).symm; rw [HNC.out]))
  all_goals
    go_wp2
    go_ret
    exact ⟨rfl, (by repeat' (first | (with_reducible exact Below.refl _ _) | (with_reducible refine Below.alloc ?_ ?_ _) | (with_reducible refine Below.setCell ?_ ?_ _) | (with_reducible refine below_drewN ?_ _) | (with_reducible refine Below.drew ?_) | (with_reducible refine below_step (by assumption) ?_ ?_) | omega | (simp; done) | (simp; omega)))⟩
end Go.Proofs.YticekjagmcphbaaDoor

namespace Go.Proofs.YticekjagmcphbaaDoor
open Go.ChangeShapes Go.WideShapes Go.ChangeAt Go.RowKit

theorem fnBigInts.own : ownKnob Tryd.prog.godebug = none := by kernel_rfl
theorem fnBigInts.laidOut : laidOutB Tryd.prog = true := by kernel_rfl
set_option linter.unusedVariables false in
set_option maxRecDepth 100000 in
theorem fnBigInts.lifted (os : Os) (started : os.Started) (H : Type) (enc : TypeId × Value → H) :
    ReturnsInHanded {} Tryd.checked os 11 .any (fun w args => (Rows.fnBigIntsSpec.pre enc Tryd.prog Tryd.f11 [] false w args ∧ laidMetH Tryd.prog laid3 w) ∧ sizedMet enc Tryd.prog Tryd.f11 (OpenSpec.ofChange Rows.fnBigIntsSpec) false w args)
      (Rows.fnBigIntsSpec.post enc Tryd.prog Tryd.f11 false true false false) := by
  refine returnsInHanded_of_change_and (C := Tryd.checked) (X := fun w _ => laidMetH Tryd.prog laid3 w) (fun _ _ _ hh h => h.of_heap hh) fnBigInts.own started (by kernel_rfl) Tryd.func11
    (ChangeSpec.witness_shaped (enc := enc) (C := Tryd.checked) (os := os) (X := fun w _ => laidMetH Tryd.prog laid3 w) false (World.doorLaid Tryd.prog 4000 os) #[.slice none 0 0] 8 rfl (World.shaped_of_RefB (by kernel_rfl) (by kernel_rfl)) (by kernel_rfl) (by kernel_rfl) (by kernel_rfl) (door_met3 os _)) ?_
  intro W base args ds gs before hval0 hW _ _ hL _
  have hval : ∀ (j : Nat) t v, Tryd.f11.params[j]? = some t → args[j]? = some v → Value.okWide Tryd.prog W .any base t v := hval0
  have hW' := hW
  obtain ⟨p, q, hA0, hV, rfl, hfz, hnd⟩ := hW
  have hA : DataW.TrodAll enc Tryd.prog W 0 (fun _ => true) true Tryd.f11.params.toList args.toList ds p := hA0
  rw [Tryd.params11] at hA hval
  obtain ⟨v0, vs0, d0, ds0, p0, q0, hargs, rfl, rfl, h0, r0⟩ := trodAll_cons hA
  obtain ⟨rfl, rfl, rfl⟩ := trodAll_nil r0
  obtain rfl : args = #[v0] := by cases args; simp_all
  obtain ⟨rfl, rfl⟩ := trodVars_none hV
  have k0 := h0
  have lt0 : ∀ x ∈ p0, x.block < W.heap.size := by obtain ⟨m, hm⟩ := k0; exact DataW.trod_lt m _ _ _ hm
  obtain ⟨x0, s0⟩ := open_bytesL Tryd.underlying52 Tryd.underlying5 (by kernel_rfl) (hval 0 52 v0 rfl rfl) h0
  clear hA0 hval0
  refine (walk_FnBigInts W (tab_of_laid3 hL) v0 x0 s0).mono fun e W' ⟨he, bel⟩ => ?_
  subst he
  exact ⟨_, rfl, _, _, _, [], _, [], hW', trodAll_mk1 (shut_bool Tryd.underlying4 _), (trodAll_cons_mk (Below.trod fnBigInts.laidOut (by kernel_rfl) (of_decide_eq_true (by kernel_rfl)) k0 bel lt0) trodAll_mk0), rfl, bel.frame _, fun h => by cases h⟩
theorem fnBigInts.over : Rows.fnBigIntsRow.holds Tryd.pinned (OpenSpec.ofChange Rows.fnBigIntsSpec) :=
  OpenClaim.holds_of_wide 11 Tryd.f11 rfl rfl rfl rfl rfl rfl rfl ⟨rfl, rfl, rfl, rfl, rfl⟩ rfl rfl rfl rfl rfl (by kernel_rfl) Tryd.func11 (by kernel_rfl)
    (of_decide_eq_true (by kernel_rfl)) (by unfold Func.isWrapper; first | (rw [if_pos (by decide +kernel)]; kernel_rfl) | (rw [if_neg (by decide +kernel)]; exact ⟨rfl, rfl⟩))
    (fun os started H enc _ => fnBigInts.lifted os started H enc)
/-- THE STATEMENT: the tied card. -/
theorem fnBigInts_holds : Rows.FnBigIntsCardSaid :=
  Claim7.holds_tied_plain_at .later [] [.data, .data, .data] true Rows.fnBigIntsCard.stood.harness true
    fnBigInts.over (fun _ h => by cases h) (by kernel_rfl) (fun _ h => by cases h) fnBigInts_row_tie rfl ⟨rfl, rfl⟩ (by kernel_rfl) rfl
    (fun f fn hf hfn => by
      obtain rfl : f = 11 := Option.some.inj ((show Tryd.prog.funcNamed Rows.fnBigIntsRow.func = some 11 by kernel_rfl).symm.trans hf) |>.symm
      obtain rfl : fn = Tryd.f11 := (Option.some.inj (Tryd.func11.symm.trans hfn)).symm
      exact ⟨by kernel_rfl, fun j t ht => by
        rw [Tryd.params11] at ht
        have hm : t ∈ ([52] : List TypeId) := by simpa using Array.mem_of_getElem? ht
        have hall : (([52] : List TypeId).all fun u => !Tryd.prog.wantsStandIn u) = true := by kernel_rfl
        exact (show Tryd.prog.wantsStandIn t = false by simpa using List.all_eq_true.1 hall t hm)⟩)
    (by kernel_rfl)
#print axioms fnBigInts_holds
end Go.Proofs.YticekjagmcphbaaDoor
