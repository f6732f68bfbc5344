/-
  FnRats, proved (the tied card): for every code the law returns true. The card's own condition: the listed library variables lie as their initialisers lay them. Written by an AI agent.
-/
import Derived.Test.YticekjagmcphbaaGreatDoorKit
import Derived.ProofKit
import Derived.OpenShut
import Derived.ShutString
import Derived.ChangeOld
import Derived.Below
import Derived.Lib.SmallJoins
import Derived.Test.YticekjagmcphbaaGreatDoorBig
import Derived.Laws.Bits128
import Derived.Test.YticekjagmcphbaaGreatDoorEmp
import Derived.Test.YticekjagmcphbaaGreatDoorTrim
import Derived.Test.YticekjagmcphbaaGreatDoorOwn2
import Derived.Test.YticekjagmcphbaaGreatDoorRat
import Derived.Test.YticekjagmcphbaaGreatDoorRatM
import Derived.Test.YticekjagmcphbaaGreatDoorLFnRatsN
import Derived.Test.YticekjagmcphbaaGreatDoorParse
import Derived.Test.YticekjagmcphbaaGreatDoorBigZF
import Derived.Test.YticekjagmcphbaaGreatDoorRatQ
import Derived.Test.YticekjagmcphbaaGreatDoorRatY
import Derived.Test.YticekjagmcphbaaGreatDoorBox
import Derived.Deep.RegionHeld3
import Derived.Test.YticekjagmcphbaaGreatDoorTie
import Derived.LaidMore
import Derived.LaidLaws
import Derived.Stop.Joined
import Derived.Stop.LaidErr
import Derived.Test.YticekjagmcphbaaGreatDoorCards
namespace Go.Proofs.YticekjagmcphbaaGreatDoor
open Go.ChangeShapes Go.WideShapes Go.ChangeAt Go.RowKit

/-- Every int of the list fits an int64. -/
def Wf (xs : List Int) : Prop := ∀ n ∈ xs, -9223372036854775808 ≤ n ∧ n ≤ 9223372036854775807

theorem wf_bounds {n : Int} (h : (Lit.int .i64 n).wf = true) : -9223372036854775808 ≤ n ∧ n ≤ 9223372036854775807 := by
  exact Go.bounds_i64 h

section
variable {H : Type} {enc : TypeId × Value → H} {P : Program} {w : World}

theorem ints_sl {t e : TypeId} {spare : Nat → Bool} {held : Bool} {fuel : Nat} {cs : List Value} {x : DataW H × List MemPlace} (ht : P.underlying t = some (.slice e)) (he : P.underlying e = some (.int .i64)) (hc : P.cellsOf e = 1)
    (h : DataW.trod enc P w 0 spare held fuel t cs = some x) : ∃ v xs, cs = [v] ∧ Sl w v xs ∧ Wf xs := by
  rcases open_ints ht he hc h with ⟨rfl, _⟩ | ⟨a, len, cap, zs, rfl, _, hl, hm, hz, _, hcell, hwz⟩
  · exact ⟨_, [], rfl, ⟨none, 0, rfl, by simp, by simp [maxLen], fun h => by simp at h⟩, fun n hn => by cases hn⟩
  · have hzl : len ≤ zs.length := by rw [hz]; split <;> omega
    have hlen : (zs.take len).length = len := by rw [List.length_take]; omega
    refine ⟨_, zs.take len, rfl, ⟨some a, cap, by rw [hlen], by omega, hm, fun hp => ?_⟩, fun n hn => wf_bounds (hwz n (List.mem_of_mem_take hn))⟩
    obtain ⟨b, off, spot⟩ := a
    have hc0 := hcell 0 (by omega)
    have hspot : spot = none := by simpa [Addr.add] using World.cell?_spot hc0
    subst hspot
    refine ⟨b, off, rfl, fun i d hd => ?_⟩
    have hi : i < len := by
      have := (List.getElem?_eq_some_iff.1 hd).1
      omega
    have hci := hcell i (by omega)
    have hadd : (⟨b, off, none⟩ : Addr).add i = ⟨b, off + i, none⟩ := by unfold Addr.add; split <;> simp_all
    rw [hadd] at hci
    rw [hci, List.getElem?_take, if_pos hi] at *
    rw [List.getD_eq_getElem?_getD, hd]
    rfl

theorem open_intsL {t e : TypeId} {r : Reach} {base : Nat} {spare : Nat → Bool} {held : Bool} {v : Value} {d : DataW H} {p : List MemPlace} (ht : P.underlying t = some (.slice e)) (he : P.underlying e = some (.int .i64)) (hc : P.cellsOf e = 1)
    (hv : Value.okWide P w r base t v) (h : DataW.Trod enc P w 0 spare held t v d p) : ∃ xs, Sl w v xs ∧ Wf xs := by
  obtain ⟨a, len, cap, rfl⟩ := okWide_slice ht hv
  obtain ⟨fuel, hf⟩ := h
  obtain ⟨v', xs, hcs, h1, h2⟩ := ints_sl ht he hc hf
  simp [Value.cells] at hcs
  subst hcs
  exact ⟨xs, h1, h2⟩
theorem open_intL {t : TypeId} {r : Reach} {base : Nat} {spare : Nat → Bool} {held : Bool} {v : Value} {d : DataW H} {p : List MemPlace} (ht : P.underlying t = some (.int .i64))
    (hv : Value.okWide P w r base t v) (h : DataW.Trod enc P w 0 spare held t v d p) : ∃ a : Int, v = .int .i64 a ∧ -9223372036854775808 ≤ a ∧ a ≤ 9223372036854775807 := by
  obtain ⟨a, rfl, _, _, wa⟩ := open_int ht hv h
  exact ⟨a, rfl, wf_bounds wa⟩
theorem open_strL {t : TypeId} {r : Reach} {base : Nat} {spare : Nat → Bool} {held : Bool} {v : Value} {d : DataW H} {p : List MemPlace} (ht : P.underlying t = some .string)
    (hv : Value.okWide P w r base t v) (h : DataW.Trod enc P w 0 spare held t v d p) : ∃ s : ByteArray, v = .string s ∧ s.size ≤ maxLen := by
  obtain ⟨a, rfl, _, _, wa⟩ := Go.ChangeMaps.open_string ht hv h
  exact ⟨a, rfl, wa⟩
theorem open_poseL {t ti : TypeId} {f0 f1 f2 : Field} {r : Reach} {base : Nat} {spare : Nat → Bool} {held : Bool} {v : Value} {d : DataW H} {p : List MemPlace} (hs : P.underlying t = some (.struct #[f0, f1, f2]))
    (hone : Go.Deep.oneCellFields P #[f0, f1, f2] = true) (hC : P.cellsOf t = 3) (e0 : f0.type = ti) (e1 : f1.type = ti) (e2 : f2.type = ti) (hi : P.underlying ti = some (.int .i64))
    (hv : Value.okWide P w r base t v) (h : DataW.Trod enc P w 0 spare held t v d p) : ∃ a b c : Int, v = .agg #[.int .i64 a, .int .i64 b, .int .i64 c] ∧ Wf [a, b, c] := by
  obtain ⟨v0, v1, v2, y0, y1, y2, n, rfl, _, _, h0, h1, h2⟩ := Go.Joins.open_agg3 hs hone hC hv h
  rw [e0] at h0
  rw [e1] at h1
  rw [e2] at h2
  obtain ⟨a, c0, _, w0⟩ := DataW.trod_int hi h0
  obtain ⟨b, c1, _, w1⟩ := DataW.trod_int hi h1
  obtain ⟨c, c2, _, w2⟩ := DataW.trod_int hi h2
  simp at c0 c1 c2
  subst c0 c1 c2
  exact ⟨a, b, c, rfl, fun n hn => by
    simp at hn
    rcases hn with rfl | rfl | rfl <;> apply wf_bounds <;> assumption⟩
theorem open_bigL {t tb ts te : TypeId} {f0 f1 : Field} {r : Reach} {base : Nat} {spare : Nat → Bool} {held : Bool} {v : Value} {d : DataW H} {p : List MemPlace} (hs : P.underlying t = some (.struct #[f0, f1]))
    (hone : Go.Deep.oneCellFields P #[f0, f1] = true) (hC : P.cellsOf t = 2) (e0 : f0.type = tb) (e1 : f1.type = ts) (hb : P.underlying tb = some .bool) (hsl : P.underlying ts = some (.slice te)) (hi : P.underlying te = some (.int .i64)) (hc : P.cellsOf te = 1)
    (hv : Value.okWide P w r base t v) (h : DataW.Trod enc P w 0 spare held t v d p) : ∃ neg u xs, v = .agg #[.bool neg, u] ∧ Sl w u xs ∧ Wf xs := by
  obtain ⟨v0, v1, y0, y1, n, rfl, _, _, h0, h1⟩ := Go.Joins.open_agg2 hs hone hC hv h
  rw [e0] at h0
  rw [e1] at h1
  obtain ⟨a, c0, _⟩ := DataW.trod_bool hb h0
  obtain ⟨u, xs, c1, k1, k2⟩ := ints_sl hsl hi hc h1
  simp at c0 c1
  subst c0 c1
  exact ⟨a, _, xs, rfl, k1, k2⟩
theorem open_ratL {t tn tb ts te : TypeId} {g0 g1 f0 f1 : Field} {r : Reach} {base : Nat} {spare : Nat → Bool} {held : Bool} {v : Value} {d : DataW H} {p : List MemPlace} (hs : P.underlying t = some (.struct #[g0, g1])) (hC : P.cellsOf t = 3)
    (eg0 : g0.type = tn) (eo0 : g0.offset = 0) (eg1 : g1.type = ts) (eo1 : g1.offset = 2) (cts : P.cellsOf ts = 1)
    (hn : P.underlying tn = some (.struct #[f0, f1])) (hCn : P.cellsOf tn = 2) (e0 : f0.type = tb) (o0 : f0.offset = 0) (e1 : f1.type = ts) (o1 : f1.offset = 1) (ctb : P.cellsOf tb = 1)
    (hb : P.underlying tb = some .bool) (hsl : P.underlying ts = some (.slice te)) (hi : P.underlying te = some (.int .i64)) (hc : P.cellsOf te = 1)
    (hv : Value.okWide P w r base t v) (h : DataW.Trod enc P w 0 spare held t v d p) : ∃ neg u xs s ys, v = .agg #[.bool neg, u, s] ∧ Sl w u xs ∧ Wf xs ∧ Sl w s ys ∧ Wf ys := by
  obtain ⟨cs, rfl, hsz⟩ := okWide_struct hs hv
  obtain ⟨c0, c1, c2, rfl⟩ := Go.Joins.array3 (hsz.trans hC)
  obtain ⟨fuel, hf⟩ := h
  obtain ⟨y0, y1, n, _, _, h0, h1⟩ := trod_struct2 hs hf
  rw [eg0, eo0, hCn] at h0
  rw [eg1, eo1, cts] at h1
  simp [Value.cells] at h0 h1
  obtain ⟨z0, z1, m, _, _, k0, k1⟩ := trod_struct2 hn h0
  rw [e0, o0, ctb] at k0
  rw [e1, o1, cts] at k1
  simp at k0 k1
  obtain ⟨neg, q0, _⟩ := DataW.trod_bool hb k0
  obtain ⟨u, xs, q1, s1, s2⟩ := ints_sl hsl hi hc k1
  obtain ⟨s, ys, q2, s3, s4⟩ := ints_sl hsl hi hc h1
  simp at q0 q1 q2
  subst q0 q1 q2
  exact ⟨neg, _, xs, _, ys, rfl, s1, s2, s3, s4⟩
end
end Go.Proofs.YticekjagmcphbaaGreatDoor

namespace Go.Proofs.YticekjagmcphbaaGreatDoor
open Go.ChangeShapes Go.WideShapes Go.ChangeAt Go.RowKit

/-- The slice value v reads, in the world w, as n bytes in a block below B. -/
def SlB (w : World) (B : Nat) (v : Value) (n : Nat) : Prop :=
  ∃ A c, v = .slice A n c ∧ n ≤ c ∧ c ≤ maxLen ∧ (0 < n → ∃ b off, A = some ⟨b, off, none⟩ ∧ b < B ∧ ∀ i, i < n → ∃ d : Int, 0 ≤ d ∧ d ≤ 255 ∧ w.cell? ⟨b, off + i, none⟩ = some (.int .u8 d))
section
variable {H : Type} {enc : TypeId × Value → H} {P : Program} {w : World}
theorem open_bytesL {t e : TypeId} {r : Reach} {base : Nat} {spare : Nat → Bool} {held : Bool} {v : Value} {d : DataW H} {p : List MemPlace} (ht : P.underlying t = some (.slice e)) (he : P.underlying e = some (.int .u8)) (hc : P.cellsOf e = 1)
    (hv : Value.okWide P w r base t v) (h : DataW.Trod enc P w 0 spare held t v d p) : ∃ n, SlB w w.heap.size v n := by
  obtain ⟨a, len, cap, rfl⟩ := okWide_slice ht hv
  obtain ⟨fuel, hf⟩ := h
  rcases open_ints ht he hc hf with ⟨hcs, _⟩ | ⟨a, len, cap, zs, hcs, _, hl, hm, hz, _, hcell, hwz⟩
  · simp [Value.cells] at hcs
    obtain ⟨rfl, rfl, rfl⟩ := hcs
    exact ⟨0, none, 0, rfl, Nat.le_refl _, by simp [maxLen], fun h => absurd h (by omega)⟩
  · simp [Value.cells] at hcs
    obtain ⟨rfl, rfl, rfl⟩ := hcs
    have hzl : len ≤ zs.length := by rw [hz]; split <;> omega
    refine ⟨len, some a, cap, rfl, hl, hm, fun hp => ?_⟩
    obtain ⟨b, off, spot⟩ := a
    have hc0 := hcell 0 (by omega)
    have hspot : spot = none := by simpa [Addr.add] using World.cell?_spot hc0
    subst hspot
    have hadd : ∀ i, (⟨b, off, none⟩ : Addr).add i = ⟨b, off + i, none⟩ := fun i => by unfold Addr.add; split <;> simp_all
    refine ⟨b, off, rfl, ?_, fun i hi => ?_⟩
    · rw [hadd] at hc0
      exact World.block_lt_of_cell? w _ hc0
    · have hci := hcell i (by omega)
      rw [hadd] at hci
      have hzi : i < zs.length := by omega
      have hw := hwz (zs.getD i 0) (by rw [List.getD_eq_getElem?_getD, List.getElem?_eq_getElem hzi]; exact List.getElem_mem hzi)
      refine ⟨zs.getD i 0, ?_, ?_, hci⟩
      · simp [Lit.wf, IntKind.min, IntKind.max, IntKind.signed, IntKind.bits] at hw
        rw [List.getD_eq_getElem?_getD]
        omega
      · simp [Lit.wf, IntKind.min, IntKind.max, IntKind.signed, IntKind.bits] at hw
        rw [List.getD_eq_getElem?_getD]
        omega
end
theorem SlB.below {w w' : World} {B n : Nat} {v : Value} (h : SlB w B v n) (hb : Below B w w') : SlB w' B v n := by
  obtain ⟨A, c, rfl, h1, h2, h3⟩ := h
  refine ⟨A, c, rfl, h1, h2, fun hp => ?_⟩
  obtain ⟨b, off, rfl, h4, h5⟩ := h3 hp
  refine ⟨b, off, rfl, h4, fun i hi => ?_⟩
  obtain ⟨d, d0, d1, hc⟩ := h5 i hi
  exact ⟨d, d0, d1, (hb.cell (p := ⟨b, off + i, none⟩) h4).trans hc⟩
theorem SlB.up {w w' : World} {B B' n : Nat} {v : Value} (h : SlB w B v n) (hb : Below B w w') (hB : B ≤ B') : SlB w' B' v n := by
  obtain ⟨A, c, rfl, h1, h2, h3⟩ := h.below hb
  refine ⟨A, c, rfl, h1, h2, fun hp => ?_⟩
  obtain ⟨b, off, rfl, h4, h5⟩ := h3 hp
  exact ⟨b, off, rfl, Nat.lt_of_lt_of_le h4 hB, h5⟩
theorem i64_and30 (n : Int) : bits .and .i64 n 1073741823 = n % 1073741824 := by
  have h127 : (BitVec.ofInt 64 1073741823).toNat = 2 ^ 30 - 1 := by decide
  have key : (BitVec.ofInt 64 n &&& BitVec.ofInt 64 1073741823).toNat = (n % ((2 ^ 64 : Nat) : Int)).toNat % 2 ^ 30 := by
    rw [BitVec.toNat_and, BitVec.toNat_ofInt, h127, Nat.and_two_pow_sub_one_eq_mod]
  show IntKind.i64.wrap ((BitVec.ofInt 64 n &&& BitVec.ofInt 64 1073741823).toNat : Nat) = n % 1073741824
  rw [key, IntKind.wrap_i64]
  omega
theorem i64_and8 (n : Int) : bits .and .i64 n 255 = n % 256 := by
  have h127 : (BitVec.ofInt 64 255).toNat = 2 ^ 8 - 1 := by decide
  have key : (BitVec.ofInt 64 n &&& BitVec.ofInt 64 255).toNat = (n % ((2 ^ 64 : Nat) : Int)).toNat % 2 ^ 8 := by
    rw [BitVec.toNat_and, BitVec.toNat_ofInt, h127, Nat.and_two_pow_sub_one_eq_mod]
  show IntKind.i64.wrap ((BitVec.ofInt 64 n &&& BitVec.ofInt 64 255).toNat : Nat) = n % 256
  rw [key, IntKind.wrap_i64]
  omega
end Go.Proofs.YticekjagmcphbaaGreatDoor

namespace Go.Proofs.YticekjagmcphbaaGreatDoor
open Go.RowKit

/-- Block g is a cursor over bytes that lie below B. -/
def Cur (w : World) (B g : Nat) : Prop :=
  ∃ v n i h, Blk w g 70 #[v, .int .i64 i, .int .i64 h] ∧ B ≤ g ∧ SlB w B v n ∧ n ≤ 1048576 ∧ 0 ≤ i ∧ i ≤ (n : Int) ∧ -9223372036854775808 ≤ h ∧ h ≤ 9223372036854775807
theorem Cur.below {w w' : World} {B g : Nat} (h : Cur w B g) (hb : Below w.heap.size w w') : Cur w' B g := by
  obtain ⟨v, n, i, k, h1, h2, h3, r⟩ := h
  exact ⟨v, n, i, k, h1.below hb h1.lt, h2, h3.below (hb.mono (Nat.le_of_lt (Nat.lt_of_le_of_lt h2 h1.lt))), r⟩
theorem Cur.lt {w : World} {B g : Nat} (h : Cur w B g) : g < w.heap.size := by
  obtain ⟨v, n, i, k, h1, _⟩ := h
  exact h1.lt
theorem Cur.base {w : World} {B g : Nat} (h : Cur w B g) : B ≤ g := by
  obtain ⟨v, n, i, k, _, h2, _⟩ := h
  exact h2
/-- What a draw of an int from lo to hi ends in. -/
def Drew (B g : Nat) (lo hi : Int) (w : World) (e : Ending) (w' : World) : Prop :=
  ∃ x, e = .returned (.int .i64 x) ∧ lo ≤ x ∧ x ≤ hi ∧ Cur w' B g ∧ Only g (g + 1) w w'

set_option maxHeartbeats 2000000 in
theorem spec_l01New (v : Value) (n : Nat) (w : World) (h : SlB w w.heap.size v n) (hn : n ≤ 1048576) :
    Calls Tryz.prog 32 #[v] w fun e w' => ∃ g, e = .returned (.pointer (some ⟨g, 0, none⟩)) ∧ Cur w' w.heap.size g ∧ Below w.heap.size w w' := by
  have HB := Lib.hid h
  obtain ⟨A, c, rfl, h1, h2, h3⟩ := h
  have hand := i64_and30
  go_enter Tryz.func32, Tryz.ntmps32
  go_wp2
  go_loop [3, 4] (fun q i => ∃ (j : Nat) (z : Int), i = .int .i64 j ∧ q = .int .i64 z ∧ j ≤ n ∧ 0 ≤ z ∧ z ≤ 1073741824) (fun _ i => n - (intOf i).toNat)
  case atStart => exact ⟨0, _, rfl, rfl, Nat.zero_le _, by omega, by omega⟩
  case round =>
    obtain ⟨j, z, rfl, rfl, hj, hz0, hz1⟩ := hrel
    by_cases hlt : j < n
    · by_cases h4 : (j : Int) < 4000
      · obtain ⟨b, off, rfl, hb, hc⟩ := h3 (by omega)
        obtain ⟨d, d0, d1, hcell⟩ := hc j hlt
        clear hc h3
        go_wp2
        go_round
        case rel => exact ⟨j + 1, _, by go_num, rfl, by omega, by omega, by omega⟩
        case measure => simp [intOf]; omega
      · have hd : decide ((j : Int) < 4000) = false := decide_eq_false h4
        go_wp2
        go_ret
        refine ⟨w.heap.size, rfl, ⟨_, n, 0, z, Blk.new _ _ _, Nat.le_refl _, HB.out.below (by repeat' (first | (with_reducible exact Below.refl _ _) | (with_reducible refine Below.alloc ?_ ?_ _) | (with_reducible refine Below.setCell ?_ ?_ _) | (with_reducible refine below_drewN ?_ _) | (with_reducible refine Below.drew ?_) | (with_reducible refine below_step (by assumption) ?_ ?_) | omega | (simp; done) | (simp; omega))), hn, by omega, by omega, by omega, by omega⟩, (by repeat' (first | (with_reducible exact Below.refl _ _) | (with_reducible refine Below.alloc ?_ ?_ _) | (with_reducible refine Below.setCell ?_ ?_ _) | (with_reducible refine below_drewN ?_ _) | (with_reducible refine Below.drew ?_) | (with_reducible refine below_step (by assumption) ?_ ?_) | omega | (simp; done) | (simp; omega)))⟩
    · go_wp2
      go_ret
      refine ⟨w.heap.size, rfl, ⟨_, n, 0, z, Blk.new _ _ _, Nat.le_refl _, HB.out.below (by repeat' (first | (with_reducible exact Below.refl _ _) | (with_reducible refine Below.alloc ?_ ?_ _) | (with_reducible refine Below.setCell ?_ ?_ _) | (with_reducible refine below_drewN ?_ _) | (with_reducible refine Below.drew ?_) | (with_reducible refine below_step (by assumption) ?_ ?_) | omega | (simp; done) | (simp; omega))), hn, by omega, by omega, by omega, by omega⟩, (by repeat' (first | (with_reducible exact Below.refl _ _) | (with_reducible refine Below.alloc ?_ ?_ _) | (with_reducible refine Below.setCell ?_ ?_ _) | (with_reducible refine below_drewN ?_ _) | (with_reducible refine Below.drew ?_) | (with_reducible refine below_step (by assumption) ?_ ?_) | omega | (simp; done) | (simp; omega)))⟩

theorem Only.drewN (w : World) (lo hi n : Nat) : Only lo hi w (w.drewN n) := ⟨rfl, rfl, rfl, Nat.le_refl _, fun _ _ _ => rfl⟩
theorem Cur.mk1 {w : World} {B g n : Nat} {v : Value} {i h : Int} (h1 : Blk w g 70 #[v, .int .i64 i, .int .i64 h]) (h2 : B ≤ g) (h3 : SlB w B v n) (h4 : n ≤ 1048576) (h5 : 0 ≤ i) (h6 : i ≤ (n : Int)) (h7 : -9223372036854775808 ≤ h) (h8 : h ≤ 9223372036854775807) : Cur w B g :=
  ⟨v, n, i, h, h1, h2, h3, h4, h5, h6, h7, h8⟩
set_option maxHeartbeats 2000000 in
theorem spec_l01Byte (B g : Nat) (w : World) (h : Cur w B g) : Calls Tryz.prog 33 #[.pointer (some ⟨g, 0, none⟩)] w (Drew B g 0 255 w) := by
  obtain ⟨v, n, i, k, h1, h2, h3, h4, h5, h6, h7, h8⟩ := h
  have HB := Lib.hid h3
  obtain ⟨A, c, rfl, s1, s2, s3⟩ := h3
  have k0 := h1.cell 0
  have k1 := h1.cell 1
  have k2 := h1.cell 2
  simp at k0 k1 k2
  have f1 := h1.frozen 1
  have f2 := h1.frozen 2
  have H1 := Lib.hid h1
  have hg := h1.lt
  have hand := i64_and8
  obtain ⟨X, hX⟩ : ∃ X, wrap64 (wrap64 (k * 6364136223846793005) + 1442695040888963407) = X := ⟨_, rfl⟩
  have hX0 : -9223372036854775808 ≤ X ∧ X ≤ 9223372036854775807 := by rw [← hX]; unfold wrap64; omega
  obtain ⟨hX0, hX1⟩ := hX0
  have n4 : (n : Int) ≤ 1048576 := by omega
  obtain ⟨Y, hY⟩ : ∃ Y, bits BinOp.xor IntKind.i64 (X / 8589934592) (X / 35184372088832) % 256 = Y := ⟨_, rfl⟩
  have hY0 : 0 ≤ Y ∧ Y ≤ 255 := by rw [← hY]; omega
  obtain ⟨hY0, hY1⟩ := hY0
  have FIN : Hid (∀ (x j : Int) (w' : World), 0 ≤ x → x ≤ 255 → 0 ≤ j → j ≤ (n : Int) → Only g (g + 1) w w' → Blk w' g 70 #[.slice A n c, .int .i64 j, .int .i64 X] → Drew B g 0 255 w (.returned (.int .i64 x)) w') :=
    Lib.hid fun x j w' e1 e2 e3 e4 ho hb => ⟨x, rfl, e1, e2, Cur.mk1 hb h2 (HB.out.below ((ho.below (Nat.le_of_lt hg)).mono h2)) h4 e3 e4 hX0 hX1, ho⟩
  clear h1
  by_cases hin : i < (n : Int)
  · obtain ⟨b, off, rfl, hb, hc⟩ := s3 (by omega)
    obtain ⟨d, d0, d1, hcell⟩ := hc i.toNat (by omega)
    have n1 : b ≠ g := by omega
    have n2 : g ≠ b := by omega
    clear hc s3
    go_enter Tryz.func33, Tryz.ntmps33
    go_wp2
    go_quiet (fail)
    go_wp2
    go_quiet (fail)
    go_wp2
    go_quiet (fail)
    go_wp2
    go_ret
    exact FIN.out _ _ _ (by omega) (by omega) (by omega) (by omega) (((Only.setCell w ⟨g, 2, none⟩ (.int .i64 X)).trans (Only.drewN _ _ _ _)).trans (Only.setCell _ ⟨g, 1, none⟩ (.int .i64 (i + 1)))) (((H1.out.set_ 2 (.int .i64 X)).drewN _).set_ 1 (.int .i64 (i + 1)))
  · go_enter Tryz.func33, Tryz.ntmps33
    go_wp2
    go_quiet (fail)
    go_wp2
    go_quiet (fail)
    go_wp2
    go_ret
    exact FIN.out _ _ _ (by omega) (by omega) (by omega) (by omega) (((Only.setCell w ⟨g, 2, none⟩ (.int .i64 X)).trans (Only.drewN _ _ _ _)).trans (Only.drewN _ _ _ _)) (((H1.out.set_ 2 (.int .i64 X)).drewN _).drewN _)

set_option maxHeartbeats 2000000 in
theorem spec_l01Below (B g : Nat) (n : Int) (w : World) (h : Cur w B g) (n0 : 0 < n) (n1 : n ≤ 1099511627776) : Calls Tryz.prog 30 #[.pointer (some ⟨g, 0, none⟩), .int .i64 n] w (Drew B g 0 (n - 1) w) := by
  have HC := Lib.hid h
  have hn0 : ¬ n = 0 := by omega
  have hnb : (n == 0) = false := beq_eq_false_iff_ne.2 hn0
  have fin : ∀ x : Int, 0 ≤ x → 0 ≤ x % n ∧ x % n ≤ n - 1 := fun x _ => ⟨Int.emod_nonneg _ hn0, by have := Int.emod_lt_of_pos x n0; omega⟩
  have FIN := Lib.hid fin
  clear h fin
  by_cases h256 : n ≤ 256
  · go_enter Tryz.func30, Tryz.ntmps30
    go_wp2_with fail
    refine (spec_l01Byte B g _ HC.out).mono ?_
    rintro e w1 ⟨x, rfl, x0, x1, c1, o1⟩
    have hm : x.tmod n = x % n := Int.tmod_eq_emod_of_nonneg x0
    obtain ⟨y0, y1⟩ := FIN.out x x0
    have C1 := Lib.hid c1
    have O1 := Lib.hid o1
    obtain ⟨y, hy⟩ : ∃ y, x % n = y := ⟨_, rfl⟩
    rw [hy] at hm y0 y1
    clear c1 o1 hy
    go_wp2
    go_ret
    exact ⟨y, rfl, y0, y1, C1.out, O1.out⟩
  · go_enter Tryz.func30, Tryz.ntmps30
    go_wp2_with fail
    refine (spec_l01Byte B g _ HC.out).mono ?_
    rintro e w1 ⟨x1, rfl, xa1, xb1, c1, o1⟩
    have C1 := Lib.hid c1
    have O1 := Lib.hid o1
    clear c1 o1
    go_wp2_with fail
    refine (spec_l01Byte B g _ C1.out).mono ?_
    rintro e w2 ⟨x2, rfl, xa2, xb2, c2, o2⟩
    have C2 := Lib.hid c2
    have O2 := Lib.hid o2
    clear c2 o2
    go_wp2_with fail
    refine (spec_l01Byte B g _ C2.out).mono ?_
    rintro e w3 ⟨x3, rfl, xa3, xb3, c3, o3⟩
    have C3 := Lib.hid c3
    have O3 := Lib.hid o3
    clear c3 o3
    go_wp2_with fail
    refine (spec_l01Byte B g _ C3.out).mono ?_
    rintro e w4 ⟨x4, rfl, xa4, xb4, c4, o4⟩
    have C4 := Lib.hid c4
    have O4 := Lib.hid o4
    clear c4 o4
    have hm : (x1 * 16777216 + x2 * 65536 + x3 * 256 + x4).tmod n = (x1 * 16777216 + x2 * 65536 + x3 * 256 + x4) % n := Int.tmod_eq_emod_of_nonneg (by omega)
    obtain ⟨y0, y1⟩ := FIN.out (x1 * 16777216 + x2 * 65536 + x3 * 256 + x4) (by omega)
    obtain ⟨y, hy⟩ : ∃ y, (x1 * 16777216 + x2 * 65536 + x3 * 256 + x4) % n = y := ⟨_, rfl⟩
    rw [hy] at hm y0 y1
    clear hy
    go_wp2
    go_ret
    exact ⟨y, rfl, y0, y1, C4.out, ((O1.out.trans O2.out).trans O3.out).trans O4.out⟩
set_option maxHeartbeats 1000000 in
theorem spec_l32New (v : Value) (n : Nat) (m : Int) (w : World) (h : SlB w w.heap.size v n) (hn : n ≤ 1048576) (m0 : 0 ≤ m) (m1 : m ≤ 1000) :
    Calls Tryz.prog 15 #[v, .int .i64 m] w fun e w' => ∃ g, e = .returned (.pointer (some ⟨g, 0, none⟩)) ∧ Cur w' w.heap.size g ∧ Below w.heap.size w w' := by
  have HB := Lib.hid h
  clear h
  go_enter Tryz.func15, Tryz.ntmps15
  go_wp2_with fail
  refine (spec_l01New v n _ HB.out hn).mono ?_
  rintro e w1 ⟨g, rfl, c1, b1⟩
  have C1 := Lib.hid c1
  have hgb := c1.base
  clear c1
  go_wp2
  go_loopw [6] (fun i wr => ∃ j : Nat, i = .int .i64 j ∧ (j : Int) ≤ m ∧ Cur wr w.heap.size g ∧ Below w.heap.size w wr) (fun i _ => m.toNat - (intOf i).toNat)
  case atStart => exact ⟨0, rfl, by omega, C1.out, b1⟩
  case round =>
    obtain ⟨j, rfl, hj, hcur, hbl⟩ := hrel
    have C := Lib.hid hcur
    clear hcur
    by_cases hlt : (j : Int) < m
    · go_wp2_with fail
      refine (spec_l01Byte _ g _ C.out).mono ?_
      rintro e w2 ⟨x, rfl, x0, x1, c2, o2⟩
      have C2 := Lib.hid c2
      have b2 := o2.below (Nat.le_of_lt C.out.lt) |>.mono hgb
      clear c2 o2
      go_wp2
      go_roundw
      case rel => exact ⟨j + 1, by go_num, by omega, C2.out, hbl.trans b2⟩
      case measure => simp [intOf]; omega
    · go_wp2
      go_ret
      exact ⟨g, rfl, C.out, hbl⟩
end Go.Proofs.YticekjagmcphbaaGreatDoor

namespace Go.Proofs.YticekjagmcphbaaGreatDoor
open Go.RowKit

theorem Cur.under {a b : World} {B g X : Nat} (h : Cur a B g) (hb : Below X a b) (hg : g < X) : Cur b B g := by
  obtain ⟨v, n, i, k, h1, h2, h3, r⟩ := h
  exact ⟨v, n, i, k, h1.below hb hg, h2, h3.below (hb.mono (by omega)), r⟩
theorem Only.step {w a b : World} {lo hi : Nat} (h : Only lo hi w a) (hb : Below w.heap.size a b) : Only lo hi w b :=
  ⟨hb.os.trans h.os, hb.tape.trans h.tape, hb.output.trans h.output, Nat.le_trans h.size hb.size, fun k hk ho => (hb.block k hk).trans (h.block k hk ho)⟩
theorem Own.only {w w' : World} {lo hi base e : Nat} {v : Value} {xs : List Int} (h : Own w base e v xs) (ho : Only lo hi w w') (hd : hi ≤ base) : Own w' base e v xs := ((OwnR.of h).only ho (.inr hd)).1

set_option maxHeartbeats 1000000 in
theorem spec_l01Pick (B g b n c : Nat) (w : World) (h : Cur w B g) (n0 : 0 < n) (n1 : n ≤ 1000) (hb : b ≠ g) (hi : Int) (hx : ∀ i, i < n → ∃ d : Int, 0 ≤ d ∧ d < hi ∧ w.cell? ⟨b, i, none⟩ = some (.int .i64 d)) :
    Calls Tryz.prog 31 #[.pointer (some ⟨g, 0, none⟩), .slice (some ⟨b, 0, none⟩) n c] w fun e w' => ∃ d : Int, e = .returned (.int .i64 d) ∧ 0 ≤ d ∧ d < hi ∧ Cur w' B g ∧ Only g (g + 1) w w' := by
  have HC := Lib.hid h
  have HX := Lib.hid hx
  clear h hx
  go_enter Tryz.func31, Tryz.ntmps31
  go_wp2_with fail
  refine (spec_l01Below B g (n : Int) _ HC.out (by omega) (by omega)).mono ?_
  rintro e w1 ⟨x, rfl, x0, x1, c1, o1⟩
  have C1 := Lib.hid c1
  have O1 := Lib.hid o1
  obtain ⟨j, rfl⟩ := Int.eq_ofNat_of_zero_le x0
  have hj : j < n := by omega
  obtain ⟨d, hd0, hd1, hcell⟩ := HX.out j hj
  have hbw := World.block_lt_of_cell? w _ hcell
  have hcl : w1.cell? ⟨b, j, none⟩ = some (.int .i64 d) := (o1.cell (b := b) (o := j) hbw (by omega)).trans hcell
  have HD := Lib.hid hd1
  clear c1 o1 hcell hd1
  go_wp2
  go_ret
  exact ⟨d, rfl, hd0, HD.out, C1.out, O1.out⟩
end Go.Proofs.YticekjagmcphbaaGreatDoor

namespace Go.Proofs.YticekjagmcphbaaGreatDoor
open Go.RowKit

/-- Are two fractions the same, sign and lists? -/
def ratEqF (s t : Bool) (xs ys us vs : List Int) : Bool := decide (s = t) && (decide (xs = us) && decide (ys = vs))


set_option maxHeartbeats 1000000 in
theorem impl_same (u v : Value) (xs ys : List Int) (w : World) (hu : Sl w u xs) (hv : Sl w v ys) :
    Calls Tryz.prog 22 #[u, v] w fun e w' => e = .returned (.bool (decide (xs = ys))) ∧ ∃ n, w' = w.drewN n := by
  obtain ⟨A, c, rfl, h1, h2, h3⟩ := hu
  obtain ⟨B, c', rfl, k1, k2, k3⟩ := hv
  have hm : xs.length ≤ 9223372036854775807 := by unfold maxLen at h2; omega
  by_cases hlen : xs.length = ys.length
  · have hb : ((xs.length : Int) != (ys.length : Int)) = false := by simp [hlen]
    have HL := Lib.hid hlen; clear hlen
    go_enter Tryz.func22, Tryz.ntmps22
    go_wp2
    go_loopw [5, 6, 14] (fun _ _ i wr => ∃ k : Nat, k ≤ xs.length ∧ i = .int .i64 k ∧ (∃ n, wr = w.drewN n) ∧ xs.take k = ys.take k) (fun _ _ i _ => xs.length - (intOf i).toNat)
    case atStart => exact ⟨0, Nat.zero_le _, rfl, ⟨0, rfl⟩, rfl⟩
    case round =>
      obtain ⟨k, hk, rfl, ⟨m, rfl⟩, heq⟩ := hrel
      have HE := Lib.hid heq; clear heq
      by_cases hlt : k < xs.length
      · have hlt' : k < ys.length := by rw [← HL.out]; exact hlt
        obtain ⟨b, off, rfl, hc⟩ := h3 (by omega)
        obtain ⟨b', off', rfl, hc'⟩ := k3 (by omega)
        obtain ⟨d, hd⟩ : ∃ d, xs[k]? = some d := ⟨_, List.getElem?_eq_getElem hlt⟩
        obtain ⟨f, hf⟩ : ∃ f, ys[k]? = some f := ⟨_, List.getElem?_eq_getElem hlt'⟩
        have hcell : w.cell? ⟨b, off + k, none⟩ = some (.int .i64 d) := hc k d hd
        have hcell' : w.cell? ⟨b', off' + k, none⟩ = some (.int .i64 f) := hc' k f hf
        have HD := Lib.hid hd
        have HF := Lib.hid hf; clear hd hc h3 hf hc' k3
        have i1 : (k : Int) < (xs.length : Int) := by omega
        have i2 : (k : Int) < (ys.length : Int) := by omega
        by_cases hdf : d = f
        · have hne : (d != f) = false := by simp [hdf]
          have HDF := Lib.hid hdf; clear hdf
          go_wp2
          first | (go_quiet (fail)) | skip
          go_wp2
          go_roundw
          case rel => exact ⟨k + 1, by omega, by go_num, ⟨_, rfl⟩, by rw [take_snoc HD.out, take_snoc HF.out, HE.out, HDF.out]⟩
          case measure => simp [intOf]; omega
        · have hne : (d != f) = true := by simp [hdf]
          go_wp2
          first | (go_quiet (fail)) | skip
          go_wp2
          go_ret
          exact ⟨ret_bool (by simpa using (list_ne HD.out HF.out hdf)), ⟨_, by first | rfl | exact World.drewN_drewN _ _ _⟩⟩
      · have hkk : k = xs.length := by omega
        have HK := Lib.hid hkk; clear hkk
        go_wp2
        go_ret
        exact ⟨ret_bool (by have := HE.out; rw [HK.out, List.take_length, HL.out, List.take_length] at this; simp [this]), ⟨_, rfl⟩⟩
  · have hb : ((xs.length : Int) != (ys.length : Int)) = true := by simp; omega
    go_enter Tryz.func22, Tryz.ntmps22
    go_wp2
    go_ret
    exact ⟨ret_bool (by symm; simp; rintro rfl; exact hlen rfl), ⟨0, rfl⟩⟩


theorem same_ints {f : Nat} {u v : Value} {xs ys : List Int} {w : World} (h : Calls Tryz.prog f #[u, v] w fun e w' => e = .returned (.bool (decide (xs = ys))) ∧ ∃ n, w' = w.drewN n) :
    Calls Tryz.prog f #[u, v] w fun e w' => e = .returned (.bool (decide (xs = ys))) ∧ Below w.heap.size w w' := h.mono fun _ _ ⟨he, hw⟩ => ⟨he, below_of_same hw⟩

set_option maxHeartbeats 2000000 in
theorem impl_RatEqual (s t : Bool) (A B C D : Option Addr) (n c m d n' c' m' d' : Nat) (xs ys us vs : List Int) (w : World) (h1 : Sl w (.slice A n c) xs) (h2 : Sl w (.slice B m d) ys) (h3 : Sl w (.slice C n' c') us) (h4 : Sl w (.slice D m' d') vs) :
    Calls Tryz.prog 7 #[.agg #[.bool s, .slice A n c, .slice B m d], .agg #[.bool t, .slice C n' c', .slice D m' d']] w fun e w' => e = .returned (.bool (ratEqF s t xs ys us vs)) ∧ Below w.heap.size w w' := by
  have H1 := Lib.hid h1
  have H2 := Lib.hid h2
  have H3 := Lib.hid h3
  have H4 := Lib.hid h4
  clear h1 h2 h3 h4
  have zz : w.heap.size < w.heap.size + 1 + 1 := by omega
  have nn := Nat.ne_of_lt zz
  have mm := (Nat.ne_of_lt zz).symm
  by_cases hst : s = t
  · subst hst
    have hb : (s == s) = true := by simp
    have HS := Lib.hid (show decide (s = s) = true by simp)
    by_cases hx : xs = us
    · have HX := Lib.hid (show decide (xs = us) = true by simpa using hx)
      have HR := Lib.hid (show ratEqF s s xs ys us vs = decide (ys = vs) by unfold ratEqF; rw [HS.out, HX.out]; rfl)
      clear hx
      go_enter Tryz.func7, Tryz.ntmps7
      go_wp2_with fail
      (with_reducible refine (same_ints (impl_same _ _ xs us _ (H1.out.below (by repeat' (first | (with_reducible exact Below.refl _ _) | (with_reducible refine Below.alloc ?_ ?_ _) | (with_reducible refine Below.setCell ?_ ?_ _) | (with_reducible refine below_drewN ?_ _) | (with_reducible refine Below.drew ?_) | (with_reducible refine below_step (by assumption) ?_ ?_) | omega | (simp; done) | (simp; omega)))) (H3.out.below (by repeat' (first | (with_reducible exact Below.refl _ _) | (with_reducible refine Below.alloc ?_ ?_ _) | (with_reducible refine Below.setCell ?_ ?_ _) | (with_reducible refine below_drewN ?_ _) | (with_reducible refine Below.drew ?_) | (with_reducible refine below_step (by assumption) ?_ ?_) | omega | (simp; done) | (simp; omega)))))).mono ?_); rintro e w1 ⟨rfl, b1⟩; obtain ⟨hc1, hf1⟩ := bxcell b1; have q1_0 := fun o => hc1 (w.heap.size) o (by first | omega | (simp; done) | (simp; omega)); have q1_1 := fun o => hc1 (w.heap.size + 1) o (by first | omega | (simp; done) | (simp; omega)); have f1_0 := fun o => hf1 (w.heap.size) o (by first | omega | (simp; done) | (simp; omega)); have f1_1 := fun o => hf1 (w.heap.size + 1) o (by first | omega | (simp; done) | (simp; omega)); have hz1 := b1.size; (try simp at hz1); have z1_0 : w.heap.size < w1.heap.size := (by omega); have n1_0 := Nat.ne_of_lt z1_0; have m1_0 := (Nat.ne_of_lt z1_0).symm; have z1_1 : w.heap.size + 1 < w1.heap.size := (by omega); have n1_1 := Nat.ne_of_lt z1_1; have m1_1 := (Nat.ne_of_lt z1_1).symm
      rw [HX.out]
      go_wp2_with fail
      (with_reducible refine (same_ints (impl_same _ _ ys vs _ (H2.out.below (by repeat' (first | (with_reducible exact Below.refl _ _) | (with_reducible refine Below.alloc ?_ ?_ _) | (with_reducible refine Below.setCell ?_ ?_ _) | (with_reducible refine below_drewN ?_ _) | (with_reducible refine Below.drew ?_) | (with_reducible refine below_step (by assumption) ?_ ?_) | omega | (simp; done) | (simp; omega)))) (H4.out.below (by repeat' (first | (with_reducible exact Below.refl _ _) | (with_reducible refine Below.alloc ?_ ?_ _) | (with_reducible refine Below.setCell ?_ ?_ _) | (with_reducible refine below_drewN ?_ _) | (with_reducible refine Below.drew ?_) | (with_reducible refine below_step (by assumption) ?_ ?_) | omega | (simp; done) | (simp; omega)))))).mono ?_); rintro e w2 ⟨rfl, b2⟩; obtain ⟨hc2, hf2⟩ := bxcell b2; have q2_0 := fun o => hc2 (w.heap.size) o (by first | omega | (simp; done) | (simp; omega)); have q2_1 := fun o => hc2 (w.heap.size + 1) o (by first | omega | (simp; done) | (simp; omega)); have f2_0 := fun o => hf2 (w.heap.size) o (by first | omega | (simp; done) | (simp; omega)); have f2_1 := fun o => hf2 (w.heap.size + 1) o (by first | omega | (simp; done) | (simp; omega)); have hz2 := b2.size; (try simp at hz2); have z2_0 : w.heap.size < w2.heap.size := (by omega); have n2_0 := Nat.ne_of_lt z2_0; have m2_0 := (Nat.ne_of_lt z2_0).symm; have z2_1 : w.heap.size + 1 < w2.heap.size := (by omega); have n2_1 := Nat.ne_of_lt z2_1; have m2_1 := (Nat.ne_of_lt z2_1).symm
      go_wp2
      go_ret
      exact ⟨ret_bool HR.out.symm, (by repeat' (first | (with_reducible exact Below.refl _ _) | (with_reducible refine Below.alloc ?_ ?_ _) | (with_reducible refine Below.setCell ?_ ?_ _) | (with_reducible refine below_drewN ?_ _) | (with_reducible refine Below.drew ?_) | (with_reducible refine below_step (by assumption) ?_ ?_) | omega | (simp; done) | (simp; omega)))⟩
    · have HX := Lib.hid (show decide (xs = us) = false by simpa using hx)
      have HR := Lib.hid (show ratEqF s s xs ys us vs = false by unfold ratEqF; rw [HS.out, HX.out]; rfl)
      clear hx
      go_enter Tryz.func7, Tryz.ntmps7
      go_wp2_with fail
      (with_reducible refine (same_ints (impl_same _ _ xs us _ (H1.out.below (by repeat' (first | (with_reducible exact Below.refl _ _) | (with_reducible refine Below.alloc ?_ ?_ _) | (with_reducible refine Below.setCell ?_ ?_ _) | (with_reducible refine below_drewN ?_ _) | (with_reducible refine Below.drew ?_) | (with_reducible refine below_step (by assumption) ?_ ?_) | omega | (simp; done) | (simp; omega)))) (H3.out.below (by repeat' (first | (with_reducible exact Below.refl _ _) | (with_reducible refine Below.alloc ?_ ?_ _) | (with_reducible refine Below.setCell ?_ ?_ _) | (with_reducible refine below_drewN ?_ _) | (with_reducible refine Below.drew ?_) | (with_reducible refine below_step (by assumption) ?_ ?_) | omega | (simp; done) | (simp; omega)))))).mono ?_); rintro e w1 ⟨rfl, b1⟩; obtain ⟨hc1, hf1⟩ := bxcell b1; have q1_0 := fun o => hc1 (w.heap.size) o (by first | omega | (simp; done) | (simp; omega)); have q1_1 := fun o => hc1 (w.heap.size + 1) o (by first | omega | (simp; done) | (simp; omega)); have f1_0 := fun o => hf1 (w.heap.size) o (by first | omega | (simp; done) | (simp; omega)); have f1_1 := fun o => hf1 (w.heap.size + 1) o (by first | omega | (simp; done) | (simp; omega)); have hz1 := b1.size; (try simp at hz1); have z1_0 : w.heap.size < w1.heap.size := (by omega); have n1_0 := Nat.ne_of_lt z1_0; have m1_0 := (Nat.ne_of_lt z1_0).symm; have z1_1 : w.heap.size + 1 < w1.heap.size := (by omega); have n1_1 := Nat.ne_of_lt z1_1; have m1_1 := (Nat.ne_of_lt z1_1).symm
      rw [HX.out]
      go_wp2
      go_ret
      exact ⟨ret_bool HR.out.symm, (by repeat' (first | (with_reducible exact Below.refl _ _) | (with_reducible refine Below.alloc ?_ ?_ _) | (with_reducible refine Below.setCell ?_ ?_ _) | (with_reducible refine below_drewN ?_ _) | (with_reducible refine Below.drew ?_) | (with_reducible refine below_step (by assumption) ?_ ?_) | omega | (simp; done) | (simp; omega)))⟩
  · have hb : (s == t) = false := by simpa using hst
    have HR := Lib.hid (show ratEqF s t xs ys us vs = false by unfold ratEqF; rw [show decide (s = t) = false by simpa using hst]; rfl)
    clear hst
    go_enter Tryz.func7, Tryz.ntmps7
    go_wp2
    go_ret
    exact ⟨ret_bool HR.out.symm, (by repeat' (first | (with_reducible exact Below.refl _ _) | (with_reducible refine Below.alloc ?_ ?_ _) | (with_reducible refine Below.setCell ?_ ?_ _) | (with_reducible refine below_drewN ?_ _) | (with_reducible refine Below.drew ?_) | (with_reducible refine below_step (by assumption) ?_ ?_) | omega | (simp; done) | (simp; omega)))⟩


end Go.Proofs.YticekjagmcphbaaGreatDoor

namespace Go.Proofs.YticekjagmcphbaaGreatDoor
open Go.RowKit

/-- The rounded quotient and the remainder of a sign and a magnitude by a positive number. -/
def floorQ (s : Bool) (m d : Nat) : Int := limZ (if s = true ∧ 0 < m % d then bigZ true (m / d + 1) else bigZ s (m / d))
def floorR (s : Bool) (m d : Nat) : Nat := if s = true ∧ 0 < m % d then d - m % d else m % d
def bigFloorF (s : Bool) (xs ms : List Int) : Int × Nat := if bigOk s xs && okB ms && decide (0 < ms.length) then (floorQ s (val xs).toNat (val ms).toNat, floorR s (val xs).toNat (val ms).toNat) else (0, 0)
theorem floorQ_round {s : Bool} {m d : Nat} (h : s = true) (h0 : 0 < m % d) : floorQ s m d = limZ (bigZ true (m / d + 1)) := by unfold floorQ; rw [if_pos ⟨h, h0⟩]
theorem floorR_round {s : Bool} {m d : Nat} (h : s = true) (h0 : 0 < m % d) : floorR s m d = d - m % d := by unfold floorR; rw [if_pos ⟨h, h0⟩]
theorem floorQ_plain {s : Bool} {m d : Nat} (h : ¬ (s = true ∧ 0 < m % d)) : floorQ s m d = limZ (bigZ s (m / d)) := by unfold floorQ; rw [if_neg h]
theorem floorR_plain {s : Bool} {m d : Nat} (h : ¬ (s = true ∧ 0 < m % d)) : floorR s m d = m % d := by unfold floorR; rw [if_neg h]
theorem floor_no {s : Bool} {xs ms : List Int} (h : (bigOk s xs && okB ms && decide (0 < ms.length)) = false) : bigFloorF s xs ms = (0, 0) := by unfold bigFloorF; rw [h]; rfl
theorem floor_yes {s : Bool} {m d : Nat} (h1 : bigOk s (toL m) = true) (h2 : okB (toL d) = true) (h3 : 0 < d) : bigFloorF s (toL m) (toL d) = (floorQ s m d, floorR s m d) := by
  unfold bigFloorF
  rw [h1, h2, decide_eq_true (toL_len_pos h3), val_toL, val_toL]
  rfl
theorem floor_len (s : Bool) (xs ms : List Int) : (toL (bigFloorF s xs ms).1.natAbs).length ≤ 2000000 ∧ (toL (bigFloorF s xs ms).2).length ≤ 2000000 := by
  unfold bigFloorF
  split
  · rename_i h
    rw [Bool.and_eq_true, Bool.and_eq_true] at h
    obtain ⟨d, rfl, hd⟩ := okB_toL h.1.2
    have hp := of_decide_eq_true h.2
    refine ⟨Nat.le_trans (zlen_lim _) (by omega), Nat.le_trans (toL_len_le.2 (Nat.lt_of_le_of_lt (m := (val (toL d)).toNat) ?_ (by rw [val_toL, Int.toNat_natCast]; exact hd))) (show 60 ≤ 2000000 by omega)⟩
    show floorR _ _ _ ≤ _
    unfold floorR
    have h0 : 0 < (val (toL d)).toNat := by
      rw [val_toL, Int.toNat_natCast]
      rcases Nat.eq_zero_or_pos d with h1 | h1
      · subst h1
        rw [toL_zero] at hp
        cases hp
      · exact h1
    have := Nat.mod_lt (val xs).toNat h0
    split <;> omega
  · exact ⟨by rw [show ((0 : Int), (0 : Nat)).1.natAbs = 0 from rfl, toL_zero]; simp, by rw [show ((0 : Int), (0 : Nat)).2 = 0 from rfl, toL_zero]; simp⟩
/-- A big int and a list of the call's own are handed back, apart from each other. -/
def RetFl (p : Int × Nat) (w : World) (en : Ending) (w' : World) : Prop :=
  ∃ A n c v lo hi lp hp, en = .returned (.tuple #[.agg #[.bool (decide (p.1 < 0)), .slice A n c], v]) ∧ OwnR w' lo hi 3 (.slice A n c) (toL p.1.natAbs) ∧ OwnR w' lp hp 3 v (toL p.2) ∧
    w.heap.size ≤ lo ∧ w.heap.size ≤ lp ∧ (hi ≤ lp ∨ hp ≤ lo) ∧ (hi ≤ w'.heap.size ∧ lo ≤ hi) ∧ (hp ≤ w'.heap.size ∧ lp ≤ hp) ∧ Below w.heap.size w w'
theorem OwnR.nil (w : World) (lo e : Nat) : OwnR w lo lo e (.slice Option.none 0 0) [] := ⟨Own.nil _ _ _, fun k hk => by cases hk⟩
theorem retfl_zero {p : Int × Nat} {w w' : World} (h : p = (0, 0)) (b : Below w.heap.size w w') : RetFl p w (.returned (.tuple #[.agg #[.bool false, .slice none 0 0], .slice none 0 0])) w' := by
  subst h
  refine ⟨none, 0, 0, .slice none 0 0, w.heap.size, w.heap.size, w.heap.size, w.heap.size, rfl, ?_, ?_, Nat.le_refl _, Nat.le_refl _, .inl (Nat.le_refl _), ⟨b.size, Nat.le_refl _⟩, ⟨b.size, Nat.le_refl _⟩, b⟩
  · rw [show ((0 : Int), (0 : Nat)).1.natAbs = 0 from rfl, toL_zero]
    exact OwnR.nil _ _ _
  · rw [show ((0 : Int), (0 : Nat)).2 = 0 from rfl, toL_zero]
    exact OwnR.nil _ _ _
theorem retfl_made {p : Int × Nat} {q : Int} {r : Nat} {u : Bool} {A : Option Addr} {n c lo hi lp hp : Nat} {v : Value} {w w' : World} (h : p = (q, r)) (hu : u = decide (q < 0)) (o : OwnR w' lo hi 3 (.slice A n c) (toL q.natAbs)) (g : OwnR w' lp hp 3 v (toL r))
    (a : w.heap.size ≤ lo) (b : w.heap.size ≤ lp) (d : hi ≤ lp ∨ hp ≤ lo) (e : hi ≤ w'.heap.size ∧ lo ≤ hi) (f : hp ≤ w'.heap.size ∧ lp ≤ hp) (hb : Below w.heap.size w w') :
    RetFl p w (.returned (.tuple #[.agg #[.bool u, .slice A n c], v])) w' := by
  subst h hu
  exact ⟨A, n, c, v, lo, hi, lp, hp, rfl, o, g, a, b, d, e, f, hb⟩
/-- A quotient and a remainder, opened for the walk. -/
def GiveTwo (q r : Nat) (w : World) (en : Ending) (w' : World) : Prop :=
  ∃ A n c B k d lo hi lp hp, en = .returned (.tuple #[.slice A n c, .slice B k d]) ∧ n = (toL q).length ∧ k = (toL r).length ∧ OwnR w' lo hi 3 (.slice A n c) (toL q) ∧ OwnR w' lp hp 3 (.slice B k d) (toL r) ∧
    w.heap.size ≤ lo ∧ w.heap.size ≤ lp ∧ (hi ≤ lp ∨ hp ≤ lo) ∧ hi ≤ w'.heap.size ∧ hp ≤ w'.heap.size ∧ lo ≤ hi ∧ lp ≤ hp ∧ Below w.heap.size w w'
theorem RetTwo.give {q r : Nat} {w w' : World} {en : Ending} (h : RetTwo 3 (toL q) (toL r) w en w') : GiveTwo q r w en w' := by
  obtain ⟨u, s, lo1, hi1, lo2, hi2, he, o, p, a, b, c, d, e, f, g, k⟩ := h
  obtain ⟨A, c', rfl, _, _, _⟩ := o.1.form
  obtain ⟨B, d', rfl, _, _, _⟩ := p.1.form
  exact ⟨A, _, c', B, _, d', lo1, hi1, lo2, hi2, he, rfl, rfl, o, p, a, b, c, d, e, g, k, f⟩
/-- A big int made of a row in the blocks from lo up to hi (or anew). -/
def GiveO (lo hi : Nat) (z : Int) (w : World) (en : Ending) (w' : World) : Prop :=
  ∃ u A n c, en = .returned (.agg #[.bool u, .slice A n c]) ∧ u = decide (z < 0) ∧ OwnR w' lo hi 3 (.slice A n c) (toL z.natAbs) ∧ Below w.heap.size w w'
theorem impl_makeO (s : Bool) (v : Value) (m lo hi : Nat) (w : World) (h : OwnR w lo hi 3 v (toL m)) (hh : hi ≤ w.heap.size) :
    Calls Tryz.prog 35 #[.bool s, v] w (GiveO lo hi (limZ (bigZ s m)) w) := by
  obtain ⟨A, c, rfl, h1, h2, h3⟩ := h.1.form
  refine (impl_bigMakeV s A m c w (by unfold maxLen at h2; omega)).mono fun _ w' ⟨he, hw⟩ => ?_
  by_cases hm : 0 < m ∧ m < pw 60
  · obtain ⟨e1, e2⟩ := @mkB_yes s A m c hm
    refine ⟨_, _, _, _, by rw [he, e1], rfl, ?_, hw⟩
    rw [e2]
    exact h.below hw hh
  · obtain ⟨e1, e2⟩ := @mkB_no s A m c hm
    refine ⟨_, _, _, _, by rw [he, e1], rfl, ?_, hw⟩
    rw [e2, show (0 : Int).natAbs = 0 from rfl, toL_zero]
    exact ⟨Own.nil _ _ _, fun k hk => by cases hk⟩
theorem lt_div {m d : Nat} (h : m < pw 60) : m / d < pw 60 := Nat.lt_of_le_of_lt (Nat.div_le_self _ _) h
theorem one_lt : 1 < pw 200 := Nat.lt_of_lt_of_le (show 1 < pw 1 by rw [pw_succ, pw_zero]; omega) (pw_le (by omega))
theorem sl_oneF {w : World} {g e : Nat} (hg : g = w.heap.size) : Sl (w.alloc (.cells #[.int .i64 1] e)) (.slice (some ⟨g, 0, none⟩) 1 1) (toL 1) := by
  subst hg
  rw [show toL 1 = [1] by rw [toL_pos (by omega), toL_zero]; rfl]
  exact (own_one w 1 (Nat.le_refl w.heap.size)).sl




end Go.Proofs.YticekjagmcphbaaGreatDoor

namespace Go.Proofs.YticekjagmcphbaaGreatDoor
open Go.RowKit

theorem put_top {n d : Nat} {k : Int} (h : n < pw d) (hk0 : 0 < k) (hk : k < 1000000000) : ∃ l, toL n ++ [k] = toL l ∧ 0 < l ∧ l < pw (d + 1) := by
  have hl : Limbs (toL n ++ [k]) := (limbs_toL n).append (Limbs.cons (by omega) hk Limbs.nil)
  have hlast : (toL n ++ [k]).getLast? ≠ some 0 := by
    rw [List.getLast?_append, List.getLast?_singleton, Option.some_or]
    intro h1
    have := Option.some.inj h1
    omega
  have h1 := toL_of_limbs hl hlast
  have h2 := val_lt hl
  rw [List.length_append, List.length_singleton] at h2
  have h3 : pw ((toL n).length + 1) ≤ pw (d + 1) := pw_le (by have := toL_len_lt h; omega)
  refine ⟨(val (toL n ++ [k])).toNat, h1.symm, ?_, ?_⟩
  · rcases Nat.eq_zero_or_pos (val (toL n ++ [k])).toNat with h4 | h4
    · rw [h4, toL_zero] at h1
      have := congrArg List.length h1
      simp at this
    · exact h4
  · have := pw_pos (d + 1)
    omega
theorem parse_dec {m : Nat} (h : m < pw 60) : parseNatF (decF m) = (toL m, true) := by
  have h1 : (decF m).data.toList = Lib.decDigits m := rfl
  have h2 : (decF m).size = (Lib.decDigits m).length := by rw [← list_size, h1]
  have h3 := parse_good (s := decF m) (by
    unfold digitsB
    rw [h1, dec_all, h2]
    simp [dec_ne]) (by rw [h2]; exact dec_len_pw h (by omega)) (by
    rw [h1, h2]
    rcases Nat.eq_zero_or_pos m with h4 | h4
    · subst h4
      left
      rw [dec_small (by omega)]
      rfl
    · exact .inr (dec_head h4))
  rw [h3, h1, num_dec]
theorem fmtNat_size0 {m : Nat} (h : m < pw 3) : (decF m).size ≤ 27 := by
  have h2 : (decF m).size = (Lib.decDigits m).length := by rw [← list_size]; rfl
  rw [h2]
  exact dec_len_pw h (by omega)
theorem limN_small {n : Nat} (h : n < pw 60) : limN n = n := by unfold limN; rw [if_pos h]
theorem ok_lt {m k : Nat} (h : m < pw k) (hk : k ≤ 60) : okB (toL m) = true := okB_of_toL (Nat.lt_of_lt_of_le h (pw_le hk))

theorem dec_cons0 (m : Nat) : ∃ c r, Lib.decDigits m = c :: r ∧ digB c = true := by
  have h1 := dec_ne m
  have h2 := dec_all m
  cases h : Lib.decDigits m with
  | nil => rw [h] at h1; cases h1
  | cons c r =>
    rw [h, List.all_cons, Bool.and_eq_true] at h2
    exact ⟨c, r, rfl, h2.1⟩
end Go.Proofs.YticekjagmcphbaaGreatDoor

namespace Go.Proofs.YticekjagmcphbaaGreatDoor
open Go.RowKit

theorem okI {z : Int} (h : z.natAbs < pw 60) : bigOk (decide (z < 0)) (toL z.natAbs) = true := by
  unfold bigOk
  rw [okB_of_toL h, Bool.true_and, Bool.not_eq_true', Bool.and_eq_false_iff]
  by_cases hz : z < 0
  · right
    rw [toL_pos (by omega)]
    rfl
  · exact .inl (decide_eq_false hz)
theorem okN {l : Nat} (h : l < pw 60) : bigOk false (toL l) = true := by
  unfold bigOk
  rw [okB_of_toL h]
  rfl
theorem zvI (z : Int) : zv (decide (z < 0)) (toL z.natAbs) = z := by
  rw [zv_toL]
  unfold bigZ
  by_cases hz : z < 0
  · rw [if_pos (decide_eq_true hz)]; omega
  · rw [if_neg (by simpa using hz)]; omega
theorem zvN (l : Nat) : zv false (toL l) = (l : Int) := by rw [zv_toL]; rfl
theorem limI {z : Int} (h : z.natAbs < pw 60) : limZ z = z := by unfold limZ; rw [if_pos h]
theorem addI {a b : Int} (ha : a.natAbs < pw 60) (hb : b.natAbs < pw 60) (h : (a + b).natAbs < pw 60) : bigAddF (decide (a < 0)) (decide (b < 0)) (toL a.natAbs) (toL b.natAbs) = a + b := by
  unfold bigAddF
  rw [okI ha, okI hb, Bool.and_true, if_pos rfl, zvI, zvI, limI h]
theorem addN {a : Int} {b : Nat} (ha : a.natAbs < pw 60) (hb : b < pw 60) (h : (a + (b : Int)).natAbs < pw 60) : bigAddF (decide (a < 0)) false (toL a.natAbs) (toL b) = a + (b : Int) := by
  unfold bigAddF
  rw [okI ha, okN hb, Bool.and_true, if_pos rfl, zvI, zvN, limI h]
theorem subI {a b : Int} (ha : a.natAbs < pw 60) (hb : b.natAbs < pw 60) (h : (a - b).natAbs < pw 60) : bigSubF (decide (a < 0)) (decide (b < 0)) (toL a.natAbs) (toL b.natAbs) = a - b := by
  unfold bigSubF
  rw [okI ha, okI hb, Bool.and_true, if_pos rfl, zvI, zvI, limI h]
theorem mulN {a : Int} {b : Nat} (ha : a.natAbs < pw 60) (hb : b < pw 60) (h : (a * (b : Int)).natAbs < pw 60) : bigMulF (decide (a < 0)) false (toL a.natAbs) (toL b) = a * (b : Int) := by
  unfold bigMulF
  rw [okI ha, okN hb, Bool.and_true, if_pos rfl, zvI, zvN, limI h]
theorem cmpI (a : Int) : bigCmpF (decide (a < 0)) (decide (a < 0)) (toL a.natAbs) (toL a.natAbs) = 0 := by
  unfold bigCmpF
  split
  · unfold cmpZ
    rw [if_neg (by omega), if_neg (by omega)]
  · rfl
theorem pw34 : pw 3 + pw 4 < pw 60 := by
  have h1 : pw 3 ≤ pw 4 := pw_le (by omega)
  have h2 : pw 5 = 1000000000 * pw 4 := pw_succ 4
  have h3 : pw 5 ≤ pw 60 := pw_le (by omega)
  have h4 := pw_pos 4
  omega
theorem floor_spec {z : Int} {l : Nat} (hz : z.natAbs < pw 3) (h0 : 0 < l) (hl : l < pw 4) :
    ∃ (q : Int) (r : Nat), bigFloorF (decide (z < 0)) (toL z.natAbs) (toL l) = (q, r) ∧ q * (l : Int) + (r : Int) = z ∧ r < l ∧ q.natAbs < pw 60 ∧ (q * (l : Int)).natAbs < pw 60 := by
  have hp := pw34
  have h1 := floor_yes (s := decide (z < 0)) (m := z.natAbs) (d := l) (okI (by omega)) (okB_of_toL (by omega)) h0
  have hd := Nat.div_add_mod' z.natAbs l
  have hm := Nat.mod_lt z.natAbs h0
  have hq1 := Nat.div_le_self z.natAbs l
  have hql := Nat.div_mul_le_self z.natAbs l
  obtain ⟨Q, hQ⟩ : ∃ Q, Q = z.natAbs / l := ⟨_, rfl⟩
  obtain ⟨R, hR⟩ : ∃ R, R = z.natAbs % l := ⟨_, rfl⟩
  rw [← hQ] at hd hq1 hql
  rw [← hR] at hd hm
  have hQl : (Q : Int) * (l : Int) = ((Q * l : Nat) : Int) := by rw [Int.natCast_mul]
  by_cases hz0 : z < 0
  · by_cases hr : 0 < R
    · refine ⟨-((Q + 1 : Nat) : Int), l - R, ?_, ?_, by omega, by omega, ?_⟩
      · rw [h1, floorQ_round (decide_eq_true hz0) (by rw [← hR]; exact hr), floorR_round (decide_eq_true hz0) (by rw [← hR]; exact hr), ← hQ, ← hR, limZ_small (by omega)]
        rfl
      · have e : -((Q + 1 : Nat) : Int) * (l : Int) = -((Q : Int) * (l : Int)) - (l : Int) := by
          rw [Int.natCast_add, Int.neg_mul, Int.add_mul]
          simp
          omega
        rw [e, hQl]
        omega
      · have e : -((Q + 1 : Nat) : Int) * (l : Int) = -((Q : Int) * (l : Int)) - (l : Int) := by
          rw [Int.natCast_add, Int.neg_mul, Int.add_mul]
          simp
          omega
        rw [e, hQl]
        omega
    · have hns : ¬ (decide (z < 0) = true ∧ 0 < z.natAbs % l) := by rw [← hR]; exact fun h => hr h.2
      refine ⟨-(Q : Int), R, ?_, ?_, hm, by omega, ?_⟩
      · rw [h1, floorQ_plain hns, floorR_plain hns, ← hQ, ← hR, limZ_small (by omega)]
        unfold bigZ
        rw [if_pos (decide_eq_true hz0)]
      · rw [Int.neg_mul, hQl]
        omega
      · rw [Int.neg_mul, hQl]
        omega
  · have hns : ¬ (decide (z < 0) = true ∧ 0 < z.natAbs % l) := fun h => hz0 (of_decide_eq_true h.1)
    refine ⟨(Q : Int), R, ?_, ?_, hm, by omega, ?_⟩
    · rw [h1, floorQ_plain hns, floorR_plain hns, ← hQ, ← hR, limZ_small (by omega)]
      unfold bigZ
      rw [if_neg (by simpa using hz0)]
    · rw [hQl]
      omega
    · rw [hQl]
      omega
theorem minus_dec (m : Nat) : minusB (decF m) = false := by
  obtain ⟨c, r, hcr, hc⟩ := dec_cons0 m
  unfold minusB
  rw [show (decF m).data.toList = Lib.decDigits m from rfl, hcr, List.head?_cons]
  refine decide_eq_false ?_
  intro h
  have h2 := digB_nat hc
  rw [Option.some.inj h] at h2
  simp at h2
theorem parse_ok_dec {m : Nat} (h : m < pw 60) : parseOk (decF m) = true := by
  have h1 := congrArg Prod.snd (parse_dec h)
  rw [parse_snd] at h1
  exact h1
theorem parse_big {z : Int} (h : z.natAbs < pw 60) : parseBigF (fmtBigF (decide (z < 0)) (toL z.natAbs)) = (z, true) := by
  have ho := okI h
  have hn : okB (toL z.natAbs) = true := okB_of_toL h
  by_cases hz : z < 0
  · have e1 : decide (z < 0) = true := decide_eq_true hz
    rw [e1] at ho ⊢
    rw [fmtBig_neg ho, fmtNat_yes hn]
    have hm : minusB (⟨#[45]⟩ ++ decF z.natAbs) = true := by
      unfold minusB
      simp
    have hb : behindB (⟨#[45]⟩ ++ decF z.natAbs) = decF z.natAbs := by
      unfold behindB
      rw [if_pos hm]
      apply ByteArray.ext
      rw [← Array.toList_inj, ByteArray.data_extract, Array.toList_extract, List.extract_eq_take_drop]
      rw [show (⟨#[45]⟩ ++ decF z.natAbs : ByteArray).data.toList = 45 :: (decF z.natAbs).data.toList by simp, List.drop_succ_cons, List.drop_zero]
      exact List.take_of_length_le (by rw [list_size, ByteArray.size_append]; show _ ≤ 1 + _ - 1; omega)
    rw [pb_good (by rw [hb]; exact parse_ok_dec h) (by
      intro _
      rw [hb, show (decF z.natAbs).data.toList = Lib.decDigits z.natAbs from rfl, num_dec]
      omega), hb, hm, show (decF z.natAbs).data.toList = Lib.decDigits z.natAbs from rfl, num_dec]
    unfold bigZ
    rw [if_pos rfl]
    congr 1
    omega
  · have e1 : decide (z < 0) = false := decide_eq_false hz
    rw [e1] at ho ⊢
    rw [fmtBig_pos ho, fmtNat_yes hn]
    have hm := minus_dec z.natAbs
    have hb : behindB (decF z.natAbs) = decF z.natAbs := by unfold behindB; rw [if_neg (by rw [hm]; simp)]
    rw [pb_good (by rw [hb]; exact parse_ok_dec h) (by intro h9; rw [hm] at h9; cases h9), hb, hm, show (decF z.natAbs).data.toList = Lib.decDigits z.natAbs from rfl, num_dec]
    unfold bigZ
    rw [if_neg (by simp)]
    congr 1
    omega
end Go.Proofs.YticekjagmcphbaaGreatDoor

namespace Go.Proofs.YticekjagmcphbaaGreatDoor
open Go.RowKit

/-- A fraction as the pair that the lists tell. -/
def nf (q : Rat) : Int × Nat := (q.num, q.den)
theorem ratZ_nf {z : Int} {l : Nat} (h0 : 0 < l) (hz : z.natAbs < pw 24) (hl : l < pw 24) : ratZ z l = nf (mkRat z l) := by
  unfold ratZ nf
  rw [ratF_some h0 (Nat.lt_of_le_of_lt (Nat.div_le_self _ _) hz) (Nat.lt_of_le_of_lt (Nat.div_le_self _ _) hl), Rat.num_mkRat, Rat.den_mkRat, if_neg (by omega), if_neg (by omega), Nat.gcd_comm l]
  refine Prod.ext ?_ rfl
  show bigZ (decide (z < 0)) (z.natAbs / Nat.gcd z.natAbs l) = z / ((Nat.gcd z.natAbs l : Nat) : Int)
  obtain ⟨g, hg⟩ : ∃ g, g = Nat.gcd z.natAbs l := ⟨_, rfl⟩
  have hd : g ∣ z.natAbs := by rw [hg]; exact Nat.gcd_dvd_left _ _
  rw [← hg]
  obtain ⟨k, hk⟩ := hd
  have hgp : 0 < g := by rw [hg]; exact Nat.gcd_pos_of_pos_right _ h0
  rw [hk, Nat.mul_div_cancel_left _ hgp]
  have hgi : (g : Int) ≠ 0 := by omega
  unfold bigZ
  by_cases h : z < 0
  · rw [if_pos (decide_eq_true h)]
    have e : z = (g : Int) * -(k : Int) := by
      rw [Int.mul_neg, ← Int.natCast_mul, ← hk]
      omega
    rw [e, Int.mul_ediv_cancel_left _ hgi]
  · rw [if_neg (by simpa using h)]
    have e : z = (g : Int) * (k : Int) := by
      rw [← Int.natCast_mul, ← hk]
      omega
    rw [e, Int.mul_ediv_cancel_left _ hgi]
/-- A small fraction. -/
def Sm (k : Nat) (q : Rat) : Prop := q.num.natAbs ≤ k ∧ q.den ≤ k
theorem Sm.mk {z : Int} {l k : Nat} (h0 : 0 < l) (h1 : z.natAbs ≤ k) (h2 : l ≤ k) : Sm k (mkRat z l) := by
  unfold Sm
  rw [Rat.num_mkRat, Rat.den_mkRat, if_neg (by omega), if_neg (by omega)]
  refine ⟨?_, Nat.le_trans (Nat.div_le_self _ _) h2⟩
  have := Int.natAbs_ediv_le_natAbs z ((Nat.gcd l z.natAbs : Nat) : Int)
  omega
theorem million : 1000000 < pw 24 := by
  have h1 : pw 1 ≤ pw 24 := pw_le (by omega)
  have h2 : pw 1 = 1000000000 * pw 0 := pw_succ 0
  rw [pw_zero] at h2
  omega
theorem Sm.lt {k : Nat} {q : Rat} (h : Sm k q) (hk : k ≤ 1000000) : q.num.natAbs < pw 24 ∧ q.den < pw 24 := by
  have := million
  unfold Sm at h
  omega
theorem p2460 {m : Nat} (h : m < pw 24) : m < pw 60 := Nat.lt_of_lt_of_le h (pw_le (by omega))
theorem ok_q {q : Rat} (h1 : q.num.natAbs < pw 24) (h2 : q.den < pw 24) : ratOkB (decide (q.num < 0)) (toL q.num.natAbs) (toL q.den) = true := by
  have h3 := q.den_pos
  unfold ratOkB
  rw [okI (p2460 h1), okB_of_toL (p2460 h2), decide_eq_true (toL_len_pos h3), decide_eq_true (toL_len_le.2 h1), decide_eq_true (toL_len_le.2 h2), val_toL, val_toL, Int.toNat_natCast, Int.toNat_natCast, decide_eq_true (show Nat.gcd q.num.natAbs q.den = 1 from q.reduced)]
  rfl
theorem ok_s {k : Nat} {q : Rat} (h : Sm k q) (hk : k ≤ 1000000) : ratOkB (decide (q.num < 0)) (toL q.num.natAbs) (toL q.den) = true := ok_q (h.lt hk).1 (h.lt hk).2
theorem bz (l : Nat) : bigZ false l = (l : Int) := rfl
theorem abs_le {x : Int} {k l A B : Nat} (h1 : x.natAbs ≤ A) (h2 : l ≤ B) (hk : A * B ≤ k) : (x * (l : Int)).natAbs ≤ k := by
  rw [Int.natAbs_mul, Int.natAbs_natCast]
  exact Nat.le_trans (Nat.mul_le_mul h1 h2) hk
theorem add_q {a b : Rat} {A B k : Nat} (ha : Sm A a) (hb : Sm B b) (hA : A ≤ 1000000) (hB : B ≤ 1000000) (h : 2 * (A * B) = k) (hk : k < 1000000) :
    ratAddF (decide (a.num < 0)) (decide (b.num < 0)) (toL a.num.natAbs) (toL a.den) (toL b.num.natAbs) (toL b.den) = nf (a + b) ∧ Sm k (a + b) := by
  have h1 := abs_le ha.1 hb.2 (Nat.le_refl _)
  have h2 := abs_le hb.1 ha.2 (Nat.le_refl _)
  have h3 : a.den * b.den ≤ A * B := Nat.mul_le_mul ha.2 hb.2
  have h4 : 0 < a.den * b.den := Nat.mul_pos a.den_pos b.den_pos
  have h5 := million
  rw [Nat.mul_comm B A] at h2
  rw [Rat.add_def']
  refine ⟨?_, Sm.mk h4 (by omega) (by omega)⟩
  unfold ratAddF
  rw [ok_s ha hA, ok_s hb hB, Bool.and_true, if_pos rfl, zvI, zvI, dv_toL, dv_toL, bz, bz]
  exact ratZ_nf h4 (by omega) (by omega)
theorem sub_q {a b : Rat} {A B k : Nat} (ha : Sm A a) (hb : Sm B b) (hA : A ≤ 1000000) (hB : B ≤ 1000000) (h : 2 * (A * B) = k) (hk : k < 1000000) :
    ratSubF (decide (a.num < 0)) (decide (b.num < 0)) (toL a.num.natAbs) (toL a.den) (toL b.num.natAbs) (toL b.den) = nf (a - b) ∧ Sm k (a - b) := by
  have h1 := abs_le ha.1 hb.2 (Nat.le_refl _)
  have h2 := abs_le hb.1 ha.2 (Nat.le_refl _)
  have h3 : a.den * b.den ≤ A * B := Nat.mul_le_mul ha.2 hb.2
  have h4 : 0 < a.den * b.den := Nat.mul_pos a.den_pos b.den_pos
  have h5 := million
  rw [Nat.mul_comm B A] at h2
  rw [Rat.sub_def']
  refine ⟨?_, Sm.mk h4 (by omega) (by omega)⟩
  unfold ratSubF
  rw [ok_s ha hA, ok_s hb hB, Bool.and_true, if_pos rfl, zvI, zvI, dv_toL, dv_toL, bz, bz]
  exact ratZ_nf h4 (by omega) (by omega)
theorem mul_q {a b : Rat} {A B k : Nat} (ha : Sm A a) (hb : Sm B b) (hA : A ≤ 1000000) (hB : B ≤ 1000000) (h : A * B = k) (hk : k < 1000000) :
    ratMulF (decide (a.num < 0)) (decide (b.num < 0)) (toL a.num.natAbs) (toL a.den) (toL b.num.natAbs) (toL b.den) = nf (a * b) ∧ Sm k (a * b) := by
  have h1 : (a.num * b.num).natAbs ≤ A * B := by rw [Int.natAbs_mul]; exact Nat.mul_le_mul ha.1 hb.1
  have h3 : a.den * b.den ≤ A * B := Nat.mul_le_mul ha.2 hb.2
  have h4 : 0 < a.den * b.den := Nat.mul_pos a.den_pos b.den_pos
  have h5 := million
  rw [Rat.mul_def']
  refine ⟨?_, Sm.mk h4 (by omega) (by omega)⟩
  unfold ratMulF
  rw [ok_s ha hA, ok_s hb hB, Bool.and_true, if_pos rfl, zvI, zvI, dv_toL, dv_toL]
  exact ratZ_nf h4 (by omega) (by omega)
theorem abs_sgn (z : Int) : bigZ (decide (z < 0)) 1 * z = (z.natAbs : Int) := by
  unfold bigZ
  by_cases h1 : z < 0
  · rw [if_pos (decide_eq_true h1)]; omega
  · rw [if_neg (by simpa using h1)]; omega
theorem div_q {a b : Rat} {A B k : Nat} (ha : Sm A a) (hb : Sm B b) (hA : A ≤ 1000000) (hB : B ≤ 1000000) (_h : A * B = k) (hk : k < 1000000) (h0 : b.num ≠ 0) :
    ∃ d : Rat, ratDivF (decide (a.num < 0)) (decide (b.num < 0)) (toL a.num.natAbs) (toL a.den) (toL b.num.natAbs) (toL b.den) = nf d ∧ Sm k d ∧ d * b = a := by
  have h1 : a.num.natAbs * b.den ≤ A * B := Nat.mul_le_mul ha.1 hb.2
  have h3 : a.den * b.num.natAbs ≤ A * B := Nat.mul_le_mul ha.2 hb.1
  have h4 : 0 < a.den * b.num.natAbs := Nat.mul_pos a.den_pos (by omega)
  have h5 := million
  obtain ⟨z, hz⟩ : ∃ z, z = bigZ (decide (a.num < 0) != decide (b.num < 0)) (a.num.natAbs * b.den) := ⟨_, rfl⟩
  have hza : z.natAbs = a.num.natAbs * b.den := by rw [hz, bigZ_abs]
  refine ⟨mkRat z (a.den * b.num.natAbs), ?_, Sm.mk h4 (by omega) (by omega), ?_⟩
  · unfold ratDivF
    rw [ok_s ha hA, ok_s hb hB, Bool.and_true, if_pos rfl, dv_toL, dv_toL, dv_toL, dv_toL, ratF_of _ hz.symm]
    exact ratZ_nf h4 (by omega) (by omega)
  · have hs : z * b.num = a.num * ((b.num.natAbs * b.den : Nat) : Int) := by
      rw [hz, Int.natCast_mul, ← abs_sgn b.num]
      unfold bigZ
      rw [Int.natCast_mul]
      have ea : ∀ n : Int, n < 0 → (n.natAbs : Int) = -n := fun n hn => by omega
      have eb : ∀ n : Int, ¬ n < 0 → (n.natAbs : Int) = n := fun n hn => by omega
      by_cases p : a.num < 0 <;> by_cases q : b.num < 0
      · rw [decide_eq_true p, decide_eq_true q, ea _ p]
        simp [Int.mul_neg, Int.mul_comm, Int.mul_left_comm]
      · rw [decide_eq_true p, decide_eq_false q, ea _ p]
        simp [Int.mul_neg, Int.mul_comm, Int.mul_left_comm]
      · rw [decide_eq_false p, decide_eq_true q, eb _ p]
        simp [Int.mul_neg, Int.mul_comm, Int.mul_left_comm]
      · rw [decide_eq_false p, decide_eq_false q, eb _ p]
        simp [Int.mul_comm, Int.mul_left_comm]
    have e1 : mkRat z (a.den * b.num.natAbs) * b = mkRat (z * b.num) (a.den * b.num.natAbs * b.den) := by
      rw [← Rat.mkRat_mul_mkRat, Rat.mkRat_self]
    have e2 : mkRat (z * b.num) (a.den * b.num.natAbs * b.den) = mkRat a.num a.den := by
      rw [Rat.mkRat_eq_iff (by have := Nat.mul_pos h4 b.den_pos; omega) a.den_nz, hs, Int.mul_assoc, ← Int.natCast_mul]
      congr 2
      ac_rfl
    rw [e1, e2, Rat.mkRat_self]
theorem mk_sign {z : Int} {l : Nat} (h0 : 0 < l) : ∃ g : Nat, 0 < g ∧ z = (mkRat z l).num * (g : Int) := by
  rw [Rat.num_mkRat, if_neg (by omega)]
  refine ⟨Nat.gcd l z.natAbs, Nat.gcd_pos_of_pos_left _ h0, ?_⟩
  rw [Int.ediv_mul_cancel]
  exact Int.ofNat_dvd_left.2 (Nat.gcd_dvd_right _ _)
theorem sgn_q {q : Rat} {k : Nat} (h : Sm k q) (hk : k ≤ 1000000) : ratSignF (decide (q.num < 0)) (toL q.num.natAbs) (toL q.den) = cmpZ q.num 0 := by
  unfold ratSignF sgnF cmpZ
  rw [ok_s h hk, if_pos rfl, dv_toL]
  by_cases h1 : q.num < 0
  · rw [if_neg (by omega), decide_eq_true h1, if_pos rfl, if_pos h1]
  · rw [if_neg h1, decide_eq_false h1]
    by_cases h2 : 0 < q.num
    · rw [if_neg (by omega), if_neg (by simp), if_pos h2]
    · rw [if_pos (by omega), if_neg h2]
theorem cmp_q {a b : Rat} {A B k : Nat} (ha : Sm A a) (hb : Sm B b) (hA : A ≤ 1000000) (hB : B ≤ 1000000) (hs : Sm k (a - b)) (hk : k ≤ 1000000) :
    ratCmpF (decide (a.num < 0)) (decide (b.num < 0)) (toL a.num.natAbs) (toL a.den) (toL b.num.natAbs) (toL b.den) = ratSignF (decide ((a - b).num < 0)) (toL (a - b).num.natAbs) (toL (a - b).den) := by
  rw [sgn_q hs hk]
  unfold ratCmpF
  rw [ok_s ha hA, ok_s hb hB, Bool.and_true, if_pos rfl, zvI, zvI, dv_toL, dv_toL, bz, bz, Rat.sub_def']
  obtain ⟨x, hx⟩ : ∃ x, x = a.num * (b.den : Int) := ⟨_, rfl⟩
  obtain ⟨y, hy⟩ : ∃ y, y = b.num * (a.den : Int) := ⟨_, rfl⟩
  rw [← hx, ← hy]
  obtain ⟨g, hg, e⟩ := mk_sign (z := x - y) (l := a.den * b.den) (Nat.mul_pos a.den_pos b.den_pos)
  obtain ⟨n, hn⟩ : ∃ n, n = (mkRat (x - y) (a.den * b.den)).num := ⟨_, rfl⟩
  rw [← hn] at e ⊢
  have hgi : (0 : Int) < (g : Int) := by omega
  unfold cmpZ
  by_cases h1 : n < 0
  · have := Int.mul_neg_of_neg_of_pos h1 hgi
    rw [if_pos (by omega), if_pos h1]
  · rw [if_neg h1]
    by_cases h2 : 0 < n
    · have := Int.mul_pos h2 hgi
      rw [if_pos h2, if_neg (by omega), if_pos (by omega)]
    · have h3 : n = 0 := by omega
      rw [h3, Int.zero_mul] at e
      rw [if_neg h2, if_neg (by omega), if_neg (by omega)]
theorem rat_ext {a b : Rat} (h : nf a = nf b) : a = b := Rat.ext (congrArg Prod.fst h) (congrArg Prod.snd h)
/-- Splitting at a slash. -/
theorem parts_none {s b : ByteArray} : ∀ (n i f : Nat), n = s.size - i → (∀ j (hj : j < s.size), i ≤ j → hasB b s[j] = false) → parts s b f i = [s.extract f s.size] := by
  intro n
  induction n with
  | zero => intro i f h _; exact parts_end (by omega)
  | succ n ih =>
    intro i f h hf
    rw [parts_miss (by omega) (hf i (by omega) (Nat.le_refl _))]
    exact ih (i + 1) f (by omega) (fun j hj hij => hf j hj (by omega))
theorem parts_skip {s b : ByteArray} {k : Nat} (hk : k ≤ s.size) : ∀ (n i f : Nat), n = k - i → i ≤ k → (∀ j (hj : j < s.size), i ≤ j → j < k → hasB b s[j] = false) → parts s b f i = parts s b f k := by
  intro n
  induction n with
  | zero => intro i f h h2 _; rw [show i = k by omega]
  | succ n ih =>
    intro i f h h2 hf
    rw [parts_miss (by omega) (hf i (by omega) (Nat.le_refl _) (by omega))]
    exact ih (i + 1) f (by omega) (by omega) (fun j hj hij => hf j hj (by omega))
theorem no47 {s : ByteArray} (h : s.data.toList.count 47 = 0) (j : Nat) (hj : j < s.size) : hasB ⟨#[47]⟩ s[j] = false := by
  rw [Bool.eq_false_iff]
  intro h1
  rw [has1] at h1
  rw [List.count_eq_zero] at h
  apply h
  rw [h1]
  have : s[j] = s.data.toList[j]'(by rw [list_size]; exact hj) := rfl
  rw [this]
  exact List.getElem_mem _
theorem ext_full (s : ByteArray) : s.extract 0 s.size = s := by
  apply ByteArray.ext
  rw [← Array.toList_inj, ByteArray.data_extract, Array.toList_extract, List.extract_eq_take_drop, List.drop_zero, List.take_of_length_le (by rw [list_size]; omega)]
theorem split_no {s : ByteArray} (h : s.data.toList.count 47 = 0) : splitF s ⟨#[47]⟩ = [s] := by
  unfold splitF
  rw [parts_none s.size 0 0 rfl (fun j hj _ => no47 h j hj), ext_full]
theorem list_cat (a b : ByteArray) : (a ++ (⟨#[47]⟩ ++ b) : ByteArray).data.toList = a.data.toList ++ 47 :: b.data.toList := by simp
theorem split_two {a b : ByteArray} (ha : a.data.toList.count 47 = 0) (hb : b.data.toList.count 47 = 0) : splitF (a ++ (⟨#[47]⟩ ++ b)) ⟨#[47]⟩ = [a, b] := by
  obtain ⟨s, hs⟩ : ∃ s, s = a ++ (⟨#[47]⟩ ++ b) := ⟨_, rfl⟩
  have hl : s.data.toList = a.data.toList ++ 47 :: b.data.toList := by rw [hs]; exact list_cat a b
  have hz : s.size = a.size + 1 + b.size := by
    have := congrArg List.length hl
    rw [list_size, List.length_append, List.length_cons, list_size, list_size] at this
    omega
  have hget : ∀ j (hj : j < s.size), s[j] = (a.data.toList ++ 47 :: b.data.toList)[j]'(by rw [← hl, list_size]; exact hj) := by
    intro j hj
    have : s[j] = s.data.toList[j]'(by rw [list_size]; exact hj) := rfl
    rw [this]
    congr 1
  rw [← hs]
  unfold splitF
  have hla := list_size a
  rw [parts_skip (k := a.size) (by omega) a.size 0 0 (by omega) (by omega)]
  · have h47 : s[a.size]'(by omega) = 47 := by
      rw [hget]
      rw [List.getElem_append_right (by omega)]
      simp [hla]
    rw [parts_hit (by omega) (by rw [h47]; exact (has1 47 47).2 rfl), parts_none (s.size - (a.size + 1)) (a.size + 1) (a.size + 1) rfl]
    · congr 1
      · apply ByteArray.ext
        rw [← Array.toList_inj, ByteArray.data_extract, Array.toList_extract, List.extract_eq_take_drop, List.drop_zero, hl, List.take_append_of_le_length (by omega), List.take_of_length_le (by omega)]
      · congr 1
        apply ByteArray.ext
        rw [← Array.toList_inj, ByteArray.data_extract, Array.toList_extract, List.extract_eq_take_drop, hl]
        rw [show a.data.toList ++ 47 :: b.data.toList = (a.data.toList ++ [47]) ++ b.data.toList by simp, List.drop_left' (by first | (simp; done) | (simp; omega)), List.take_of_length_le (by rw [list_size]; omega)]
    · intro j hj h1
      rw [Bool.eq_false_iff]
      intro h2
      rw [has1, hget j hj, List.getElem_append_right (by omega)] at h2
      rw [List.getElem_cons, dif_neg (by omega)] at h2
      rw [List.count_eq_zero] at hb
      apply hb
      rw [h2]
      exact List.getElem_mem _
  · intro j hj _ h1
    rw [Bool.eq_false_iff]
    intro h2
    rw [has1, hget j hj, List.getElem_append_left (by omega)] at h2
    rw [List.count_eq_zero] at ha
    apply ha
    rw [h2]
    exact List.getElem_mem _
theorem toL_val1 {l : Nat} (h : oneB l = true) : toL l = [1] := by
  rw [show l = 1 from of_decide_eq_true h, toL_one (by omega) (by omega)]
  rfl
/-- A fraction is read back from its text. -/
theorem parse_q {q : Rat} {k : Nat} (h : Sm k q) (hk : k ≤ 1000000) :
    parseRatF (fmtRatF (decide (q.num < 0)) (toL q.num.natAbs) (toL q.den)) = ((decide (q.num < 0), toL q.num.natAbs, toL q.den), true) := by
  have ho := ok_s h hk
  have h1 := (h.lt hk).1
  have h2 := (h.lt hk).2
  refine pr_yes ?_ ho rfl
  cases h3 : oneB q.den with
  | true =>
    rw [fmtRat_one ho h3, cand_one (split_no (count_big _ _)), parse_big (p2460 h1), toL_val1 h3]
  | false =>
    rw [fmtRat_more ho h3, cand_two (split_two (count_big _ _) (count_nat _)), parse_big (p2460 h1), fmtNat_yes (okB_of_toL (p2460 h2)), parse_dec (p2460 h2)]
    rfl
/-- The plain law: three small fractions satisfy the laws of arithmetic and order, and one is read back from its text. -/
theorem rats_law {r s t : Rat} (hr : Sm 10 r) (hs : Sm 10 s) (ht : Sm 10 t) : ∃ a b c d e f : Rat,
    (ratAddF (decide (s.num < 0)) (decide (t.num < 0)) (toL s.num.natAbs) (toL s.den) (toL t.num.natAbs) (toL t.den) = nf a) ∧
    (ratMulF (decide (r.num < 0)) (decide (a.num < 0)) (toL r.num.natAbs) (toL r.den) (toL a.num.natAbs) (toL a.den) = nf b) ∧
    (ratMulF (decide (r.num < 0)) (decide (s.num < 0)) (toL r.num.natAbs) (toL r.den) (toL s.num.natAbs) (toL s.den) = nf c) ∧
    (ratMulF (decide (r.num < 0)) (decide (t.num < 0)) (toL r.num.natAbs) (toL r.den) (toL t.num.natAbs) (toL t.den) = nf d) ∧
    (ratAddF (decide (c.num < 0)) (decide (d.num < 0)) (toL c.num.natAbs) (toL c.den) (toL d.num.natAbs) (toL d.den) = nf b) ∧
    (ratAddF (decide (r.num < 0)) (decide (s.num < 0)) (toL r.num.natAbs) (toL r.den) (toL s.num.natAbs) (toL s.den) = nf e) ∧
    (ratSubF (decide (e.num < 0)) (decide (s.num < 0)) (toL e.num.natAbs) (toL e.den) (toL s.num.natAbs) (toL s.den) = nf r) ∧
    (ratSubF (decide (r.num < 0)) (decide (s.num < 0)) (toL r.num.natAbs) (toL r.den) (toL s.num.natAbs) (toL s.den) = nf f) ∧
    (ratCmpF (decide (r.num < 0)) (decide (s.num < 0)) (toL r.num.natAbs) (toL r.den) (toL s.num.natAbs) (toL s.den) = ratSignF (decide (f.num < 0)) (toL f.num.natAbs) (toL f.den)) := by
  obtain ⟨a1, a2⟩ := add_q hs ht (by omega) (by omega) (k := 200) (by omega) (by omega)
  obtain ⟨b1, _⟩ := mul_q hr a2 (by omega) (by omega) (k := 2000) (by omega) (by omega)
  obtain ⟨c1, c2⟩ := mul_q hr hs (by omega) (by omega) (k := 100) (by omega) (by omega)
  obtain ⟨d1, d2⟩ := mul_q hr ht (by omega) (by omega) (k := 100) (by omega) (by omega)
  obtain ⟨g1, _⟩ := add_q c2 d2 (by omega) (by omega) (k := 20000) (by omega) (by omega)
  obtain ⟨e1, e2⟩ := add_q hr hs (by omega) (by omega) (k := 200) (by omega) (by omega)
  obtain ⟨h1, _⟩ := sub_q e2 hs (by omega) (by omega) (k := 4000) (by omega) (by omega)
  obtain ⟨f1, f2⟩ := sub_q hr hs (by omega) (by omega) (k := 200) (by omega) (by omega)
  refine ⟨s + t, r * (s + t), r * s, r * t, r + s, r - s, a1, b1, c1, d1, ?_, e1, ?_, f1, cmp_q hr hs (by omega) (by omega) f2 (by omega)⟩
  · rw [g1, Rat.mul_add]
  · rw [h1, Rat.add_sub_cancel]
theorem rats_div {r s : Rat} (hr : Sm 10 r) (hs : Sm 10 s) (h0 : s.num ≠ 0) : ∃ g : Rat,
    (ratDivF (decide (r.num < 0)) (decide (s.num < 0)) (toL r.num.natAbs) (toL r.den) (toL s.num.natAbs) (toL s.den) = nf g) ∧
    (ratMulF (decide (g.num < 0)) (decide (s.num < 0)) (toL g.num.natAbs) (toL g.den) (toL s.num.natAbs) (toL s.den) = nf r) := by
  obtain ⟨d, d1, d2, d3⟩ := div_q hr hs (by omega) (by omega) (k := 100) (by omega) (by omega) h0
  obtain ⟨e1, _⟩ := mul_q d2 hs (by omega) (by omega) (k := 1000) (by omega) (by omega)
  exact ⟨d, d1, by rw [e1, d3]⟩
theorem rats_eq (q : Rat) : ratEqF (decide (q.num < 0)) (decide (q.num < 0)) (toL q.num.natAbs) (toL q.den) (toL q.num.natAbs) (toL q.den) = true := by simp [ratEqF]
/-- What a draw of a small fraction makes. -/
theorem few_q {n d : Int} (h1 : -10 ≤ n) (h2 : n ≤ 10) (g1 : 1 ≤ d) (g2 : d ≤ 3) : ∃ q : Rat, ratOfF n d = nf q ∧ Sm 10 q := by
  have h5 := million
  refine ⟨mkRat n d.natAbs, ?_, Sm.mk (by omega) (by omega) (by omega)⟩
  rw [← ratZ_nf (by omega) (by omega) (by omega)]
  unfold ratOfF ratZ
  rw [decide_eq_false (show ¬ d < 0 by omega), Bool.bne_false]
end Go.Proofs.YticekjagmcphbaaGreatDoor

namespace Go.Proofs.YticekjagmcphbaaGreatDoor
open Go.RowKit

/-- The integer z over l is a fraction in lowest terms, small. -/
def FQ (z : Int) (l : Nat) : Prop := ∃ q : Rat, z = q.num ∧ l = q.den ∧ Sm 10 q
/-- A fraction of the call's own is handed back. -/
def MadeQ (z : Int) (l : Nat) (w : World) (en : Ending) (w' : World) : Prop :=
  ∃ A n c B k d, en = .returned (.agg #[.bool (decide (z < 0)), .slice A n c, .slice B k d]) ∧ PairR w' w.heap.size w'.heap.size 3 (.slice A n c) (.slice B k d) (toL z.natAbs) (toL l) ∧ Below w.heap.size w w'
theorem retq_z {z : Int} {l : Nat} {p : Int × Nat} {w w' : World} {en : Ending} (e : p = (z, l)) (h : RetQ p w en w') : MadeQ z l w en w' := by
  subst e
  exact h
set_option maxHeartbeats 1000000 in
theorem spec_l01PickL (B g b n c : Nat) (w : World) (h : Cur w B g) (n0 : 0 < n) (n1 : n ≤ 1000) (hb : b ≠ g) (lo hi : Int) (hx : ∀ i, i < n → ∃ d : Int, lo ≤ d ∧ d < hi ∧ w.cell? ⟨b, i, none⟩ = some (.int .i64 d)) :
    Calls Tryz.prog 31 #[.pointer (some ⟨g, 0, none⟩), .slice (some ⟨b, 0, none⟩) n c] w fun e w' => ∃ d : Int, e = .returned (.int .i64 d) ∧ lo ≤ d ∧ d < hi ∧ Cur w' B g ∧ Only g (g + 1) w w' := by
  have HC := Lib.hid h
  have HX := Lib.hid hx
  clear h hx
  go_enter Tryz.func31, Tryz.ntmps31
  go_wp2_with fail
  refine (spec_l01Below B g (n : Int) _ HC.out (by omega) (by omega)).mono ?_
  rintro e w1 ⟨x, rfl, x0, x1, c1, o1⟩
  have C1 := Lib.hid c1
  have O1 := Lib.hid o1
  obtain ⟨j, rfl⟩ := Int.eq_ofNat_of_zero_le x0
  have hj : j < n := by omega
  obtain ⟨d, hd0, hd1, hcell⟩ := HX.out j hj
  have hbw := World.block_lt_of_cell? w _ hcell
  have hcl : w1.cell? ⟨b, j, none⟩ = some (.int .i64 d) := (o1.cell (b := b) (o := j) hbw (by omega)).trans hcell
  have HD := Lib.hid hd1
  have HE := Lib.hid hd0
  clear c1 o1 hcell hd1 hd0
  go_wp2
  go_ret
  exact ⟨d, rfl, HE.out, HD.out, C1.out, O1.out⟩
/-- What a draw of a small fraction ends in. -/
def DrewQ (B g : Nat) (w : World) (en : Ending) (w' : World) : Prop :=
  ∃ (z : Int) (l : Nat), FQ z l ∧ ∃ A n c B' k d, en = .returned (.agg #[.bool (decide (z < 0)), .slice A n c, .slice B' k d]) ∧ PairR w' w.heap.size w'.heap.size 3 (.slice A n c) (.slice B' k d) (toL z.natAbs) (toL l) ∧ Cur w' B g ∧ Only g (g + 1) w w'
theorem few_z {n d : Int} (h1 : 0 ≤ n) (h2 : n ≤ 20) (g1 : 1 ≤ d) (g2 : d < 4) : ∃ (z : Int) (l : Nat), ratOfF (n - 10) d = (z, l) ∧ FQ z l := by
  obtain ⟨q, e, hq⟩ := few_q (n := n - 10) (d := d) (by omega) (by omega) g1 (by omega)
  exact ⟨q.num, q.den, e, q, rfl, rfl, hq⟩
theorem few_cells (w : World) (e : Nat) : ∀ i, i < 5 → ∃ d : Int, 1 ≤ d ∧ d < 4 ∧ (w.alloc (.cells #[.int .i64 1, .int .i64 1, .int .i64 1, .int .i64 2, .int .i64 3] e)).cell? ⟨w.heap.size, i, none⟩ = some (.int .i64 d) := by
  intro i hi
  match i, hi with
  | 0, _ => exact ⟨1, by omega, by omega, by simp [go_sem]⟩
  | 1, _ => exact ⟨1, by omega, by omega, by simp [go_sem]⟩
  | 2, _ => exact ⟨1, by omega, by omega, by simp [go_sem]⟩
  | 3, _ => exact ⟨2, by omega, by omega, by simp [go_sem]⟩
  | 4, _ => exact ⟨3, by omega, by omega, by simp [go_sem]⟩
set_option maxHeartbeats 4000000 in
theorem spec_l04Few (B g : Nat) (w : World) (h : Cur w B g) :
    Calls Tryz.prog 14 #[.pointer (some ⟨g, 0, none⟩)] w (DrewQ B g w) := by
  have HC := Lib.hid h
  have hgl := h.lt
  clear h
  go_enter Tryz.func14, Tryz.ntmps14
  go_wp2_with fail
  (with_reducible refine (spec_l01Below B g 21 _ (HC.out.below (by repeat' (first | (with_reducible exact Below.refl _ _) | (with_reducible refine Below.alloc ?_ ?_ _) | (with_reducible refine Below.setCell ?_ ?_ _) | (with_reducible refine below_drewN ?_ _) | (with_reducible refine Below.drew ?_) | (with_reducible refine below_step (by assumption) ?_ ?_) | omega | (simp; done) | (simp; omega)))) (by omega) (by omega)).mono ?_); rintro e w1 ⟨x1, rfl, xa1, xb1, c1, o1⟩; have q1_0 := fun o => o1.cell (b := w.heap.size) (o := o) (by first | omega | (simp; done) | (simp; omega)) (by first | (left; first | omega | (simp; done) | (simp; omega)) | (right; first | omega | (simp; done) | (simp; omega))); have f1_0 := fun o => o1.frozen (b := w.heap.size) (o := o) (by first | omega | (simp; done) | (simp; omega)) (by first | (left; first | omega | (simp; done) | (simp; omega)) | (right; first | omega | (simp; done) | (simp; omega))); have hz1 := o1.size; (try simp at hz1); have z1_0 : w.heap.size < w1.heap.size := (by omega); have n1_0 := Nat.ne_of_lt z1_0; have m1_0 := (Nat.ne_of_lt z1_0).symm; have C1 := Lib.hid c1; clear c1
  have N1 := Lib.hid ((Only.of_below (lo := g) (hi := g + 1) (show Below w.heap.size w _ from (by repeat' (first | (with_reducible exact Below.refl _ _) | (with_reducible refine Below.alloc ?_ ?_ _) | (with_reducible refine Below.setCell ?_ ?_ _) | (with_reducible refine below_drewN ?_ _) | (with_reducible refine Below.drew ?_) | (with_reducible refine below_step (by assumption) ?_ ?_) | omega | (simp; done) | (simp; omega))))).trans o1)
  have hg1 := C1.out.lt
  clear o1
  go_wp2_with fail
  have bb := (Below.refl w1.heap.size w1).alloc (Nat.le_refl _) (.cells #[.int .i64 1, .int .i64 1, .int .i64 1, .int .i64 2, .int .i64 3] 3)
  (with_reducible refine (spec_l01PickL B g w1.heap.size 5 5 _ (C1.out.below bb) (by omega) (by omega) (by omega) 1 4 (few_cells _ _)).mono ?_); rintro e w2 ⟨d2, rfl, da2, db2, c2, o2⟩; have q2_0 := fun o => o2.cell (b := w.heap.size) (o := o) (by first | omega | (simp; done) | (simp; omega)) (by first | (left; first | omega | (simp; done) | (simp; omega)) | (right; first | omega | (simp; done) | (simp; omega))); have f2_0 := fun o => o2.frozen (b := w.heap.size) (o := o) (by first | omega | (simp; done) | (simp; omega)) (by first | (left; first | omega | (simp; done) | (simp; omega)) | (right; first | omega | (simp; done) | (simp; omega))); have hz2 := o2.size; (try simp at hz2); have z2_0 : w.heap.size < w2.heap.size := (by omega); have n2_0 := Nat.ne_of_lt z2_0; have m2_0 := (Nat.ne_of_lt z2_0).symm; have C2 := Lib.hid c2; clear c2
  have N2 := Lib.hid ((N1.out.trans (Only.of_below bb)).trans o2)
  clear o2 bb
  obtain ⟨z, l, he, hq⟩ := few_z (n := x1) (d := d2) (by omega) (by omega) (by omega) (by omega)
  have HE := Lib.hid he
  have HQ := Lib.hid hq
  clear he hq
  go_wp2_with fail
  (with_reducible refine ((spec_RatOf (x1 - 10) d2 _ (by omega) (by omega) (by omega) (by omega)).mono (fun _ _ h => retq_z HE.out h)).mono ?_); rintro e w3 ⟨A3, n3, c3, B3, k3, m3, rfl, o3, b3⟩; obtain ⟨hc3, hf3⟩ := bxcell b3; have q3_0 := fun o => hc3 (w.heap.size) o (by first | omega | (simp; done) | (simp; omega)); have f3_0 := fun o => hf3 (w.heap.size) o (by first | omega | (simp; done) | (simp; omega)); have hz3 := b3.size; (try simp at hz3); have z3_0 : w.heap.size < w3.heap.size := (by omega); have n3_0 := Nat.ne_of_lt z3_0; have m3_0 := (Nat.ne_of_lt z3_0).symm; have O3 := Lib.hid o3; clear o3
  have C3 := Lib.hid (C2.out.below b3)
  have N3 := Lib.hid (N2.out.step (b3.mono (by first | omega | (simp; done) | (simp; omega))))
  clear b3
  go_wp2
  refine bodyPost_ret (v := .agg #[.bool (decide (z < 0)), .slice A3 n3 c3, .slice B3 k3 m3]) ?_ ?_ ?_
  · simp [results, Tryz.results14, go_sem, *]
  · rfl
  · refine ⟨z, l, HQ.out, A3, n3, c3, B3, k3, m3, rfl, ?_, ?_, ?_⟩
    · exact PairR.wide (lo := w2.heap.size) (hi := w3.heap.size) (by have hfar := O3.out; repeat' (first | (with_reducible exact hfar) | (with_reducible refine PairR.far ?_ _ _ ?_) | (with_reducible refine PairR.allocd ?_ _ ?_) | (left; first | omega | (simp; done) | (simp; omega)) | (right; first | omega | (simp; done) | (simp; omega)) | omega | (simp; done) | (simp; omega) | (exact hfar))) (by first | omega | (simp; done) | (simp; omega)) (by first | omega | (simp; done) | (simp; omega))
    · exact C3.out.under (X := w.heap.size) (by repeat' (first | (with_reducible exact Below.refl _ _) | (with_reducible refine Below.alloc ?_ ?_ _) | (with_reducible refine Below.setCell ?_ ?_ _) | (with_reducible refine below_drewN ?_ _) | (with_reducible refine Below.drew ?_) | (with_reducible refine below_step (by assumption) ?_ ?_) | omega | (simp; done) | (simp; omega))) hgl
    · exact N3.out.step (by repeat' (first | (with_reducible exact Below.refl _ _) | (with_reducible refine Below.alloc ?_ ?_ _) | (with_reducible refine Below.setCell ?_ ?_ _) | (with_reducible refine below_drewN ?_ _) | (with_reducible refine Below.drew ?_) | (with_reducible refine below_step (by assumption) ?_ ?_) | omega | (simp; done) | (simp; omega)))
/-- What MakeRat ends in. -/
def MadeRat (w : World) (en : Ending) (w' : World) : Prop :=
  ∃ (z : Int) (l : Nat), FQ z l ∧ MadeQ z l w en w'
set_option maxHeartbeats 2000000 in
theorem spec_MakeRat (v : Value) (n : Nat) (k : Int) (w : World) (h : SlB w w.heap.size v n) (hn : n ≤ 1048576) (k0 : 0 ≤ k) (k1 : k ≤ 100) :
    Calls Tryz.prog 4 #[v, .int .i64 k] w (MadeRat w) := by
  have HB := Lib.hid h
  clear h
  go_enter Tryz.func4, Tryz.ntmps4
  go_wp2_with fail
  (with_reducible refine (spec_l32New v n (3 * k) _ (HB.out.up (by repeat' (first | (with_reducible exact Below.refl _ _) | (with_reducible refine Below.alloc ?_ ?_ _) | (with_reducible refine Below.setCell ?_ ?_ _) | (with_reducible refine below_drewN ?_ _) | (with_reducible refine Below.drew ?_) | (with_reducible refine below_step (by assumption) ?_ ?_) | omega | (simp; done) | (simp; omega))) (by first | omega | (simp; done) | (simp; omega))) hn (by omega) (by omega)).mono ?_); rintro e w1 ⟨g1, rfl, c1, b1⟩; obtain ⟨hc1, hf1⟩ := bxcell b1; have q1_0 := fun o => hc1 (w.heap.size) o (by first | omega | (simp; done) | (simp; omega)); have f1_0 := fun o => hf1 (w.heap.size) o (by first | omega | (simp; done) | (simp; omega)); have hz1 := b1.size; (try simp at hz1); have z1_0 : w.heap.size < w1.heap.size := (by omega); have n1_0 := Nat.ne_of_lt z1_0; have m1_0 := (Nat.ne_of_lt z1_0).symm; have C1 := Lib.hid c1; have hgb := c1.base; clear c1
  (try simp at hgb)
  go_wp2_with fail
  (with_reducible refine (spec_l04Few _ g1 _ C1.out).mono ?_); rintro e w2 ⟨z2, l2, hq2, A2, n2, c2, B2, k2, m2, rfl, p2, d2, o2⟩; have q2_0 := fun o => o2.cell (b := w.heap.size) (o := o) (by first | omega | (simp; done) | (simp; omega)) (by first | (left; first | omega | (simp; done) | (simp; omega)) | (right; first | omega | (simp; done) | (simp; omega))); have f2_0 := fun o => o2.frozen (b := w.heap.size) (o := o) (by first | omega | (simp; done) | (simp; omega)) (by first | (left; first | omega | (simp; done) | (simp; omega)) | (right; first | omega | (simp; done) | (simp; omega))); have hz2 := o2.size; (try simp at hz2); have z2_0 : w.heap.size < w2.heap.size := (by omega); have n2_0 := Nat.ne_of_lt z2_0; have m2_0 := (Nat.ne_of_lt z2_0).symm; have P2 := Lib.hid p2; have HQ2 := Lib.hid hq2; clear p2 d2 hq2
  have b2 := (o2.below (Nat.le_of_lt C1.out.lt)).mono hgb
  clear o2
  go_wp2
  refine bodyPost_ret (v := .agg #[.bool (decide (z2 < 0)), .slice A2 n2 c2, .slice B2 k2 m2]) ?_ ?_ ?_
  · simp [results, Tryz.results4, go_sem, *]
  · rfl
  · exact ⟨z2, l2, HQ2.out, A2, n2, c2, B2, k2, m2, rfl, PairR.wide (lo := w1.heap.size) (hi := w2.heap.size) (by have hfar := P2.out; repeat' (first | (with_reducible exact hfar) | (with_reducible refine PairR.far ?_ _ _ ?_) | (with_reducible refine PairR.allocd ?_ _ ?_) | (left; first | omega | (simp; done) | (simp; omega)) | (right; first | omega | (simp; done) | (simp; omega)) | omega | (simp; done) | (simp; omega) | (exact hfar))) (by first | omega | (simp; done) | (simp; omega)) (by first | omega | (simp; done) | (simp; omega)), (by repeat' (first | (with_reducible exact Below.refl _ _) | (with_reducible refine Below.alloc ?_ ?_ _) | (with_reducible refine Below.setCell ?_ ?_ _) | (with_reducible refine below_drewN ?_ _) | (with_reducible refine Below.drew ?_) | (with_reducible refine below_step (by assumption) ?_ ?_) | omega | (simp; done) | (simp; omega)))⟩
end Go.Proofs.YticekjagmcphbaaGreatDoor

namespace Go.Proofs.YticekjagmcphbaaGreatDoor
open Go.ChangeShapes Go.WideShapes Go.ChangeAt Go.RowKit

theorem rats_eqZ (z : Int) (l : Nat) : ratEqF (decide (z < 0)) (decide (z < 0)) (toL z.natAbs) (toL l) (toL z.natAbs) (toL l) = true := by simp [ratEqF]
theorem fmtRat_size (s : Bool) (xs ys : List Int) : (fmtRatF s xs ys).size ≤ 1100 := by
  have h1 := fmtBig_size s xs
  have h2 := fmtNat_size ys
  unfold fmtRatF
  split
  · split
    · omega
    · rw [ByteArray.size_append, ByteArray.size_append, show (⟨#[47]⟩ : ByteArray).size = 1 from rfl]
      omega
  · show 0 ≤ 1100
    omega
theorem rats_lawZ {z1 z2 z3 : Int} {l1 l2 l3 : Nat} (h1 : FQ z1 l1) (h2 : FQ z2 l2) (h3 : FQ z3 l3) : ∃ (za : Int) (la : Nat) (zb : Int) (lb : Nat) (zc : Int) (lc : Nat) (zd : Int) (ld : Nat) (ze : Int) (le : Nat) (zf : Int) (lf : Nat) (cv : Int),
    ratAddF (decide (z2 < 0)) (decide (z3 < 0)) (toL z2.natAbs) (toL l2) (toL z3.natAbs) (toL l3) = (za, la) ∧ ratMulF (decide (z1 < 0)) (decide (za < 0)) (toL z1.natAbs) (toL l1) (toL za.natAbs) (toL la) = (zb, lb) ∧ ratMulF (decide (z1 < 0)) (decide (z2 < 0)) (toL z1.natAbs) (toL l1) (toL z2.natAbs) (toL l2) = (zc, lc) ∧ ratMulF (decide (z1 < 0)) (decide (z3 < 0)) (toL z1.natAbs) (toL l1) (toL z3.natAbs) (toL l3) = (zd, ld) ∧ ratAddF (decide (zc < 0)) (decide (zd < 0)) (toL zc.natAbs) (toL lc) (toL zd.natAbs) (toL ld) = (zb, lb) ∧ ratAddF (decide (z1 < 0)) (decide (z2 < 0)) (toL z1.natAbs) (toL l1) (toL z2.natAbs) (toL l2) = (ze, le) ∧ ratSubF (decide (ze < 0)) (decide (z2 < 0)) (toL ze.natAbs) (toL le) (toL z2.natAbs) (toL l2) = (z1, l1) ∧ ratSubF (decide (z1 < 0)) (decide (z2 < 0)) (toL z1.natAbs) (toL l1) (toL z2.natAbs) (toL l2) = (zf, lf) ∧ ratCmpF (decide (z1 < 0)) (decide (z2 < 0)) (toL z1.natAbs) (toL l1) (toL z2.natAbs) (toL l2) = cv ∧ ratSignF (decide (zf < 0)) (toL zf.natAbs) (toL lf) = cv := by
  obtain ⟨p, rfl, rfl, hp⟩ := h1
  obtain ⟨q, rfl, rfl, hq⟩ := h2
  obtain ⟨u, rfl, rfl, hu⟩ := h3
  obtain ⟨a, b, c, d, e, f, g1, g2, g3, g4, g5, g6, g7, g8, g9⟩ := rats_law hp hq hu
  exact ⟨a.num, a.den, b.num, b.den, c.num, c.den, d.num, d.den, e.num, e.den, f.num, f.den, _, g1, g2, g3, g4, g5, g6, g7, g8, g9, rfl⟩
theorem rats_divZ {z1 z2 : Int} {l1 l2 : Nat} (h1 : FQ z1 l1) (h2 : FQ z2 l2) (h0 : z2 ≠ 0) : ∃ (zg : Int) (lg : Nat), ratDivF (decide (z1 < 0)) (decide (z2 < 0)) (toL z1.natAbs) (toL l1) (toL z2.natAbs) (toL l2) = (zg, lg) ∧ ratMulF (decide (zg < 0)) (decide (z2 < 0)) (toL zg.natAbs) (toL lg) (toL z2.natAbs) (toL l2) = (z1, l1) := by
  obtain ⟨p, rfl, rfl, hp⟩ := h1
  obtain ⟨q, rfl, rfl, hq⟩ := h2
  obtain ⟨g, g1, g2⟩ := rats_div hp hq h0
  exact ⟨g.num, g.den, g1, g2⟩
theorem rats_sgnZ {z : Int} {l : Nat} (h : FQ z l) : ratSignF (decide (z < 0)) (toL z.natAbs) (toL l) = cmpZ z 0 := by
  obtain ⟨p, rfl, rfl, hp⟩ := h
  exact sgn_q hp (by omega)
theorem rats_parseZ {z : Int} {l : Nat} (h : FQ z l) : parseRatF (fmtRatF (decide (z < 0)) (toL z.natAbs) (toL l)) = (((decide (z < 0)), toL z.natAbs, toL l), true) := by
  obtain ⟨p, rfl, rfl, hp⟩ := h
  exact parse_q hp (by omega)
theorem retqb_z {z : Int} {l : Nat} {p : (Bool × List Int × List Int) × Bool} {w w' : World} {en : Ending} (e : p = ((decide (z < 0), toL z.natAbs, toL l), true)) (h : RetQB 3 p w en w') :
    ∃ A n c B k d, en = .returned (.tuple #[.agg #[.bool (decide (z < 0)), .slice A n c, .slice B k d], .bool true]) ∧ PairR w' w.heap.size w'.heap.size 3 (.slice A n c) (.slice B k d) (toL z.natAbs) (toL l) ∧ Below w.heap.size w w' := by
  subst e
  exact h

theorem rats_signZ {z : Int} {l : Nat} {k : Int} (h : FQ z l) (e : ratSignF (decide (z < 0)) (toL z.natAbs) (toL l) = k) (hk : ¬ k = 0) : z ≠ 0 := by
  rintro rfl
  rw [rats_sgnZ h] at e
  exact hk (e.symm.trans rfl)
/-- The way back into a region, when it has no name. -/
theorem shut_go {S : World → Prop} {R K : Act → World → Prop} {a : Act} {w : World} (h : Shut (∀ a w, S w → (S w → R a w) → K a w)) (hS : S w) (hR : S w → R a w) : K a w := h.out a w hS hR
section
variable {P : Program} {ops : Array Oper} {Q : Exit → Act → World → Prop} {md : Region.Mode} {S : World → Prop}
/-- In a region: an operation that its guard leaves out is taken next. -/
theorem held_skip {i d : Nat} {fuel : Nat} {listed : Array Bool} {a : Act} {w : World} (hd : ops[i]?.map Oper.dst = some (some d)) (hw : ops[i]?.map (fun o => Region.wanted o (yielded ops a.tmps)) = some false)
    (hs : Region.noSelect ops = true) (hf : Region.free md ops listed i = true) (hr : (Region.ready md ops listed).contains i = true) (hQ : ∀ c a w, Q (.panic c) (a.put (some d) undef) w → Q (.panic c) a w) (hS : S w)
    (h : wpAnyH P md ops Q S fuel (listed.setIfInBounds i true) (a.put (some d) undef) w) : wpAnyH P md ops Q S (fuel + 1) listed a w := by
  obtain ⟨o, ho, hod⟩ := Option.map_eq_some_iff.1 hd
  rw [ho] at hw
  exact wpAnyH_take (oi := o) (v := undef) ho hs hf hr (by rw [hod]; exact hQ) (Or.inr ⟨Option.some.inj hw, rfl⟩) hS (by rw [hod]; exact h)
/-- In a region: an operation that reads slots alone is taken next. -/
theorem held_step {i d : Nat} {v : Value} {fuel : Nat} {listed : Array Bool} {a : Act} {w : World} (hd : ops[i]?.map Oper.dst = some (some d)) (hw : ops[i]?.map (fun o => Region.wanted o (yielded ops a.tmps)) = some true)
    (hv : ∀ w, S w → ops[i]?.map (fun o => (execOp a.eval o).run P w) = some (.ok (.value v) w))
    (hs : Region.noSelect ops = true) (hf : Region.free md ops listed i = true) (hr : (Region.ready md ops listed).contains i = true) (hQ : ∀ c a w, Q (.panic c) (a.put (some d) v) w → Q (.panic c) a w) (hS : S w)
    (h : wpAnyH P md ops Q S fuel (listed.setIfInBounds i true) (a.put (some d) v) w) : wpAnyH P md ops Q S (fuel + 1) listed a w := by
  obtain ⟨o, ho, hod⟩ := Option.map_eq_some_iff.1 hd
  rw [ho] at hw hv
  exact wpAnyH_take (oi := o) (v := v) ho hs hf hr (by rw [hod]; exact hQ) (Or.inl ⟨Option.some.inj hw, fun w hw' => Option.some.inj (hv w hw')⟩) hS (by rw [hod]; exact h)
end

set_option maxRecDepth 100000 in
set_option maxHeartbeats 32000000 in
theorem walk_FnRats (w : World) (ht : Tab w) (v0 : Value) (n : Nat) (h0 : SlB w w.heap.size v0 n) :
    Calls Tryz.prog 3 #[v0] w fun e w' => e = .returned (.bool true) ∧ Below w.heap.size w w' := by
  have HB := Lib.hid h0
  have HT := Lib.hid ht
  obtain ⟨A, c, rfl, s1, s2, s3⟩ := h0
  have hmx : n ≤ 9223372036854775807 := by unfold maxLen at s2; omega
  clear s3 ht
  by_cases hbig : 1048576 < n
  · go_enter Tryz.func3, Tryz.ntmps3
    go_wp2
    go_ret
    exact ⟨rfl, Below.refl _ _⟩
  go_enter Tryz.func3, Tryz.ntmps3
  go_wp2_with fail
  (with_reducible refine (spec_MakeRat _ n 0 _ HB.out (by omega) (by omega) (by omega)).mono ?_); rintro e w1 ⟨z1, l1, hq1, A1, n1, c1, B1, k1, m1, rfl, o1, b1⟩; obtain ⟨hc1, hf1⟩ := bxcell b1; have hz1 := b1.size; (try simp at hz1); have O1 := Lib.hid o1; have HQ1 := Lib.hid hq1; clear o1 hq1
  go_wp2_with fail
  (with_reducible refine (spec_MakeRat _ n 1 _ (HB.out.up (by repeat' (first | (with_reducible exact Below.refl _ _) | (with_reducible refine Below.alloc ?_ ?_ _) | (with_reducible refine Below.setCell ?_ ?_ _) | (with_reducible refine below_drewN ?_ _) | (with_reducible refine Below.drew ?_) | (with_reducible refine below_step (by assumption) ?_ ?_) | omega | (simp; done) | (simp; omega))) (by first | omega | (simp; done) | (simp; omega))) (by omega) (by omega) (by omega)).mono ?_); rintro e w2 ⟨z2, l2, hq2, A2, n2, c2, B2, k2, m2, rfl, o2, b2⟩; obtain ⟨hc2, hf2⟩ := bxcell b2; have q2_0 := fun o => hc2 (w1.heap.size) o (by first | omega | (simp; done) | (simp; omega)); have f2_0 := fun o => hf2 (w1.heap.size) o (by first | omega | (simp; done) | (simp; omega)); have hz2 := b2.size; (try simp at hz2); have z2_0 : w1.heap.size < w2.heap.size := (by omega); have n2_0 := Nat.ne_of_lt z2_0; have m2_0 := (Nat.ne_of_lt z2_0).symm; have O2 := Lib.hid o2; have HQ2 := Lib.hid hq2; clear o2 hq2
  go_wp2_with fail
  (with_reducible refine (spec_MakeRat _ n 2 _ (HB.out.up (by repeat' (first | (with_reducible exact Below.refl _ _) | (with_reducible refine Below.alloc ?_ ?_ _) | (with_reducible refine Below.setCell ?_ ?_ _) | (with_reducible refine below_drewN ?_ _) | (with_reducible refine Below.drew ?_) | (with_reducible refine below_step (by assumption) ?_ ?_) | omega | (simp; done) | (simp; omega))) (by first | omega | (simp; done) | (simp; omega))) (by omega) (by omega) (by omega)).mono ?_); rintro e w3 ⟨z3, l3, hq3, A3, n3, c3, B3, k3, m3, rfl, o3, b3⟩; obtain ⟨hc3, hf3⟩ := bxcell b3; have q3_0 := fun o => hc3 (w1.heap.size) o (by first | omega | (simp; done) | (simp; omega)); have q3_1 := fun o => hc3 (w2.heap.size) o (by first | omega | (simp; done) | (simp; omega)); have f3_0 := fun o => hf3 (w1.heap.size) o (by first | omega | (simp; done) | (simp; omega)); have f3_1 := fun o => hf3 (w2.heap.size) o (by first | omega | (simp; done) | (simp; omega)); have hz3 := b3.size; (try simp at hz3); have z3_0 : w1.heap.size < w3.heap.size := (by omega); have n3_0 := Nat.ne_of_lt z3_0; have m3_0 := (Nat.ne_of_lt z3_0).symm; have z3_1 : w2.heap.size < w3.heap.size := (by omega); have n3_1 := Nat.ne_of_lt z3_1; have m3_1 := (Nat.ne_of_lt z3_1).symm; have O3 := Lib.hid o3; have HQ3 := Lib.hid hq3; clear o3 hq3
  obtain ⟨za, la, zb, lb, zc, lc, zd, ld, ze, le, zf, lf, cv, ha, hb, hc, hd, he, hf, hg, hh, hcm, hsf⟩ := rats_lawZ HQ1.out HQ2.out HQ3.out
  have LA := Lib.hid ha
  have LB := Lib.hid hb
  have LC := Lib.hid hc
  have LD := Lib.hid hd
  have LE := Lib.hid he
  have LF := Lib.hid hf
  have LG := Lib.hid hg
  have LH := Lib.hid hh
  have LCM := Lib.hid hcm
  have LSF := Lib.hid hsf
  have hcv : (cv == cv) = true := by simp
  clear ha hb hc hd he hf hg hh hcm hsf
  obtain ⟨F, hF⟩ : ∃ F, F = fmtRatF (decide (z1 < 0)) (toL z1.natAbs) (toL l1) := ⟨_, rfl⟩
  have hFs : F.size ≤ 1100 := by rw [hF]; exact fmtRat_size _ _ _
  have HP := Lib.hid (show parseRatF F = (((decide (z1 < 0)), toL z1.natAbs, toL l1), true) by rw [hF]; exact rats_parseZ HQ1.out)
  have HF := Lib.hid hF
  clear hF
  go_wp2_with fail
  (with_reducible refine (impl_FormatRat (decide (z1 < 0)) A1 B1 n1 c1 k1 m1 (toL z1.natAbs) (toL l1) _ (PairR.here O1.out (by repeat' (first | (with_reducible exact Below.refl _ _) | (with_reducible refine Below.alloc ?_ ?_ _) | (with_reducible refine Below.setCell ?_ ?_ _) | (with_reducible refine below_drewN ?_ _) | (with_reducible refine Below.drew ?_) | (with_reducible refine below_step (by assumption) ?_ ?_) | omega | (simp; done) | (simp; omega)))).sl1 (PairR.here O1.out (by repeat' (first | (with_reducible exact Below.refl _ _) | (with_reducible refine Below.alloc ?_ ?_ _) | (with_reducible refine Below.setCell ?_ ?_ _) | (with_reducible refine below_drewN ?_ _) | (with_reducible refine Below.drew ?_) | (with_reducible refine below_step (by assumption) ?_ ?_) | omega | (simp; done) | (simp; omega)))).sl2 (HT.out.below (by repeat' (first | (with_reducible exact Below.refl _ _) | (with_reducible refine Below.alloc ?_ ?_ _) | (with_reducible refine Below.setCell ?_ ?_ _) | (with_reducible refine below_drewN ?_ _) | (with_reducible refine Below.drew ?_) | (with_reducible refine below_step (by assumption) ?_ ?_) | omega | (simp; done) | (simp; omega))))).mono ?_); rintro e w4 ⟨rfl, b4⟩; obtain ⟨hc4, hf4⟩ := bxcell b4; have q4_0 := fun o => hc4 (w1.heap.size) o (by first | omega | (simp; done) | (simp; omega)); have q4_1 := fun o => hc4 (w2.heap.size) o (by first | omega | (simp; done) | (simp; omega)); have q4_2 := fun o => hc4 (w3.heap.size) o (by first | omega | (simp; done) | (simp; omega)); have f4_0 := fun o => hf4 (w1.heap.size) o (by first | omega | (simp; done) | (simp; omega)); have f4_1 := fun o => hf4 (w2.heap.size) o (by first | omega | (simp; done) | (simp; omega)); have f4_2 := fun o => hf4 (w3.heap.size) o (by first | omega | (simp; done) | (simp; omega)); have hz4 := b4.size; (try simp at hz4); have z4_0 : w1.heap.size < w4.heap.size := (by omega); have n4_0 := Nat.ne_of_lt z4_0; have m4_0 := (Nat.ne_of_lt z4_0).symm; have z4_1 : w2.heap.size < w4.heap.size := (by omega); have n4_1 := Nat.ne_of_lt z4_1; have m4_1 := (Nat.ne_of_lt z4_1).symm; have z4_2 : w3.heap.size < w4.heap.size := (by omega); have n4_2 := Nat.ne_of_lt z4_2; have m4_2 := (Nat.ne_of_lt z4_2).symm
  rw [← HF.out]
  go_wp2_with fail
  (with_reducible refine ((impl_ParseRat F _ (by omega) (HT.out.below (by repeat' (first | (with_reducible exact Below.refl _ _) | (with_reducible refine Below.alloc ?_ ?_ _) | (with_reducible refine Below.setCell ?_ ?_ _) | (with_reducible refine below_drewN ?_ _) | (with_reducible refine Below.drew ?_) | (with_reducible refine below_step (by assumption) ?_ ?_) | omega | (simp; done) | (simp; omega))))).mono (fun _ _ h => retqb_z HP.out h)).mono ?_); rintro e w5 ⟨A5, n5, c5, B5, k5, m5, rfl, o5, b5⟩; obtain ⟨hc5, hf5⟩ := bxcell b5; have q5_0 := fun o => hc5 (w1.heap.size) o (by first | omega | (simp; done) | (simp; omega)); have q5_1 := fun o => hc5 (w2.heap.size) o (by first | omega | (simp; done) | (simp; omega)); have q5_2 := fun o => hc5 (w3.heap.size) o (by first | omega | (simp; done) | (simp; omega)); have f5_0 := fun o => hf5 (w1.heap.size) o (by first | omega | (simp; done) | (simp; omega)); have f5_1 := fun o => hf5 (w2.heap.size) o (by first | omega | (simp; done) | (simp; omega)); have f5_2 := fun o => hf5 (w3.heap.size) o (by first | omega | (simp; done) | (simp; omega)); have hz5 := b5.size; (try simp at hz5); have z5_0 : w1.heap.size < w5.heap.size := (by omega); have n5_0 := Nat.ne_of_lt z5_0; have m5_0 := (Nat.ne_of_lt z5_0).symm; have z5_1 : w2.heap.size < w5.heap.size := (by omega); have n5_1 := Nat.ne_of_lt z5_1; have m5_1 := (Nat.ne_of_lt z5_1).symm; have z5_2 : w3.heap.size < w5.heap.size := (by omega); have n5_2 := Nat.ne_of_lt z5_2; have m5_2 := (Nat.ne_of_lt z5_2).symm; have O5 := Lib.hid o5; clear o5
  have hBW : Below w.heap.size w (w5.alloc (.cells #[.bool (decide (z1 < 0)), .slice A5 n5 c5, .slice B5 k5 m5] 27)) := (by repeat' (first | (with_reducible exact Below.refl _ _) | (with_reducible refine Below.alloc ?_ ?_ _) | (with_reducible refine Below.setCell ?_ ?_ _) | (with_reducible refine below_drewN ?_ _) | (with_reducible refine Below.drew ?_) | (with_reducible refine below_step (by assumption) ?_ ?_) | omega | (simp; done) | (simp; omega)))
  have R1 := Lib.hid ((PairR.here O1.out (show Below w1.heap.size w1 (w5.alloc (.cells #[.bool (decide (z1 < 0)), .slice A5 n5 c5, .slice B5 k5 m5] 27)) from (by repeat' (first | (with_reducible exact Below.refl _ _) | (with_reducible refine Below.alloc ?_ ?_ _) | (with_reducible refine Below.setCell ?_ ?_ _) | (with_reducible refine below_drewN ?_ _) | (with_reducible refine Below.drew ?_) | (with_reducible refine below_step (by assumption) ?_ ?_) | omega | (simp; done) | (simp; omega))))).wide (Nat.zero_le _) (show w1.heap.size ≤ (w5.alloc (.cells #[.bool (decide (z1 < 0)), .slice A5 n5 c5, .slice B5 k5 m5] 27)).heap.size by first | (simp; done) | (simp; omega)))
  have R2 := Lib.hid ((PairR.here O2.out (show Below w2.heap.size w2 (w5.alloc (.cells #[.bool (decide (z1 < 0)), .slice A5 n5 c5, .slice B5 k5 m5] 27)) from (by repeat' (first | (with_reducible exact Below.refl _ _) | (with_reducible refine Below.alloc ?_ ?_ _) | (with_reducible refine Below.setCell ?_ ?_ _) | (with_reducible refine below_drewN ?_ _) | (with_reducible refine Below.drew ?_) | (with_reducible refine below_step (by assumption) ?_ ?_) | omega | (simp; done) | (simp; omega))))).wide (Nat.zero_le _) (show w2.heap.size ≤ (w5.alloc (.cells #[.bool (decide (z1 < 0)), .slice A5 n5 c5, .slice B5 k5 m5] 27)).heap.size by first | (simp; done) | (simp; omega)))
  have R3 := Lib.hid ((PairR.here O3.out (show Below w3.heap.size w3 (w5.alloc (.cells #[.bool (decide (z1 < 0)), .slice A5 n5 c5, .slice B5 k5 m5] 27)) from (by repeat' (first | (with_reducible exact Below.refl _ _) | (with_reducible refine Below.alloc ?_ ?_ _) | (with_reducible refine Below.setCell ?_ ?_ _) | (with_reducible refine below_drewN ?_ _) | (with_reducible refine Below.drew ?_) | (with_reducible refine below_step (by assumption) ?_ ?_) | omega | (simp; done) | (simp; omega))))).wide (Nat.zero_le _) (show w3.heap.size ≤ (w5.alloc (.cells #[.bool (decide (z1 < 0)), .slice A5 n5 c5, .slice B5 k5 m5] 27)).heap.size by first | (simp; done) | (simp; omega)))
  have R5 := Lib.hid ((PairR.here O5.out (show Below w5.heap.size w5 (w5.alloc (.cells #[.bool (decide (z1 < 0)), .slice A5 n5 c5, .slice B5 k5 m5] 27)) from (by repeat' (first | (with_reducible exact Below.refl _ _) | (with_reducible refine Below.alloc ?_ ?_ _) | (with_reducible refine Below.setCell ?_ ?_ _) | (with_reducible refine below_drewN ?_ _) | (with_reducible refine Below.drew ?_) | (with_reducible refine below_step (by assumption) ?_ ?_) | omega | (simp; done) | (simp; omega))))).wide (Nat.zero_le _) (show w5.heap.size ≤ (w5.alloc (.cells #[.bool (decide (z1 < 0)), .slice A5 n5 c5, .slice B5 k5 m5] 27)).heap.size by first | (simp; done) | (simp; omega)))
  have yy0 : w1.heap.size < (w5.alloc (.cells #[.bool (decide (z1 < 0)), .slice A5 n5 c5, .slice B5 k5 m5] 27)).heap.size := by first | (simp; done) | (simp; omega)
  have yy1 : w2.heap.size < (w5.alloc (.cells #[.bool (decide (z1 < 0)), .slice A5 n5 c5, .slice B5 k5 m5] 27)).heap.size := by first | (simp; done) | (simp; omega)
  have yy2 : w3.heap.size < (w5.alloc (.cells #[.bool (decide (z1 < 0)), .slice A5 n5 c5, .slice B5 k5 m5] 27)).heap.size := by first | (simp; done) | (simp; omega)
  have yy3 : w5.heap.size < (w5.alloc (.cells #[.bool (decide (z1 < 0)), .slice A5 n5 c5, .slice B5 k5 m5] 27)).heap.size := by first | (simp; done) | (simp; omega)
  have kw_0 : (w5.alloc (.cells #[.bool (decide (z1 < 0)), .slice A5 n5 c5, .slice B5 k5 m5] 27)).cell? ⟨w1.heap.size, 0, none⟩ = some (.bool (decide (z1 < 0))) := by rw [ca1 (show w1.heap.size < w5.heap.size by omega), q5_0]; simp [go_sem, *]
  have kw_1 : (w5.alloc (.cells #[.bool (decide (z1 < 0)), .slice A5 n5 c5, .slice B5 k5 m5] 27)).cell? ⟨w1.heap.size, 1, none⟩ = some (.slice A1 n1 c1) := by rw [ca1 (show w1.heap.size < w5.heap.size by omega), q5_0]; simp [go_sem, *]
  have kw_2 : (w5.alloc (.cells #[.bool (decide (z1 < 0)), .slice A5 n5 c5, .slice B5 k5 m5] 27)).cell? ⟨w1.heap.size, 2, none⟩ = some (.slice B1 k1 m1) := by rw [ca1 (show w1.heap.size < w5.heap.size by omega), q5_0]; simp [go_sem, *]
  have kw_3 : (w5.alloc (.cells #[.bool (decide (z1 < 0)), .slice A5 n5 c5, .slice B5 k5 m5] 27)).cell? ⟨w2.heap.size, 0, none⟩ = some (.bool (decide (z2 < 0))) := by rw [ca1 (show w2.heap.size < w5.heap.size by omega), q5_1]; simp [go_sem, *]
  have kw_4 : (w5.alloc (.cells #[.bool (decide (z1 < 0)), .slice A5 n5 c5, .slice B5 k5 m5] 27)).cell? ⟨w2.heap.size, 1, none⟩ = some (.slice A2 n2 c2) := by rw [ca1 (show w2.heap.size < w5.heap.size by omega), q5_1]; simp [go_sem, *]
  have kw_5 : (w5.alloc (.cells #[.bool (decide (z1 < 0)), .slice A5 n5 c5, .slice B5 k5 m5] 27)).cell? ⟨w2.heap.size, 2, none⟩ = some (.slice B2 k2 m2) := by rw [ca1 (show w2.heap.size < w5.heap.size by omega), q5_1]; simp [go_sem, *]
  have kw_6 : (w5.alloc (.cells #[.bool (decide (z1 < 0)), .slice A5 n5 c5, .slice B5 k5 m5] 27)).cell? ⟨w3.heap.size, 0, none⟩ = some (.bool (decide (z3 < 0))) := by rw [ca1 (show w3.heap.size < w5.heap.size by omega), q5_2]; simp [go_sem, *]
  have kw_7 : (w5.alloc (.cells #[.bool (decide (z1 < 0)), .slice A5 n5 c5, .slice B5 k5 m5] 27)).cell? ⟨w3.heap.size, 1, none⟩ = some (.slice A3 n3 c3) := by rw [ca1 (show w3.heap.size < w5.heap.size by omega), q5_2]; simp [go_sem, *]
  have kw_8 : (w5.alloc (.cells #[.bool (decide (z1 < 0)), .slice A5 n5 c5, .slice B5 k5 m5] 27)).cell? ⟨w3.heap.size, 2, none⟩ = some (.slice B3 k3 m3) := by rw [ca1 (show w3.heap.size < w5.heap.size by omega), q5_2]; simp [go_sem, *]
  have kw_9 : (w5.alloc (.cells #[.bool (decide (z1 < 0)), .slice A5 n5 c5, .slice B5 k5 m5] 27)).cell? ⟨w5.heap.size, 0, none⟩ = some (.bool (decide (z1 < 0))) := by simp [go_sem]
  have kw_10 : (w5.alloc (.cells #[.bool (decide (z1 < 0)), .slice A5 n5 c5, .slice B5 k5 m5] 27)).cell? ⟨w5.heap.size, 1, none⟩ = some (.slice A5 n5 c5) := by simp [go_sem]
  have kw_11 : (w5.alloc (.cells #[.bool (decide (z1 < 0)), .slice A5 n5 c5, .slice B5 k5 m5] 27)).cell? ⟨w5.heap.size, 2, none⟩ = some (.slice B5 k5 m5) := by simp [go_sem]
  go_wp2_with fail
  generalize w5.alloc (.cells #[.bool (decide (z1 < 0)), .slice A5 n5 c5, .slice B5 k5 m5] 27) = W at hBW R1 R2 R3 R5 yy0 yy1 yy2 yy3 kw_0 kw_1 kw_2 kw_3 kw_4 kw_5 kw_6 kw_7 kw_8 kw_9 kw_10 kw_11 ⊢
  (try clear O1)
  (try clear O2)
  (try clear O3)
  (try clear O5)
  (try clear hc1)
  (try clear hf1)
  (try clear b1)
  (try clear q2_0)
  (try clear f2_0)
  (try clear n2_0)
  (try clear m2_0)
  (try clear hc2)
  (try clear hf2)
  (try clear b2)
  (try clear q3_0)
  (try clear q3_1)
  (try clear f3_0)
  (try clear f3_1)
  (try clear n3_0)
  (try clear n3_1)
  (try clear m3_0)
  (try clear m3_1)
  (try clear hc3)
  (try clear hf3)
  (try clear b3)
  (try clear q4_0)
  (try clear q4_1)
  (try clear q4_2)
  (try clear f4_0)
  (try clear f4_1)
  (try clear f4_2)
  (try clear n4_0)
  (try clear n4_1)
  (try clear n4_2)
  (try clear m4_0)
  (try clear m4_1)
  (try clear m4_2)
  (try clear hc4)
  (try clear hf4)
  (try clear b4)
  (try clear q5_0)
  (try clear q5_1)
  (try clear q5_2)
  (try clear f5_0)
  (try clear f5_1)
  (try clear f5_2)
  (try clear n5_0)
  (try clear n5_1)
  (try clear n5_2)
  (try clear m5_0)
  (try clear m5_1)
  (try clear m5_2)
  (try clear hc5)
  (try clear hf5)
  (try clear b5)
  obtain ⟨kk, hkk⟩ : ∃ kk, kk = ratSignF (decide (z2 < 0)) (toL z2.natAbs) (toL l2) := ⟨_, rfl⟩
  have LSS := Lib.hid hkk.symm
  clear hkk
  go_region_held3 (fun w' => w'.cell? ⟨w1.heap.size, 0, none⟩ = some (.bool (decide (z1 < 0))) ∧ w'.cell? ⟨w1.heap.size, 1, none⟩ = some (.slice A1 n1 c1) ∧ w'.cell? ⟨w1.heap.size, 2, none⟩ = some (.slice B1 k1 m1) ∧ w'.cell? ⟨w2.heap.size, 0, none⟩ = some (.bool (decide (z2 < 0))) ∧ w'.cell? ⟨w2.heap.size, 1, none⟩ = some (.slice A2 n2 c2) ∧ w'.cell? ⟨w2.heap.size, 2, none⟩ = some (.slice B2 k2 m2) ∧ w'.cell? ⟨w3.heap.size, 0, none⟩ = some (.bool (decide (z3 < 0))) ∧ w'.cell? ⟨w3.heap.size, 1, none⟩ = some (.slice A3 n3 c3) ∧ w'.cell? ⟨w3.heap.size, 2, none⟩ = some (.slice B3 k3 m3) ∧ w'.cell? ⟨w5.heap.size, 0, none⟩ = some (.bool (decide (z1 < 0))) ∧ w'.cell? ⟨w5.heap.size, 1, none⟩ = some (.slice A5 n5 c5) ∧ w'.cell? ⟨w5.heap.size, 2, none⟩ = some (.slice B5 k5 m5)) (go_keep)
        (first
          | (go_at_call 7; (with_reducible refine (impl_RatEqual (decide (z1 < 0)) (decide (z1 < 0)) A5 B5 A1 B1 n5 c5 k5 m5 n1 c1 k1 m1 (toL z1.natAbs) (toL l1) (toL z1.natAbs) (toL l1) _ (PairR.here R5.out (by repeat' (first | (with_reducible exact Below.refl _ _) | (with_reducible refine Below.alloc ?_ ?_ _) | (with_reducible refine Below.setCell ?_ ?_ _) | (with_reducible refine below_drewN ?_ _) | (with_reducible refine Below.drew ?_) | (with_reducible refine below_step (by assumption) ?_ ?_) | omega | (simp; done) | (simp; omega)))).sl1 (PairR.here R5.out (by repeat' (first | (with_reducible exact Below.refl _ _) | (with_reducible refine Below.alloc ?_ ?_ _) | (with_reducible refine Below.setCell ?_ ?_ _) | (with_reducible refine below_drewN ?_ _) | (with_reducible refine Below.drew ?_) | (with_reducible refine below_step (by assumption) ?_ ?_) | omega | (simp; done) | (simp; omega)))).sl2 (PairR.here R1.out (by repeat' (first | (with_reducible exact Below.refl _ _) | (with_reducible refine Below.alloc ?_ ?_ _) | (with_reducible refine Below.setCell ?_ ?_ _) | (with_reducible refine below_drewN ?_ _) | (with_reducible refine Below.drew ?_) | (with_reducible refine below_step (by assumption) ?_ ?_) | omega | (simp; done) | (simp; omega)))).sl1 (PairR.here R1.out (by repeat' (first | (with_reducible exact Below.refl _ _) | (with_reducible refine Below.alloc ?_ ?_ _) | (with_reducible refine Below.setCell ?_ ?_ _) | (with_reducible refine below_drewN ?_ _) | (with_reducible refine Below.drew ?_) | (with_reducible refine below_step (by assumption) ?_ ?_) | omega | (simp; done) | (simp; omega)))).sl2).mono ?_); rintro e w6 ⟨rfl, b6⟩; obtain ⟨hc6, hf6⟩ := bxcell b6; have hz6 := b6.size; (try simp at hz6); rw [rats_eqZ]; have k6_0 : w6.cell? ⟨w1.heap.size, 0, none⟩ = some (.bool (decide (z1 < 0))) := (by rw [hc6 _ _ (by first | omega | (simp; done) | (simp; omega))]; first | exact kw_0 | simpa using kw_0); have k6_1 : w6.cell? ⟨w1.heap.size, 1, none⟩ = some (.slice A1 n1 c1) := (by rw [hc6 _ _ (by first | omega | (simp; done) | (simp; omega))]; first | exact kw_1 | simpa using kw_1); have k6_2 : w6.cell? ⟨w1.heap.size, 2, none⟩ = some (.slice B1 k1 m1) := (by rw [hc6 _ _ (by first | omega | (simp; done) | (simp; omega))]; first | exact kw_2 | simpa using kw_2); have k6_3 : w6.cell? ⟨w2.heap.size, 0, none⟩ = some (.bool (decide (z2 < 0))) := (by rw [hc6 _ _ (by first | omega | (simp; done) | (simp; omega))]; first | exact kw_3 | simpa using kw_3); have k6_4 : w6.cell? ⟨w2.heap.size, 1, none⟩ = some (.slice A2 n2 c2) := (by rw [hc6 _ _ (by first | omega | (simp; done) | (simp; omega))]; first | exact kw_4 | simpa using kw_4); have k6_5 : w6.cell? ⟨w2.heap.size, 2, none⟩ = some (.slice B2 k2 m2) := (by rw [hc6 _ _ (by first | omega | (simp; done) | (simp; omega))]; first | exact kw_5 | simpa using kw_5); have k6_6 : w6.cell? ⟨w3.heap.size, 0, none⟩ = some (.bool (decide (z3 < 0))) := (by rw [hc6 _ _ (by first | omega | (simp; done) | (simp; omega))]; first | exact kw_6 | simpa using kw_6); have k6_7 : w6.cell? ⟨w3.heap.size, 1, none⟩ = some (.slice A3 n3 c3) := (by rw [hc6 _ _ (by first | omega | (simp; done) | (simp; omega))]; first | exact kw_7 | simpa using kw_7); have k6_8 : w6.cell? ⟨w3.heap.size, 2, none⟩ = some (.slice B3 k3 m3) := (by rw [hc6 _ _ (by first | omega | (simp; done) | (simp; omega))]; first | exact kw_8 | simpa using kw_8); have k6_9 : w6.cell? ⟨w5.heap.size, 0, none⟩ = some (.bool (decide (z1 < 0))) := (by rw [hc6 _ _ (by first | omega | (simp; done) | (simp; omega))]; first | exact kw_9 | simpa using kw_9); have k6_10 : w6.cell? ⟨w5.heap.size, 1, none⟩ = some (.slice A5 n5 c5) := (by rw [hc6 _ _ (by first | omega | (simp; done) | (simp; omega))]; first | exact kw_10 | simpa using kw_10); have k6_11 : w6.cell? ⟨w5.heap.size, 2, none⟩ = some (.slice B5 k5 m5) := (by rw [hc6 _ _ (by first | omega | (simp; done) | (simp; omega))]; first | exact kw_11 | simpa using kw_11); clear hc6 hf6 kw_0 kw_1 kw_2 kw_3 kw_4 kw_5 kw_6 kw_7 kw_8 kw_9 kw_10 kw_11)
          | (go_at_call 9; (with_reducible refine ((impl_RatAdd (decide (z2 < 0)) (decide (z3 < 0)) A2 B2 A3 B3 n2 c2 k2 m2 n3 c3 k3 m3 (toL z2.natAbs) (toL l2) (toL z3.natAbs) (toL l3) _ (PairR.here R2.out (by repeat' (first | (with_reducible exact Below.refl _ _) | (with_reducible refine Below.alloc ?_ ?_ _) | (with_reducible refine Below.setCell ?_ ?_ _) | (with_reducible refine below_drewN ?_ _) | (with_reducible refine Below.drew ?_) | (with_reducible refine below_step (by assumption) ?_ ?_) | omega | (simp; done) | (simp; omega)))).sl1 (PairR.here R2.out (by repeat' (first | (with_reducible exact Below.refl _ _) | (with_reducible refine Below.alloc ?_ ?_ _) | (with_reducible refine Below.setCell ?_ ?_ _) | (with_reducible refine below_drewN ?_ _) | (with_reducible refine Below.drew ?_) | (with_reducible refine below_step (by assumption) ?_ ?_) | omega | (simp; done) | (simp; omega)))).sl2 (PairR.here R3.out (by repeat' (first | (with_reducible exact Below.refl _ _) | (with_reducible refine Below.alloc ?_ ?_ _) | (with_reducible refine Below.setCell ?_ ?_ _) | (with_reducible refine below_drewN ?_ _) | (with_reducible refine Below.drew ?_) | (with_reducible refine below_step (by assumption) ?_ ?_) | omega | (simp; done) | (simp; omega)))).sl1 (PairR.here R3.out (by repeat' (first | (with_reducible exact Below.refl _ _) | (with_reducible refine Below.alloc ?_ ?_ _) | (with_reducible refine Below.setCell ?_ ?_ _) | (with_reducible refine below_drewN ?_ _) | (with_reducible refine Below.drew ?_) | (with_reducible refine below_step (by assumption) ?_ ?_) | omega | (simp; done) | (simp; omega)))).sl2).mono (fun _ _ h => retq_z LA.out h)).mono ?_); rintro e w7 ⟨A7, n7, c7, B7, k7, m7, rfl, o7, b7⟩; obtain ⟨hc7, hf7⟩ := bxcell b7; have hz7 := b7.size; (try simp at hz7); have O7 := Lib.hid o7; clear o7; have k7_0 : w7.cell? ⟨w1.heap.size, 0, none⟩ = some (.bool (decide (z1 < 0))) := (by rw [hc7 _ _ (by first | omega | (simp; done) | (simp; omega))]; first | exact k6_0 | simpa using k6_0); have k7_1 : w7.cell? ⟨w1.heap.size, 1, none⟩ = some (.slice A1 n1 c1) := (by rw [hc7 _ _ (by first | omega | (simp; done) | (simp; omega))]; first | exact k6_1 | simpa using k6_1); have k7_2 : w7.cell? ⟨w1.heap.size, 2, none⟩ = some (.slice B1 k1 m1) := (by rw [hc7 _ _ (by first | omega | (simp; done) | (simp; omega))]; first | exact k6_2 | simpa using k6_2); have k7_3 : w7.cell? ⟨w2.heap.size, 0, none⟩ = some (.bool (decide (z2 < 0))) := (by rw [hc7 _ _ (by first | omega | (simp; done) | (simp; omega))]; first | exact k6_3 | simpa using k6_3); have k7_4 : w7.cell? ⟨w2.heap.size, 1, none⟩ = some (.slice A2 n2 c2) := (by rw [hc7 _ _ (by first | omega | (simp; done) | (simp; omega))]; first | exact k6_4 | simpa using k6_4); have k7_5 : w7.cell? ⟨w2.heap.size, 2, none⟩ = some (.slice B2 k2 m2) := (by rw [hc7 _ _ (by first | omega | (simp; done) | (simp; omega))]; first | exact k6_5 | simpa using k6_5); have k7_6 : w7.cell? ⟨w3.heap.size, 0, none⟩ = some (.bool (decide (z3 < 0))) := (by rw [hc7 _ _ (by first | omega | (simp; done) | (simp; omega))]; first | exact k6_6 | simpa using k6_6); have k7_7 : w7.cell? ⟨w3.heap.size, 1, none⟩ = some (.slice A3 n3 c3) := (by rw [hc7 _ _ (by first | omega | (simp; done) | (simp; omega))]; first | exact k6_7 | simpa using k6_7); have k7_8 : w7.cell? ⟨w3.heap.size, 2, none⟩ = some (.slice B3 k3 m3) := (by rw [hc7 _ _ (by first | omega | (simp; done) | (simp; omega))]; first | exact k6_8 | simpa using k6_8); have k7_9 : w7.cell? ⟨w5.heap.size, 0, none⟩ = some (.bool (decide (z1 < 0))) := (by rw [hc7 _ _ (by first | omega | (simp; done) | (simp; omega))]; first | exact k6_9 | simpa using k6_9); have k7_10 : w7.cell? ⟨w5.heap.size, 1, none⟩ = some (.slice A5 n5 c5) := (by rw [hc7 _ _ (by first | omega | (simp; done) | (simp; omega))]; first | exact k6_10 | simpa using k6_10); have k7_11 : w7.cell? ⟨w5.heap.size, 2, none⟩ = some (.slice B5 k5 m5) := (by rw [hc7 _ _ (by first | omega | (simp; done) | (simp; omega))]; first | exact k6_11 | simpa using k6_11); clear hc7 hf7 k6_0 k6_1 k6_2 k6_3 k6_4 k6_5 k6_6 k6_7 k6_8 k6_9 k6_10 k6_11)
          | (go_at_call 8; (with_reducible refine ((impl_RatMul (decide (z1 < 0)) (decide (za < 0)) A1 B1 A7 B7 n1 c1 k1 m1 n7 c7 k7 m7 (toL z1.natAbs) (toL l1) (toL za.natAbs) (toL la) _ (PairR.here R1.out (by repeat' (first | (with_reducible exact Below.refl _ _) | (with_reducible refine Below.alloc ?_ ?_ _) | (with_reducible refine Below.setCell ?_ ?_ _) | (with_reducible refine below_drewN ?_ _) | (with_reducible refine Below.drew ?_) | (with_reducible refine below_step (by assumption) ?_ ?_) | omega | (simp; done) | (simp; omega)))).sl1 (PairR.here R1.out (by repeat' (first | (with_reducible exact Below.refl _ _) | (with_reducible refine Below.alloc ?_ ?_ _) | (with_reducible refine Below.setCell ?_ ?_ _) | (with_reducible refine below_drewN ?_ _) | (with_reducible refine Below.drew ?_) | (with_reducible refine below_step (by assumption) ?_ ?_) | omega | (simp; done) | (simp; omega)))).sl2 (PairR.here O7.out (by repeat' (first | (with_reducible exact Below.refl _ _) | (with_reducible refine Below.alloc ?_ ?_ _) | (with_reducible refine Below.setCell ?_ ?_ _) | (with_reducible refine below_drewN ?_ _) | (with_reducible refine Below.drew ?_) | (with_reducible refine below_step (by assumption) ?_ ?_) | omega | (simp; done) | (simp; omega)))).sl1 (PairR.here O7.out (by repeat' (first | (with_reducible exact Below.refl _ _) | (with_reducible refine Below.alloc ?_ ?_ _) | (with_reducible refine Below.setCell ?_ ?_ _) | (with_reducible refine below_drewN ?_ _) | (with_reducible refine Below.drew ?_) | (with_reducible refine below_step (by assumption) ?_ ?_) | omega | (simp; done) | (simp; omega)))).sl2).mono (fun _ _ h => retq_z LB.out h)).mono ?_); rintro e w8 ⟨A8, n8, c8, B8, k8, m8, rfl, o8, b8⟩; obtain ⟨hc8, hf8⟩ := bxcell b8; have hz8 := b8.size; (try simp at hz8); have O8 := Lib.hid o8; clear o8; have k8_0 : w8.cell? ⟨w1.heap.size, 0, none⟩ = some (.bool (decide (z1 < 0))) := (by rw [hc8 _ _ (by first | omega | (simp; done) | (simp; omega))]; first | exact k7_0 | simpa using k7_0); have k8_1 : w8.cell? ⟨w1.heap.size, 1, none⟩ = some (.slice A1 n1 c1) := (by rw [hc8 _ _ (by first | omega | (simp; done) | (simp; omega))]; first | exact k7_1 | simpa using k7_1); have k8_2 : w8.cell? ⟨w1.heap.size, 2, none⟩ = some (.slice B1 k1 m1) := (by rw [hc8 _ _ (by first | omega | (simp; done) | (simp; omega))]; first | exact k7_2 | simpa using k7_2); have k8_3 : w8.cell? ⟨w2.heap.size, 0, none⟩ = some (.bool (decide (z2 < 0))) := (by rw [hc8 _ _ (by first | omega | (simp; done) | (simp; omega))]; first | exact k7_3 | simpa using k7_3); have k8_4 : w8.cell? ⟨w2.heap.size, 1, none⟩ = some (.slice A2 n2 c2) := (by rw [hc8 _ _ (by first | omega | (simp; done) | (simp; omega))]; first | exact k7_4 | simpa using k7_4); have k8_5 : w8.cell? ⟨w2.heap.size, 2, none⟩ = some (.slice B2 k2 m2) := (by rw [hc8 _ _ (by first | omega | (simp; done) | (simp; omega))]; first | exact k7_5 | simpa using k7_5); have k8_6 : w8.cell? ⟨w3.heap.size, 0, none⟩ = some (.bool (decide (z3 < 0))) := (by rw [hc8 _ _ (by first | omega | (simp; done) | (simp; omega))]; first | exact k7_6 | simpa using k7_6); have k8_7 : w8.cell? ⟨w3.heap.size, 1, none⟩ = some (.slice A3 n3 c3) := (by rw [hc8 _ _ (by first | omega | (simp; done) | (simp; omega))]; first | exact k7_7 | simpa using k7_7); have k8_8 : w8.cell? ⟨w3.heap.size, 2, none⟩ = some (.slice B3 k3 m3) := (by rw [hc8 _ _ (by first | omega | (simp; done) | (simp; omega))]; first | exact k7_8 | simpa using k7_8); have k8_9 : w8.cell? ⟨w5.heap.size, 0, none⟩ = some (.bool (decide (z1 < 0))) := (by rw [hc8 _ _ (by first | omega | (simp; done) | (simp; omega))]; first | exact k7_9 | simpa using k7_9); have k8_10 : w8.cell? ⟨w5.heap.size, 1, none⟩ = some (.slice A5 n5 c5) := (by rw [hc8 _ _ (by first | omega | (simp; done) | (simp; omega))]; first | exact k7_10 | simpa using k7_10); have k8_11 : w8.cell? ⟨w5.heap.size, 2, none⟩ = some (.slice B5 k5 m5) := (by rw [hc8 _ _ (by first | omega | (simp; done) | (simp; omega))]; first | exact k7_11 | simpa using k7_11); clear hc8 hf8 k7_0 k7_1 k7_2 k7_3 k7_4 k7_5 k7_6 k7_7 k7_8 k7_9 k7_10 k7_11)
          | (go_at_call 8; (with_reducible refine ((impl_RatMul (decide (z1 < 0)) (decide (z2 < 0)) A1 B1 A2 B2 n1 c1 k1 m1 n2 c2 k2 m2 (toL z1.natAbs) (toL l1) (toL z2.natAbs) (toL l2) _ (PairR.here R1.out (by repeat' (first | (with_reducible exact Below.refl _ _) | (with_reducible refine Below.alloc ?_ ?_ _) | (with_reducible refine Below.setCell ?_ ?_ _) | (with_reducible refine below_drewN ?_ _) | (with_reducible refine Below.drew ?_) | (with_reducible refine below_step (by assumption) ?_ ?_) | omega | (simp; done) | (simp; omega)))).sl1 (PairR.here R1.out (by repeat' (first | (with_reducible exact Below.refl _ _) | (with_reducible refine Below.alloc ?_ ?_ _) | (with_reducible refine Below.setCell ?_ ?_ _) | (with_reducible refine below_drewN ?_ _) | (with_reducible refine Below.drew ?_) | (with_reducible refine below_step (by assumption) ?_ ?_) | omega | (simp; done) | (simp; omega)))).sl2 (PairR.here R2.out (by repeat' (first | (with_reducible exact Below.refl _ _) | (with_reducible refine Below.alloc ?_ ?_ _) | (with_reducible refine Below.setCell ?_ ?_ _) | (with_reducible refine below_drewN ?_ _) | (with_reducible refine Below.drew ?_) | (with_reducible refine below_step (by assumption) ?_ ?_) | omega | (simp; done) | (simp; omega)))).sl1 (PairR.here R2.out (by repeat' (first | (with_reducible exact Below.refl _ _) | (with_reducible refine Below.alloc ?_ ?_ _) | (with_reducible refine Below.setCell ?_ ?_ _) | (with_reducible refine below_drewN ?_ _) | (with_reducible refine Below.drew ?_) | (with_reducible refine below_step (by assumption) ?_ ?_) | omega | (simp; done) | (simp; omega)))).sl2).mono (fun _ _ h => retq_z LC.out h)).mono ?_); rintro e w9 ⟨A9, n9, c9, B9, k9, m9, rfl, o9, b9⟩; obtain ⟨hc9, hf9⟩ := bxcell b9; have hz9 := b9.size; (try simp at hz9); have O9 := Lib.hid o9; clear o9; have k9_0 : w9.cell? ⟨w1.heap.size, 0, none⟩ = some (.bool (decide (z1 < 0))) := (by rw [hc9 _ _ (by first | omega | (simp; done) | (simp; omega))]; first | exact k8_0 | simpa using k8_0); have k9_1 : w9.cell? ⟨w1.heap.size, 1, none⟩ = some (.slice A1 n1 c1) := (by rw [hc9 _ _ (by first | omega | (simp; done) | (simp; omega))]; first | exact k8_1 | simpa using k8_1); have k9_2 : w9.cell? ⟨w1.heap.size, 2, none⟩ = some (.slice B1 k1 m1) := (by rw [hc9 _ _ (by first | omega | (simp; done) | (simp; omega))]; first | exact k8_2 | simpa using k8_2); have k9_3 : w9.cell? ⟨w2.heap.size, 0, none⟩ = some (.bool (decide (z2 < 0))) := (by rw [hc9 _ _ (by first | omega | (simp; done) | (simp; omega))]; first | exact k8_3 | simpa using k8_3); have k9_4 : w9.cell? ⟨w2.heap.size, 1, none⟩ = some (.slice A2 n2 c2) := (by rw [hc9 _ _ (by first | omega | (simp; done) | (simp; omega))]; first | exact k8_4 | simpa using k8_4); have k9_5 : w9.cell? ⟨w2.heap.size, 2, none⟩ = some (.slice B2 k2 m2) := (by rw [hc9 _ _ (by first | omega | (simp; done) | (simp; omega))]; first | exact k8_5 | simpa using k8_5); have k9_6 : w9.cell? ⟨w3.heap.size, 0, none⟩ = some (.bool (decide (z3 < 0))) := (by rw [hc9 _ _ (by first | omega | (simp; done) | (simp; omega))]; first | exact k8_6 | simpa using k8_6); have k9_7 : w9.cell? ⟨w3.heap.size, 1, none⟩ = some (.slice A3 n3 c3) := (by rw [hc9 _ _ (by first | omega | (simp; done) | (simp; omega))]; first | exact k8_7 | simpa using k8_7); have k9_8 : w9.cell? ⟨w3.heap.size, 2, none⟩ = some (.slice B3 k3 m3) := (by rw [hc9 _ _ (by first | omega | (simp; done) | (simp; omega))]; first | exact k8_8 | simpa using k8_8); have k9_9 : w9.cell? ⟨w5.heap.size, 0, none⟩ = some (.bool (decide (z1 < 0))) := (by rw [hc9 _ _ (by first | omega | (simp; done) | (simp; omega))]; first | exact k8_9 | simpa using k8_9); have k9_10 : w9.cell? ⟨w5.heap.size, 1, none⟩ = some (.slice A5 n5 c5) := (by rw [hc9 _ _ (by first | omega | (simp; done) | (simp; omega))]; first | exact k8_10 | simpa using k8_10); have k9_11 : w9.cell? ⟨w5.heap.size, 2, none⟩ = some (.slice B5 k5 m5) := (by rw [hc9 _ _ (by first | omega | (simp; done) | (simp; omega))]; first | exact k8_11 | simpa using k8_11); clear hc9 hf9 k8_0 k8_1 k8_2 k8_3 k8_4 k8_5 k8_6 k8_7 k8_8 k8_9 k8_10 k8_11)
          | (go_at_call 8; (with_reducible refine ((impl_RatMul (decide (z1 < 0)) (decide (z3 < 0)) A1 B1 A3 B3 n1 c1 k1 m1 n3 c3 k3 m3 (toL z1.natAbs) (toL l1) (toL z3.natAbs) (toL l3) _ (PairR.here R1.out (by repeat' (first | (with_reducible exact Below.refl _ _) | (with_reducible refine Below.alloc ?_ ?_ _) | (with_reducible refine Below.setCell ?_ ?_ _) | (with_reducible refine below_drewN ?_ _) | (with_reducible refine Below.drew ?_) | (with_reducible refine below_step (by assumption) ?_ ?_) | omega | (simp; done) | (simp; omega)))).sl1 (PairR.here R1.out (by repeat' (first | (with_reducible exact Below.refl _ _) | (with_reducible refine Below.alloc ?_ ?_ _) | (with_reducible refine Below.setCell ?_ ?_ _) | (with_reducible refine below_drewN ?_ _) | (with_reducible refine Below.drew ?_) | (with_reducible refine below_step (by assumption) ?_ ?_) | omega | (simp; done) | (simp; omega)))).sl2 (PairR.here R3.out (by repeat' (first | (with_reducible exact Below.refl _ _) | (with_reducible refine Below.alloc ?_ ?_ _) | (with_reducible refine Below.setCell ?_ ?_ _) | (with_reducible refine below_drewN ?_ _) | (with_reducible refine Below.drew ?_) | (with_reducible refine below_step (by assumption) ?_ ?_) | omega | (simp; done) | (simp; omega)))).sl1 (PairR.here R3.out (by repeat' (first | (with_reducible exact Below.refl _ _) | (with_reducible refine Below.alloc ?_ ?_ _) | (with_reducible refine Below.setCell ?_ ?_ _) | (with_reducible refine below_drewN ?_ _) | (with_reducible refine Below.drew ?_) | (with_reducible refine below_step (by assumption) ?_ ?_) | omega | (simp; done) | (simp; omega)))).sl2).mono (fun _ _ h => retq_z LD.out h)).mono ?_); rintro e w10 ⟨A10, n10, c10, B10, k10, m10, rfl, o10, b10⟩; obtain ⟨hc10, hf10⟩ := bxcell b10; have hz10 := b10.size; (try simp at hz10); have O10 := Lib.hid o10; clear o10; have k10_0 : w10.cell? ⟨w1.heap.size, 0, none⟩ = some (.bool (decide (z1 < 0))) := (by rw [hc10 _ _ (by first | omega | (simp; done) | (simp; omega))]; first | exact k9_0 | simpa using k9_0); have k10_1 : w10.cell? ⟨w1.heap.size, 1, none⟩ = some (.slice A1 n1 c1) := (by rw [hc10 _ _ (by first | omega | (simp; done) | (simp; omega))]; first | exact k9_1 | simpa using k9_1); have k10_2 : w10.cell? ⟨w1.heap.size, 2, none⟩ = some (.slice B1 k1 m1) := (by rw [hc10 _ _ (by first | omega | (simp; done) | (simp; omega))]; first | exact k9_2 | simpa using k9_2); have k10_3 : w10.cell? ⟨w2.heap.size, 0, none⟩ = some (.bool (decide (z2 < 0))) := (by rw [hc10 _ _ (by first | omega | (simp; done) | (simp; omega))]; first | exact k9_3 | simpa using k9_3); have k10_4 : w10.cell? ⟨w2.heap.size, 1, none⟩ = some (.slice A2 n2 c2) := (by rw [hc10 _ _ (by first | omega | (simp; done) | (simp; omega))]; first | exact k9_4 | simpa using k9_4); have k10_5 : w10.cell? ⟨w2.heap.size, 2, none⟩ = some (.slice B2 k2 m2) := (by rw [hc10 _ _ (by first | omega | (simp; done) | (simp; omega))]; first | exact k9_5 | simpa using k9_5); have k10_6 : w10.cell? ⟨w3.heap.size, 0, none⟩ = some (.bool (decide (z3 < 0))) := (by rw [hc10 _ _ (by first | omega | (simp; done) | (simp; omega))]; first | exact k9_6 | simpa using k9_6); have k10_7 : w10.cell? ⟨w3.heap.size, 1, none⟩ = some (.slice A3 n3 c3) := (by rw [hc10 _ _ (by first | omega | (simp; done) | (simp; omega))]; first | exact k9_7 | simpa using k9_7); have k10_8 : w10.cell? ⟨w3.heap.size, 2, none⟩ = some (.slice B3 k3 m3) := (by rw [hc10 _ _ (by first | omega | (simp; done) | (simp; omega))]; first | exact k9_8 | simpa using k9_8); have k10_9 : w10.cell? ⟨w5.heap.size, 0, none⟩ = some (.bool (decide (z1 < 0))) := (by rw [hc10 _ _ (by first | omega | (simp; done) | (simp; omega))]; first | exact k9_9 | simpa using k9_9); have k10_10 : w10.cell? ⟨w5.heap.size, 1, none⟩ = some (.slice A5 n5 c5) := (by rw [hc10 _ _ (by first | omega | (simp; done) | (simp; omega))]; first | exact k9_10 | simpa using k9_10); have k10_11 : w10.cell? ⟨w5.heap.size, 2, none⟩ = some (.slice B5 k5 m5) := (by rw [hc10 _ _ (by first | omega | (simp; done) | (simp; omega))]; first | exact k9_11 | simpa using k9_11); clear hc10 hf10 k9_0 k9_1 k9_2 k9_3 k9_4 k9_5 k9_6 k9_7 k9_8 k9_9 k9_10 k9_11)
          | (go_at_call 9; (with_reducible refine ((impl_RatAdd (decide (zc < 0)) (decide (zd < 0)) A9 B9 A10 B10 n9 c9 k9 m9 n10 c10 k10 m10 (toL zc.natAbs) (toL lc) (toL zd.natAbs) (toL ld) _ (PairR.here O9.out (by repeat' (first | (with_reducible exact Below.refl _ _) | (with_reducible refine Below.alloc ?_ ?_ _) | (with_reducible refine Below.setCell ?_ ?_ _) | (with_reducible refine below_drewN ?_ _) | (with_reducible refine Below.drew ?_) | (with_reducible refine below_step (by assumption) ?_ ?_) | omega | (simp; done) | (simp; omega)))).sl1 (PairR.here O9.out (by repeat' (first | (with_reducible exact Below.refl _ _) | (with_reducible refine Below.alloc ?_ ?_ _) | (with_reducible refine Below.setCell ?_ ?_ _) | (with_reducible refine below_drewN ?_ _) | (with_reducible refine Below.drew ?_) | (with_reducible refine below_step (by assumption) ?_ ?_) | omega | (simp; done) | (simp; omega)))).sl2 (PairR.here O10.out (by repeat' (first | (with_reducible exact Below.refl _ _) | (with_reducible refine Below.alloc ?_ ?_ _) | (with_reducible refine Below.setCell ?_ ?_ _) | (with_reducible refine below_drewN ?_ _) | (with_reducible refine Below.drew ?_) | (with_reducible refine below_step (by assumption) ?_ ?_) | omega | (simp; done) | (simp; omega)))).sl1 (PairR.here O10.out (by repeat' (first | (with_reducible exact Below.refl _ _) | (with_reducible refine Below.alloc ?_ ?_ _) | (with_reducible refine Below.setCell ?_ ?_ _) | (with_reducible refine below_drewN ?_ _) | (with_reducible refine Below.drew ?_) | (with_reducible refine below_step (by assumption) ?_ ?_) | omega | (simp; done) | (simp; omega)))).sl2).mono (fun _ _ h => retq_z LE.out h)).mono ?_); rintro e w11 ⟨A11, n11, c11, B11, k11, m11, rfl, o11, b11⟩; obtain ⟨hc11, hf11⟩ := bxcell b11; have hz11 := b11.size; (try simp at hz11); have O11 := Lib.hid o11; clear o11; have k11_0 : w11.cell? ⟨w1.heap.size, 0, none⟩ = some (.bool (decide (z1 < 0))) := (by rw [hc11 _ _ (by first | omega | (simp; done) | (simp; omega))]; first | exact k10_0 | simpa using k10_0); have k11_1 : w11.cell? ⟨w1.heap.size, 1, none⟩ = some (.slice A1 n1 c1) := (by rw [hc11 _ _ (by first | omega | (simp; done) | (simp; omega))]; first | exact k10_1 | simpa using k10_1); have k11_2 : w11.cell? ⟨w1.heap.size, 2, none⟩ = some (.slice B1 k1 m1) := (by rw [hc11 _ _ (by first | omega | (simp; done) | (simp; omega))]; first | exact k10_2 | simpa using k10_2); have k11_3 : w11.cell? ⟨w2.heap.size, 0, none⟩ = some (.bool (decide (z2 < 0))) := (by rw [hc11 _ _ (by first | omega | (simp; done) | (simp; omega))]; first | exact k10_3 | simpa using k10_3); have k11_4 : w11.cell? ⟨w2.heap.size, 1, none⟩ = some (.slice A2 n2 c2) := (by rw [hc11 _ _ (by first | omega | (simp; done) | (simp; omega))]; first | exact k10_4 | simpa using k10_4); have k11_5 : w11.cell? ⟨w2.heap.size, 2, none⟩ = some (.slice B2 k2 m2) := (by rw [hc11 _ _ (by first | omega | (simp; done) | (simp; omega))]; first | exact k10_5 | simpa using k10_5); have k11_6 : w11.cell? ⟨w3.heap.size, 0, none⟩ = some (.bool (decide (z3 < 0))) := (by rw [hc11 _ _ (by first | omega | (simp; done) | (simp; omega))]; first | exact k10_6 | simpa using k10_6); have k11_7 : w11.cell? ⟨w3.heap.size, 1, none⟩ = some (.slice A3 n3 c3) := (by rw [hc11 _ _ (by first | omega | (simp; done) | (simp; omega))]; first | exact k10_7 | simpa using k10_7); have k11_8 : w11.cell? ⟨w3.heap.size, 2, none⟩ = some (.slice B3 k3 m3) := (by rw [hc11 _ _ (by first | omega | (simp; done) | (simp; omega))]; first | exact k10_8 | simpa using k10_8); have k11_9 : w11.cell? ⟨w5.heap.size, 0, none⟩ = some (.bool (decide (z1 < 0))) := (by rw [hc11 _ _ (by first | omega | (simp; done) | (simp; omega))]; first | exact k10_9 | simpa using k10_9); have k11_10 : w11.cell? ⟨w5.heap.size, 1, none⟩ = some (.slice A5 n5 c5) := (by rw [hc11 _ _ (by first | omega | (simp; done) | (simp; omega))]; first | exact k10_10 | simpa using k10_10); have k11_11 : w11.cell? ⟨w5.heap.size, 2, none⟩ = some (.slice B5 k5 m5) := (by rw [hc11 _ _ (by first | omega | (simp; done) | (simp; omega))]; first | exact k10_11 | simpa using k10_11); clear hc11 hf11 k10_0 k10_1 k10_2 k10_3 k10_4 k10_5 k10_6 k10_7 k10_8 k10_9 k10_10 k10_11)
          | (go_at_call 7; (with_reducible refine (impl_RatEqual (decide (zb < 0)) (decide (zb < 0)) A8 B8 A11 B11 n8 c8 k8 m8 n11 c11 k11 m11 (toL zb.natAbs) (toL lb) (toL zb.natAbs) (toL lb) _ (PairR.here O8.out (by repeat' (first | (with_reducible exact Below.refl _ _) | (with_reducible refine Below.alloc ?_ ?_ _) | (with_reducible refine Below.setCell ?_ ?_ _) | (with_reducible refine below_drewN ?_ _) | (with_reducible refine Below.drew ?_) | (with_reducible refine below_step (by assumption) ?_ ?_) | omega | (simp; done) | (simp; omega)))).sl1 (PairR.here O8.out (by repeat' (first | (with_reducible exact Below.refl _ _) | (with_reducible refine Below.alloc ?_ ?_ _) | (with_reducible refine Below.setCell ?_ ?_ _) | (with_reducible refine below_drewN ?_ _) | (with_reducible refine Below.drew ?_) | (with_reducible refine below_step (by assumption) ?_ ?_) | omega | (simp; done) | (simp; omega)))).sl2 (PairR.here O11.out (by repeat' (first | (with_reducible exact Below.refl _ _) | (with_reducible refine Below.alloc ?_ ?_ _) | (with_reducible refine Below.setCell ?_ ?_ _) | (with_reducible refine below_drewN ?_ _) | (with_reducible refine Below.drew ?_) | (with_reducible refine below_step (by assumption) ?_ ?_) | omega | (simp; done) | (simp; omega)))).sl1 (PairR.here O11.out (by repeat' (first | (with_reducible exact Below.refl _ _) | (with_reducible refine Below.alloc ?_ ?_ _) | (with_reducible refine Below.setCell ?_ ?_ _) | (with_reducible refine below_drewN ?_ _) | (with_reducible refine Below.drew ?_) | (with_reducible refine below_step (by assumption) ?_ ?_) | omega | (simp; done) | (simp; omega)))).sl2).mono ?_); rintro e w12 ⟨rfl, b12⟩; obtain ⟨hc12, hf12⟩ := bxcell b12; have hz12 := b12.size; (try simp at hz12); rw [rats_eqZ]; have k12_0 : w12.cell? ⟨w1.heap.size, 0, none⟩ = some (.bool (decide (z1 < 0))) := (by rw [hc12 _ _ (by first | omega | (simp; done) | (simp; omega))]; first | exact k11_0 | simpa using k11_0); have k12_1 : w12.cell? ⟨w1.heap.size, 1, none⟩ = some (.slice A1 n1 c1) := (by rw [hc12 _ _ (by first | omega | (simp; done) | (simp; omega))]; first | exact k11_1 | simpa using k11_1); have k12_2 : w12.cell? ⟨w1.heap.size, 2, none⟩ = some (.slice B1 k1 m1) := (by rw [hc12 _ _ (by first | omega | (simp; done) | (simp; omega))]; first | exact k11_2 | simpa using k11_2); have k12_3 : w12.cell? ⟨w2.heap.size, 0, none⟩ = some (.bool (decide (z2 < 0))) := (by rw [hc12 _ _ (by first | omega | (simp; done) | (simp; omega))]; first | exact k11_3 | simpa using k11_3); have k12_4 : w12.cell? ⟨w2.heap.size, 1, none⟩ = some (.slice A2 n2 c2) := (by rw [hc12 _ _ (by first | omega | (simp; done) | (simp; omega))]; first | exact k11_4 | simpa using k11_4); have k12_5 : w12.cell? ⟨w2.heap.size, 2, none⟩ = some (.slice B2 k2 m2) := (by rw [hc12 _ _ (by first | omega | (simp; done) | (simp; omega))]; first | exact k11_5 | simpa using k11_5); have k12_6 : w12.cell? ⟨w3.heap.size, 0, none⟩ = some (.bool (decide (z3 < 0))) := (by rw [hc12 _ _ (by first | omega | (simp; done) | (simp; omega))]; first | exact k11_6 | simpa using k11_6); have k12_7 : w12.cell? ⟨w3.heap.size, 1, none⟩ = some (.slice A3 n3 c3) := (by rw [hc12 _ _ (by first | omega | (simp; done) | (simp; omega))]; first | exact k11_7 | simpa using k11_7); have k12_8 : w12.cell? ⟨w3.heap.size, 2, none⟩ = some (.slice B3 k3 m3) := (by rw [hc12 _ _ (by first | omega | (simp; done) | (simp; omega))]; first | exact k11_8 | simpa using k11_8); have k12_9 : w12.cell? ⟨w5.heap.size, 0, none⟩ = some (.bool (decide (z1 < 0))) := (by rw [hc12 _ _ (by first | omega | (simp; done) | (simp; omega))]; first | exact k11_9 | simpa using k11_9); have k12_10 : w12.cell? ⟨w5.heap.size, 1, none⟩ = some (.slice A5 n5 c5) := (by rw [hc12 _ _ (by first | omega | (simp; done) | (simp; omega))]; first | exact k11_10 | simpa using k11_10); have k12_11 : w12.cell? ⟨w5.heap.size, 2, none⟩ = some (.slice B5 k5 m5) := (by rw [hc12 _ _ (by first | omega | (simp; done) | (simp; omega))]; first | exact k11_11 | simpa using k11_11); clear hc12 hf12 k11_0 k11_1 k11_2 k11_3 k11_4 k11_5 k11_6 k11_7 k11_8 k11_9 k11_10 k11_11)
          | (go_at_call 9; (with_reducible refine ((impl_RatAdd (decide (z1 < 0)) (decide (z2 < 0)) A1 B1 A2 B2 n1 c1 k1 m1 n2 c2 k2 m2 (toL z1.natAbs) (toL l1) (toL z2.natAbs) (toL l2) _ (PairR.here R1.out (by repeat' (first | (with_reducible exact Below.refl _ _) | (with_reducible refine Below.alloc ?_ ?_ _) | (with_reducible refine Below.setCell ?_ ?_ _) | (with_reducible refine below_drewN ?_ _) | (with_reducible refine Below.drew ?_) | (with_reducible refine below_step (by assumption) ?_ ?_) | omega | (simp; done) | (simp; omega)))).sl1 (PairR.here R1.out (by repeat' (first | (with_reducible exact Below.refl _ _) | (with_reducible refine Below.alloc ?_ ?_ _) | (with_reducible refine Below.setCell ?_ ?_ _) | (with_reducible refine below_drewN ?_ _) | (with_reducible refine Below.drew ?_) | (with_reducible refine below_step (by assumption) ?_ ?_) | omega | (simp; done) | (simp; omega)))).sl2 (PairR.here R2.out (by repeat' (first | (with_reducible exact Below.refl _ _) | (with_reducible refine Below.alloc ?_ ?_ _) | (with_reducible refine Below.setCell ?_ ?_ _) | (with_reducible refine below_drewN ?_ _) | (with_reducible refine Below.drew ?_) | (with_reducible refine below_step (by assumption) ?_ ?_) | omega | (simp; done) | (simp; omega)))).sl1 (PairR.here R2.out (by repeat' (first | (with_reducible exact Below.refl _ _) | (with_reducible refine Below.alloc ?_ ?_ _) | (with_reducible refine Below.setCell ?_ ?_ _) | (with_reducible refine below_drewN ?_ _) | (with_reducible refine Below.drew ?_) | (with_reducible refine below_step (by assumption) ?_ ?_) | omega | (simp; done) | (simp; omega)))).sl2).mono (fun _ _ h => retq_z LF.out h)).mono ?_); rintro e w13 ⟨A13, n13, c13, B13, k13, m13, rfl, o13, b13⟩; obtain ⟨hc13, hf13⟩ := bxcell b13; have hz13 := b13.size; (try simp at hz13); have O13 := Lib.hid o13; clear o13; have k13_0 : w13.cell? ⟨w1.heap.size, 0, none⟩ = some (.bool (decide (z1 < 0))) := (by rw [hc13 _ _ (by first | omega | (simp; done) | (simp; omega))]; first | exact k12_0 | simpa using k12_0); have k13_1 : w13.cell? ⟨w1.heap.size, 1, none⟩ = some (.slice A1 n1 c1) := (by rw [hc13 _ _ (by first | omega | (simp; done) | (simp; omega))]; first | exact k12_1 | simpa using k12_1); have k13_2 : w13.cell? ⟨w1.heap.size, 2, none⟩ = some (.slice B1 k1 m1) := (by rw [hc13 _ _ (by first | omega | (simp; done) | (simp; omega))]; first | exact k12_2 | simpa using k12_2); have k13_3 : w13.cell? ⟨w2.heap.size, 0, none⟩ = some (.bool (decide (z2 < 0))) := (by rw [hc13 _ _ (by first | omega | (simp; done) | (simp; omega))]; first | exact k12_3 | simpa using k12_3); have k13_4 : w13.cell? ⟨w2.heap.size, 1, none⟩ = some (.slice A2 n2 c2) := (by rw [hc13 _ _ (by first | omega | (simp; done) | (simp; omega))]; first | exact k12_4 | simpa using k12_4); have k13_5 : w13.cell? ⟨w2.heap.size, 2, none⟩ = some (.slice B2 k2 m2) := (by rw [hc13 _ _ (by first | omega | (simp; done) | (simp; omega))]; first | exact k12_5 | simpa using k12_5); have k13_6 : w13.cell? ⟨w3.heap.size, 0, none⟩ = some (.bool (decide (z3 < 0))) := (by rw [hc13 _ _ (by first | omega | (simp; done) | (simp; omega))]; first | exact k12_6 | simpa using k12_6); have k13_7 : w13.cell? ⟨w3.heap.size, 1, none⟩ = some (.slice A3 n3 c3) := (by rw [hc13 _ _ (by first | omega | (simp; done) | (simp; omega))]; first | exact k12_7 | simpa using k12_7); have k13_8 : w13.cell? ⟨w3.heap.size, 2, none⟩ = some (.slice B3 k3 m3) := (by rw [hc13 _ _ (by first | omega | (simp; done) | (simp; omega))]; first | exact k12_8 | simpa using k12_8); have k13_9 : w13.cell? ⟨w5.heap.size, 0, none⟩ = some (.bool (decide (z1 < 0))) := (by rw [hc13 _ _ (by first | omega | (simp; done) | (simp; omega))]; first | exact k12_9 | simpa using k12_9); have k13_10 : w13.cell? ⟨w5.heap.size, 1, none⟩ = some (.slice A5 n5 c5) := (by rw [hc13 _ _ (by first | omega | (simp; done) | (simp; omega))]; first | exact k12_10 | simpa using k12_10); have k13_11 : w13.cell? ⟨w5.heap.size, 2, none⟩ = some (.slice B5 k5 m5) := (by rw [hc13 _ _ (by first | omega | (simp; done) | (simp; omega))]; first | exact k12_11 | simpa using k12_11); clear hc13 hf13 k12_0 k12_1 k12_2 k12_3 k12_4 k12_5 k12_6 k12_7 k12_8 k12_9 k12_10 k12_11)
          | (go_at_call 10; (with_reducible refine ((impl_RatSub (decide (ze < 0)) (decide (z2 < 0)) A13 B13 A2 B2 n13 c13 k13 m13 n2 c2 k2 m2 (toL ze.natAbs) (toL le) (toL z2.natAbs) (toL l2) _ (PairR.here O13.out (by repeat' (first | (with_reducible exact Below.refl _ _) | (with_reducible refine Below.alloc ?_ ?_ _) | (with_reducible refine Below.setCell ?_ ?_ _) | (with_reducible refine below_drewN ?_ _) | (with_reducible refine Below.drew ?_) | (with_reducible refine below_step (by assumption) ?_ ?_) | omega | (simp; done) | (simp; omega)))).sl1 (PairR.here O13.out (by repeat' (first | (with_reducible exact Below.refl _ _) | (with_reducible refine Below.alloc ?_ ?_ _) | (with_reducible refine Below.setCell ?_ ?_ _) | (with_reducible refine below_drewN ?_ _) | (with_reducible refine Below.drew ?_) | (with_reducible refine below_step (by assumption) ?_ ?_) | omega | (simp; done) | (simp; omega)))).sl2 (PairR.here R2.out (by repeat' (first | (with_reducible exact Below.refl _ _) | (with_reducible refine Below.alloc ?_ ?_ _) | (with_reducible refine Below.setCell ?_ ?_ _) | (with_reducible refine below_drewN ?_ _) | (with_reducible refine Below.drew ?_) | (with_reducible refine below_step (by assumption) ?_ ?_) | omega | (simp; done) | (simp; omega)))).sl1 (PairR.here R2.out (by repeat' (first | (with_reducible exact Below.refl _ _) | (with_reducible refine Below.alloc ?_ ?_ _) | (with_reducible refine Below.setCell ?_ ?_ _) | (with_reducible refine below_drewN ?_ _) | (with_reducible refine Below.drew ?_) | (with_reducible refine below_step (by assumption) ?_ ?_) | omega | (simp; done) | (simp; omega)))).sl2).mono (fun _ _ h => retq_z LG.out h)).mono ?_); rintro e w14 ⟨A14, n14, c14, B14, k14, m14, rfl, o14, b14⟩; obtain ⟨hc14, hf14⟩ := bxcell b14; have hz14 := b14.size; (try simp at hz14); have O14 := Lib.hid o14; clear o14; have k14_0 : w14.cell? ⟨w1.heap.size, 0, none⟩ = some (.bool (decide (z1 < 0))) := (by rw [hc14 _ _ (by first | omega | (simp; done) | (simp; omega))]; first | exact k13_0 | simpa using k13_0); have k14_1 : w14.cell? ⟨w1.heap.size, 1, none⟩ = some (.slice A1 n1 c1) := (by rw [hc14 _ _ (by first | omega | (simp; done) | (simp; omega))]; first | exact k13_1 | simpa using k13_1); have k14_2 : w14.cell? ⟨w1.heap.size, 2, none⟩ = some (.slice B1 k1 m1) := (by rw [hc14 _ _ (by first | omega | (simp; done) | (simp; omega))]; first | exact k13_2 | simpa using k13_2); have k14_3 : w14.cell? ⟨w2.heap.size, 0, none⟩ = some (.bool (decide (z2 < 0))) := (by rw [hc14 _ _ (by first | omega | (simp; done) | (simp; omega))]; first | exact k13_3 | simpa using k13_3); have k14_4 : w14.cell? ⟨w2.heap.size, 1, none⟩ = some (.slice A2 n2 c2) := (by rw [hc14 _ _ (by first | omega | (simp; done) | (simp; omega))]; first | exact k13_4 | simpa using k13_4); have k14_5 : w14.cell? ⟨w2.heap.size, 2, none⟩ = some (.slice B2 k2 m2) := (by rw [hc14 _ _ (by first | omega | (simp; done) | (simp; omega))]; first | exact k13_5 | simpa using k13_5); have k14_6 : w14.cell? ⟨w3.heap.size, 0, none⟩ = some (.bool (decide (z3 < 0))) := (by rw [hc14 _ _ (by first | omega | (simp; done) | (simp; omega))]; first | exact k13_6 | simpa using k13_6); have k14_7 : w14.cell? ⟨w3.heap.size, 1, none⟩ = some (.slice A3 n3 c3) := (by rw [hc14 _ _ (by first | omega | (simp; done) | (simp; omega))]; first | exact k13_7 | simpa using k13_7); have k14_8 : w14.cell? ⟨w3.heap.size, 2, none⟩ = some (.slice B3 k3 m3) := (by rw [hc14 _ _ (by first | omega | (simp; done) | (simp; omega))]; first | exact k13_8 | simpa using k13_8); have k14_9 : w14.cell? ⟨w5.heap.size, 0, none⟩ = some (.bool (decide (z1 < 0))) := (by rw [hc14 _ _ (by first | omega | (simp; done) | (simp; omega))]; first | exact k13_9 | simpa using k13_9); have k14_10 : w14.cell? ⟨w5.heap.size, 1, none⟩ = some (.slice A5 n5 c5) := (by rw [hc14 _ _ (by first | omega | (simp; done) | (simp; omega))]; first | exact k13_10 | simpa using k13_10); have k14_11 : w14.cell? ⟨w5.heap.size, 2, none⟩ = some (.slice B5 k5 m5) := (by rw [hc14 _ _ (by first | omega | (simp; done) | (simp; omega))]; first | exact k13_11 | simpa using k13_11); clear hc14 hf14 k13_0 k13_1 k13_2 k13_3 k13_4 k13_5 k13_6 k13_7 k13_8 k13_9 k13_10 k13_11)
          | (go_at_call 7; (with_reducible refine (impl_RatEqual (decide (z1 < 0)) (decide (z1 < 0)) A14 B14 A1 B1 n14 c14 k14 m14 n1 c1 k1 m1 (toL z1.natAbs) (toL l1) (toL z1.natAbs) (toL l1) _ (PairR.here O14.out (by repeat' (first | (with_reducible exact Below.refl _ _) | (with_reducible refine Below.alloc ?_ ?_ _) | (with_reducible refine Below.setCell ?_ ?_ _) | (with_reducible refine below_drewN ?_ _) | (with_reducible refine Below.drew ?_) | (with_reducible refine below_step (by assumption) ?_ ?_) | omega | (simp; done) | (simp; omega)))).sl1 (PairR.here O14.out (by repeat' (first | (with_reducible exact Below.refl _ _) | (with_reducible refine Below.alloc ?_ ?_ _) | (with_reducible refine Below.setCell ?_ ?_ _) | (with_reducible refine below_drewN ?_ _) | (with_reducible refine Below.drew ?_) | (with_reducible refine below_step (by assumption) ?_ ?_) | omega | (simp; done) | (simp; omega)))).sl2 (PairR.here R1.out (by repeat' (first | (with_reducible exact Below.refl _ _) | (with_reducible refine Below.alloc ?_ ?_ _) | (with_reducible refine Below.setCell ?_ ?_ _) | (with_reducible refine below_drewN ?_ _) | (with_reducible refine Below.drew ?_) | (with_reducible refine below_step (by assumption) ?_ ?_) | omega | (simp; done) | (simp; omega)))).sl1 (PairR.here R1.out (by repeat' (first | (with_reducible exact Below.refl _ _) | (with_reducible refine Below.alloc ?_ ?_ _) | (with_reducible refine Below.setCell ?_ ?_ _) | (with_reducible refine below_drewN ?_ _) | (with_reducible refine Below.drew ?_) | (with_reducible refine below_step (by assumption) ?_ ?_) | omega | (simp; done) | (simp; omega)))).sl2).mono ?_); rintro e w15 ⟨rfl, b15⟩; obtain ⟨hc15, hf15⟩ := bxcell b15; have hz15 := b15.size; (try simp at hz15); rw [rats_eqZ]; have k15_0 : w15.cell? ⟨w1.heap.size, 0, none⟩ = some (.bool (decide (z1 < 0))) := (by rw [hc15 _ _ (by first | omega | (simp; done) | (simp; omega))]; first | exact k14_0 | simpa using k14_0); have k15_1 : w15.cell? ⟨w1.heap.size, 1, none⟩ = some (.slice A1 n1 c1) := (by rw [hc15 _ _ (by first | omega | (simp; done) | (simp; omega))]; first | exact k14_1 | simpa using k14_1); have k15_2 : w15.cell? ⟨w1.heap.size, 2, none⟩ = some (.slice B1 k1 m1) := (by rw [hc15 _ _ (by first | omega | (simp; done) | (simp; omega))]; first | exact k14_2 | simpa using k14_2); have k15_3 : w15.cell? ⟨w2.heap.size, 0, none⟩ = some (.bool (decide (z2 < 0))) := (by rw [hc15 _ _ (by first | omega | (simp; done) | (simp; omega))]; first | exact k14_3 | simpa using k14_3); have k15_4 : w15.cell? ⟨w2.heap.size, 1, none⟩ = some (.slice A2 n2 c2) := (by rw [hc15 _ _ (by first | omega | (simp; done) | (simp; omega))]; first | exact k14_4 | simpa using k14_4); have k15_5 : w15.cell? ⟨w2.heap.size, 2, none⟩ = some (.slice B2 k2 m2) := (by rw [hc15 _ _ (by first | omega | (simp; done) | (simp; omega))]; first | exact k14_5 | simpa using k14_5); have k15_6 : w15.cell? ⟨w3.heap.size, 0, none⟩ = some (.bool (decide (z3 < 0))) := (by rw [hc15 _ _ (by first | omega | (simp; done) | (simp; omega))]; first | exact k14_6 | simpa using k14_6); have k15_7 : w15.cell? ⟨w3.heap.size, 1, none⟩ = some (.slice A3 n3 c3) := (by rw [hc15 _ _ (by first | omega | (simp; done) | (simp; omega))]; first | exact k14_7 | simpa using k14_7); have k15_8 : w15.cell? ⟨w3.heap.size, 2, none⟩ = some (.slice B3 k3 m3) := (by rw [hc15 _ _ (by first | omega | (simp; done) | (simp; omega))]; first | exact k14_8 | simpa using k14_8); have k15_9 : w15.cell? ⟨w5.heap.size, 0, none⟩ = some (.bool (decide (z1 < 0))) := (by rw [hc15 _ _ (by first | omega | (simp; done) | (simp; omega))]; first | exact k14_9 | simpa using k14_9); have k15_10 : w15.cell? ⟨w5.heap.size, 1, none⟩ = some (.slice A5 n5 c5) := (by rw [hc15 _ _ (by first | omega | (simp; done) | (simp; omega))]; first | exact k14_10 | simpa using k14_10); have k15_11 : w15.cell? ⟨w5.heap.size, 2, none⟩ = some (.slice B5 k5 m5) := (by rw [hc15 _ _ (by first | omega | (simp; done) | (simp; omega))]; first | exact k14_11 | simpa using k14_11); clear hc15 hf15 k14_0 k14_1 k14_2 k14_3 k14_4 k14_5 k14_6 k14_7 k14_8 k14_9 k14_10 k14_11)
          | (go_at_call 11; (with_reducible refine (impl_RatCmp (decide (z1 < 0)) (decide (z2 < 0)) A1 B1 A2 B2 n1 c1 k1 m1 n2 c2 k2 m2 (toL z1.natAbs) (toL l1) (toL z2.natAbs) (toL l2) _ (PairR.here R1.out (by repeat' (first | (with_reducible exact Below.refl _ _) | (with_reducible refine Below.alloc ?_ ?_ _) | (with_reducible refine Below.setCell ?_ ?_ _) | (with_reducible refine below_drewN ?_ _) | (with_reducible refine Below.drew ?_) | (with_reducible refine below_step (by assumption) ?_ ?_) | omega | (simp; done) | (simp; omega)))).sl1 (PairR.here R1.out (by repeat' (first | (with_reducible exact Below.refl _ _) | (with_reducible refine Below.alloc ?_ ?_ _) | (with_reducible refine Below.setCell ?_ ?_ _) | (with_reducible refine below_drewN ?_ _) | (with_reducible refine Below.drew ?_) | (with_reducible refine below_step (by assumption) ?_ ?_) | omega | (simp; done) | (simp; omega)))).sl2 (PairR.here R2.out (by repeat' (first | (with_reducible exact Below.refl _ _) | (with_reducible refine Below.alloc ?_ ?_ _) | (with_reducible refine Below.setCell ?_ ?_ _) | (with_reducible refine below_drewN ?_ _) | (with_reducible refine Below.drew ?_) | (with_reducible refine below_step (by assumption) ?_ ?_) | omega | (simp; done) | (simp; omega)))).sl1 (PairR.here R2.out (by repeat' (first | (with_reducible exact Below.refl _ _) | (with_reducible refine Below.alloc ?_ ?_ _) | (with_reducible refine Below.setCell ?_ ?_ _) | (with_reducible refine below_drewN ?_ _) | (with_reducible refine Below.drew ?_) | (with_reducible refine below_step (by assumption) ?_ ?_) | omega | (simp; done) | (simp; omega)))).sl2).mono ?_); rintro e w16 ⟨rfl, b16⟩; obtain ⟨hc16, hf16⟩ := bxcell b16; have hz16 := b16.size; (try simp at hz16); rw [LCM.out]; have k16_0 : w16.cell? ⟨w1.heap.size, 0, none⟩ = some (.bool (decide (z1 < 0))) := (by rw [hc16 _ _ (by first | omega | (simp; done) | (simp; omega))]; first | exact k15_0 | simpa using k15_0); have k16_1 : w16.cell? ⟨w1.heap.size, 1, none⟩ = some (.slice A1 n1 c1) := (by rw [hc16 _ _ (by first | omega | (simp; done) | (simp; omega))]; first | exact k15_1 | simpa using k15_1); have k16_2 : w16.cell? ⟨w1.heap.size, 2, none⟩ = some (.slice B1 k1 m1) := (by rw [hc16 _ _ (by first | omega | (simp; done) | (simp; omega))]; first | exact k15_2 | simpa using k15_2); have k16_3 : w16.cell? ⟨w2.heap.size, 0, none⟩ = some (.bool (decide (z2 < 0))) := (by rw [hc16 _ _ (by first | omega | (simp; done) | (simp; omega))]; first | exact k15_3 | simpa using k15_3); have k16_4 : w16.cell? ⟨w2.heap.size, 1, none⟩ = some (.slice A2 n2 c2) := (by rw [hc16 _ _ (by first | omega | (simp; done) | (simp; omega))]; first | exact k15_4 | simpa using k15_4); have k16_5 : w16.cell? ⟨w2.heap.size, 2, none⟩ = some (.slice B2 k2 m2) := (by rw [hc16 _ _ (by first | omega | (simp; done) | (simp; omega))]; first | exact k15_5 | simpa using k15_5); have k16_6 : w16.cell? ⟨w3.heap.size, 0, none⟩ = some (.bool (decide (z3 < 0))) := (by rw [hc16 _ _ (by first | omega | (simp; done) | (simp; omega))]; first | exact k15_6 | simpa using k15_6); have k16_7 : w16.cell? ⟨w3.heap.size, 1, none⟩ = some (.slice A3 n3 c3) := (by rw [hc16 _ _ (by first | omega | (simp; done) | (simp; omega))]; first | exact k15_7 | simpa using k15_7); have k16_8 : w16.cell? ⟨w3.heap.size, 2, none⟩ = some (.slice B3 k3 m3) := (by rw [hc16 _ _ (by first | omega | (simp; done) | (simp; omega))]; first | exact k15_8 | simpa using k15_8); have k16_9 : w16.cell? ⟨w5.heap.size, 0, none⟩ = some (.bool (decide (z1 < 0))) := (by rw [hc16 _ _ (by first | omega | (simp; done) | (simp; omega))]; first | exact k15_9 | simpa using k15_9); have k16_10 : w16.cell? ⟨w5.heap.size, 1, none⟩ = some (.slice A5 n5 c5) := (by rw [hc16 _ _ (by first | omega | (simp; done) | (simp; omega))]; first | exact k15_10 | simpa using k15_10); have k16_11 : w16.cell? ⟨w5.heap.size, 2, none⟩ = some (.slice B5 k5 m5) := (by rw [hc16 _ _ (by first | omega | (simp; done) | (simp; omega))]; first | exact k15_11 | simpa using k15_11); clear hc16 hf16 k15_0 k15_1 k15_2 k15_3 k15_4 k15_5 k15_6 k15_7 k15_8 k15_9 k15_10 k15_11)
          | (go_at_call 10; (with_reducible refine ((impl_RatSub (decide (z1 < 0)) (decide (z2 < 0)) A1 B1 A2 B2 n1 c1 k1 m1 n2 c2 k2 m2 (toL z1.natAbs) (toL l1) (toL z2.natAbs) (toL l2) _ (PairR.here R1.out (by repeat' (first | (with_reducible exact Below.refl _ _) | (with_reducible refine Below.alloc ?_ ?_ _) | (with_reducible refine Below.setCell ?_ ?_ _) | (with_reducible refine below_drewN ?_ _) | (with_reducible refine Below.drew ?_) | (with_reducible refine below_step (by assumption) ?_ ?_) | omega | (simp; done) | (simp; omega)))).sl1 (PairR.here R1.out (by repeat' (first | (with_reducible exact Below.refl _ _) | (with_reducible refine Below.alloc ?_ ?_ _) | (with_reducible refine Below.setCell ?_ ?_ _) | (with_reducible refine below_drewN ?_ _) | (with_reducible refine Below.drew ?_) | (with_reducible refine below_step (by assumption) ?_ ?_) | omega | (simp; done) | (simp; omega)))).sl2 (PairR.here R2.out (by repeat' (first | (with_reducible exact Below.refl _ _) | (with_reducible refine Below.alloc ?_ ?_ _) | (with_reducible refine Below.setCell ?_ ?_ _) | (with_reducible refine below_drewN ?_ _) | (with_reducible refine Below.drew ?_) | (with_reducible refine below_step (by assumption) ?_ ?_) | omega | (simp; done) | (simp; omega)))).sl1 (PairR.here R2.out (by repeat' (first | (with_reducible exact Below.refl _ _) | (with_reducible refine Below.alloc ?_ ?_ _) | (with_reducible refine Below.setCell ?_ ?_ _) | (with_reducible refine below_drewN ?_ _) | (with_reducible refine Below.drew ?_) | (with_reducible refine below_step (by assumption) ?_ ?_) | omega | (simp; done) | (simp; omega)))).sl2).mono (fun _ _ h => retq_z LH.out h)).mono ?_); rintro e w17 ⟨A17, n17, c17, B17, k17, m17, rfl, o17, b17⟩; obtain ⟨hc17, hf17⟩ := bxcell b17; have hz17 := b17.size; (try simp at hz17); have O17 := Lib.hid o17; clear o17; have k17_0 : w17.cell? ⟨w1.heap.size, 0, none⟩ = some (.bool (decide (z1 < 0))) := (by rw [hc17 _ _ (by first | omega | (simp; done) | (simp; omega))]; first | exact k16_0 | simpa using k16_0); have k17_1 : w17.cell? ⟨w1.heap.size, 1, none⟩ = some (.slice A1 n1 c1) := (by rw [hc17 _ _ (by first | omega | (simp; done) | (simp; omega))]; first | exact k16_1 | simpa using k16_1); have k17_2 : w17.cell? ⟨w1.heap.size, 2, none⟩ = some (.slice B1 k1 m1) := (by rw [hc17 _ _ (by first | omega | (simp; done) | (simp; omega))]; first | exact k16_2 | simpa using k16_2); have k17_3 : w17.cell? ⟨w2.heap.size, 0, none⟩ = some (.bool (decide (z2 < 0))) := (by rw [hc17 _ _ (by first | omega | (simp; done) | (simp; omega))]; first | exact k16_3 | simpa using k16_3); have k17_4 : w17.cell? ⟨w2.heap.size, 1, none⟩ = some (.slice A2 n2 c2) := (by rw [hc17 _ _ (by first | omega | (simp; done) | (simp; omega))]; first | exact k16_4 | simpa using k16_4); have k17_5 : w17.cell? ⟨w2.heap.size, 2, none⟩ = some (.slice B2 k2 m2) := (by rw [hc17 _ _ (by first | omega | (simp; done) | (simp; omega))]; first | exact k16_5 | simpa using k16_5); have k17_6 : w17.cell? ⟨w3.heap.size, 0, none⟩ = some (.bool (decide (z3 < 0))) := (by rw [hc17 _ _ (by first | omega | (simp; done) | (simp; omega))]; first | exact k16_6 | simpa using k16_6); have k17_7 : w17.cell? ⟨w3.heap.size, 1, none⟩ = some (.slice A3 n3 c3) := (by rw [hc17 _ _ (by first | omega | (simp; done) | (simp; omega))]; first | exact k16_7 | simpa using k16_7); have k17_8 : w17.cell? ⟨w3.heap.size, 2, none⟩ = some (.slice B3 k3 m3) := (by rw [hc17 _ _ (by first | omega | (simp; done) | (simp; omega))]; first | exact k16_8 | simpa using k16_8); have k17_9 : w17.cell? ⟨w5.heap.size, 0, none⟩ = some (.bool (decide (z1 < 0))) := (by rw [hc17 _ _ (by first | omega | (simp; done) | (simp; omega))]; first | exact k16_9 | simpa using k16_9); have k17_10 : w17.cell? ⟨w5.heap.size, 1, none⟩ = some (.slice A5 n5 c5) := (by rw [hc17 _ _ (by first | omega | (simp; done) | (simp; omega))]; first | exact k16_10 | simpa using k16_10); have k17_11 : w17.cell? ⟨w5.heap.size, 2, none⟩ = some (.slice B5 k5 m5) := (by rw [hc17 _ _ (by first | omega | (simp; done) | (simp; omega))]; first | exact k16_11 | simpa using k16_11); clear hc17 hf17 k16_0 k16_1 k16_2 k16_3 k16_4 k16_5 k16_6 k16_7 k16_8 k16_9 k16_10 k16_11)
          | (go_at_call 12; (with_reducible refine (impl_RatSign (decide (zf < 0)) A17 B17 n17 c17 k17 m17 (toL zf.natAbs) (toL lf) _ (PairR.here O17.out (by repeat' (first | (with_reducible exact Below.refl _ _) | (with_reducible refine Below.alloc ?_ ?_ _) | (with_reducible refine Below.setCell ?_ ?_ _) | (with_reducible refine below_drewN ?_ _) | (with_reducible refine Below.drew ?_) | (with_reducible refine below_step (by assumption) ?_ ?_) | omega | (simp; done) | (simp; omega)))).sl1 (PairR.here O17.out (by repeat' (first | (with_reducible exact Below.refl _ _) | (with_reducible refine Below.alloc ?_ ?_ _) | (with_reducible refine Below.setCell ?_ ?_ _) | (with_reducible refine below_drewN ?_ _) | (with_reducible refine Below.drew ?_) | (with_reducible refine below_step (by assumption) ?_ ?_) | omega | (simp; done) | (simp; omega)))).sl2).mono ?_); rintro e w18 ⟨rfl, b18⟩; obtain ⟨hc18, hf18⟩ := bxcell b18; have hz18 := b18.size; (try simp at hz18); rw [LSF.out]; have k18_0 : w18.cell? ⟨w1.heap.size, 0, none⟩ = some (.bool (decide (z1 < 0))) := (by rw [hc18 _ _ (by first | omega | (simp; done) | (simp; omega))]; first | exact k17_0 | simpa using k17_0); have k18_1 : w18.cell? ⟨w1.heap.size, 1, none⟩ = some (.slice A1 n1 c1) := (by rw [hc18 _ _ (by first | omega | (simp; done) | (simp; omega))]; first | exact k17_1 | simpa using k17_1); have k18_2 : w18.cell? ⟨w1.heap.size, 2, none⟩ = some (.slice B1 k1 m1) := (by rw [hc18 _ _ (by first | omega | (simp; done) | (simp; omega))]; first | exact k17_2 | simpa using k17_2); have k18_3 : w18.cell? ⟨w2.heap.size, 0, none⟩ = some (.bool (decide (z2 < 0))) := (by rw [hc18 _ _ (by first | omega | (simp; done) | (simp; omega))]; first | exact k17_3 | simpa using k17_3); have k18_4 : w18.cell? ⟨w2.heap.size, 1, none⟩ = some (.slice A2 n2 c2) := (by rw [hc18 _ _ (by first | omega | (simp; done) | (simp; omega))]; first | exact k17_4 | simpa using k17_4); have k18_5 : w18.cell? ⟨w2.heap.size, 2, none⟩ = some (.slice B2 k2 m2) := (by rw [hc18 _ _ (by first | omega | (simp; done) | (simp; omega))]; first | exact k17_5 | simpa using k17_5); have k18_6 : w18.cell? ⟨w3.heap.size, 0, none⟩ = some (.bool (decide (z3 < 0))) := (by rw [hc18 _ _ (by first | omega | (simp; done) | (simp; omega))]; first | exact k17_6 | simpa using k17_6); have k18_7 : w18.cell? ⟨w3.heap.size, 1, none⟩ = some (.slice A3 n3 c3) := (by rw [hc18 _ _ (by first | omega | (simp; done) | (simp; omega))]; first | exact k17_7 | simpa using k17_7); have k18_8 : w18.cell? ⟨w3.heap.size, 2, none⟩ = some (.slice B3 k3 m3) := (by rw [hc18 _ _ (by first | omega | (simp; done) | (simp; omega))]; first | exact k17_8 | simpa using k17_8); have k18_9 : w18.cell? ⟨w5.heap.size, 0, none⟩ = some (.bool (decide (z1 < 0))) := (by rw [hc18 _ _ (by first | omega | (simp; done) | (simp; omega))]; first | exact k17_9 | simpa using k17_9); have k18_10 : w18.cell? ⟨w5.heap.size, 1, none⟩ = some (.slice A5 n5 c5) := (by rw [hc18 _ _ (by first | omega | (simp; done) | (simp; omega))]; first | exact k17_10 | simpa using k17_10); have k18_11 : w18.cell? ⟨w5.heap.size, 2, none⟩ = some (.slice B5 k5 m5) := (by rw [hc18 _ _ (by first | omega | (simp; done) | (simp; omega))]; first | exact k17_11 | simpa using k17_11); clear hc18 hf18 k17_0 k17_1 k17_2 k17_3 k17_4 k17_5 k17_6 k17_7 k17_8 k17_9 k17_10 k17_11)
          | (go_at_call 12; (with_reducible refine (impl_RatSign (decide (z2 < 0)) A2 B2 n2 c2 k2 m2 (toL z2.natAbs) (toL l2) _ (PairR.here R2.out (by repeat' (first | (with_reducible exact Below.refl _ _) | (with_reducible refine Below.alloc ?_ ?_ _) | (with_reducible refine Below.setCell ?_ ?_ _) | (with_reducible refine below_drewN ?_ _) | (with_reducible refine Below.drew ?_) | (with_reducible refine below_step (by assumption) ?_ ?_) | omega | (simp; done) | (simp; omega)))).sl1 (PairR.here R2.out (by repeat' (first | (with_reducible exact Below.refl _ _) | (with_reducible refine Below.alloc ?_ ?_ _) | (with_reducible refine Below.setCell ?_ ?_ _) | (with_reducible refine below_drewN ?_ _) | (with_reducible refine Below.drew ?_) | (with_reducible refine below_step (by assumption) ?_ ?_) | omega | (simp; done) | (simp; omega)))).sl2).mono ?_); rintro e w19 ⟨rfl, b19⟩; obtain ⟨hc19, hf19⟩ := bxcell b19; have hz19 := b19.size; (try simp at hz19); rw [LSS.out]; have k19_0 : w19.cell? ⟨w1.heap.size, 0, none⟩ = some (.bool (decide (z1 < 0))) := (by rw [hc19 _ _ (by first | omega | (simp; done) | (simp; omega))]; first | exact k18_0 | simpa using k18_0); have k19_1 : w19.cell? ⟨w1.heap.size, 1, none⟩ = some (.slice A1 n1 c1) := (by rw [hc19 _ _ (by first | omega | (simp; done) | (simp; omega))]; first | exact k18_1 | simpa using k18_1); have k19_2 : w19.cell? ⟨w1.heap.size, 2, none⟩ = some (.slice B1 k1 m1) := (by rw [hc19 _ _ (by first | omega | (simp; done) | (simp; omega))]; first | exact k18_2 | simpa using k18_2); have k19_3 : w19.cell? ⟨w2.heap.size, 0, none⟩ = some (.bool (decide (z2 < 0))) := (by rw [hc19 _ _ (by first | omega | (simp; done) | (simp; omega))]; first | exact k18_3 | simpa using k18_3); have k19_4 : w19.cell? ⟨w2.heap.size, 1, none⟩ = some (.slice A2 n2 c2) := (by rw [hc19 _ _ (by first | omega | (simp; done) | (simp; omega))]; first | exact k18_4 | simpa using k18_4); have k19_5 : w19.cell? ⟨w2.heap.size, 2, none⟩ = some (.slice B2 k2 m2) := (by rw [hc19 _ _ (by first | omega | (simp; done) | (simp; omega))]; first | exact k18_5 | simpa using k18_5); have k19_6 : w19.cell? ⟨w3.heap.size, 0, none⟩ = some (.bool (decide (z3 < 0))) := (by rw [hc19 _ _ (by first | omega | (simp; done) | (simp; omega))]; first | exact k18_6 | simpa using k18_6); have k19_7 : w19.cell? ⟨w3.heap.size, 1, none⟩ = some (.slice A3 n3 c3) := (by rw [hc19 _ _ (by first | omega | (simp; done) | (simp; omega))]; first | exact k18_7 | simpa using k18_7); have k19_8 : w19.cell? ⟨w3.heap.size, 2, none⟩ = some (.slice B3 k3 m3) := (by rw [hc19 _ _ (by first | omega | (simp; done) | (simp; omega))]; first | exact k18_8 | simpa using k18_8); have k19_9 : w19.cell? ⟨w5.heap.size, 0, none⟩ = some (.bool (decide (z1 < 0))) := (by rw [hc19 _ _ (by first | omega | (simp; done) | (simp; omega))]; first | exact k18_9 | simpa using k18_9); have k19_10 : w19.cell? ⟨w5.heap.size, 1, none⟩ = some (.slice A5 n5 c5) := (by rw [hc19 _ _ (by first | omega | (simp; done) | (simp; omega))]; first | exact k18_10 | simpa using k18_10); have k19_11 : w19.cell? ⟨w5.heap.size, 2, none⟩ = some (.slice B5 k5 m5) := (by rw [hc19 _ _ (by first | omega | (simp; done) | (simp; omega))]; first | exact k18_11 | simpa using k18_11); clear hc19 hf19 k18_0 k18_1 k18_2 k18_3 k18_4 k18_5 k18_6 k18_7 k18_8 k18_9 k18_10 k18_11; by_cases hk0 : kk = 0; (focus (obtain rfl := hk0; go_wp2_with fail; refine shut_go (by assumption) ?_ (fun hS => ?_); (focus exact ⟨k19_0, k19_1, k19_2, k19_3, k19_4, k19_5, k19_6, k19_7, k19_8, k19_9, k19_10, k19_11⟩); refine held_step (i := 43) (d := 66) (v := .bool true) (by kernel_rfl) (by rfl) (fun _ _ => by rfl) (by kernel_rfl) (by kernel_rfl) (by kernel_rfl) (fun _ _ _ h => h) hS ?_; simp only [Act.put, List.setIfInBounds_toArray, List.set_cons_zero, List.set_cons_succ]; refine held_step (i := 44) (d := 67) (v := .bool true) (by kernel_rfl) (by rfl) (fun _ _ => by rfl) (by kernel_rfl) (by kernel_rfl) (by kernel_rfl) (fun _ _ _ h => h) hS ?_; simp only [Act.put, List.setIfInBounds_toArray, List.set_cons_zero, List.set_cons_succ]; refine held_skip (i := 45) (d := 68) (by kernel_rfl) (by rfl) (by kernel_rfl) (by kernel_rfl) (by kernel_rfl) (fun _ _ _ h => h) hS ?_; simp only [Act.put, List.setIfInBounds_toArray, List.set_cons_zero, List.set_cons_succ]; refine held_skip (i := 46) (d := 69) (by kernel_rfl) (by rfl) (by kernel_rfl) (by kernel_rfl) (by kernel_rfl) (fun _ _ _ h => h) hS ?_; simp only [Act.put, List.setIfInBounds_toArray, List.set_cons_zero, List.set_cons_succ]; refine held_skip (i := 47) (d := 70) (by kernel_rfl) (by rfl) (by kernel_rfl) (by kernel_rfl) (by kernel_rfl) (fun _ _ _ h => h) hS ?_; simp only [Act.put, List.setIfInBounds_toArray, List.set_cons_zero, List.set_cons_succ]; refine held_skip (i := 48) (d := 71) (by kernel_rfl) (by rfl) (by kernel_rfl) (by kernel_rfl) (by kernel_rfl) (fun _ _ _ h => h) hS ?_; simp only [Act.put, List.setIfInBounds_toArray, List.set_cons_zero, List.set_cons_succ]; refine held_skip (i := 49) (d := 72) (by kernel_rfl) (by rfl) (by kernel_rfl) (by kernel_rfl) (by kernel_rfl) (fun _ _ _ h => h) hS ?_; simp only [Act.put, List.setIfInBounds_toArray, List.set_cons_zero, List.set_cons_succ]; refine held_skip (i := 50) (d := 73) (by kernel_rfl) (by rfl) (by kernel_rfl) (by kernel_rfl) (by kernel_rfl) (fun _ _ _ h => h) hS ?_; simp only [Act.put, List.setIfInBounds_toArray, List.set_cons_zero, List.set_cons_succ]; refine held_skip (i := 51) (d := 74) (by kernel_rfl) (by rfl) (by kernel_rfl) (by kernel_rfl) (by kernel_rfl) (fun _ _ _ h => h) hS ?_; simp only [Act.put, List.setIfInBounds_toArray, List.set_cons_zero, List.set_cons_succ]; refine held_step (i := 52) (d := 75) (v := .bool true) (by kernel_rfl) (by rfl) (fun _ _ => by rfl) (by kernel_rfl) (by kernel_rfl) (by kernel_rfl) (fun _ _ _ h => h) hS ?_; simp only [Act.put, List.setIfInBounds_toArray, List.set_cons_zero, List.set_cons_succ]; refine held_step (i := 53) (d := 76) (v := .bool true) (by kernel_rfl) (by rfl) (fun _ _ => by rfl) (by kernel_rfl) (by kernel_rfl) (by kernel_rfl) (fun _ _ _ h => h) hS ?_; simp only [Act.put, List.setIfInBounds_toArray, List.set_cons_zero, List.set_cons_succ]; refine held_step (i := 54) (d := 2) (v := .bool true) (by kernel_rfl) (by rfl) (fun _ _ => by rfl) (by kernel_rfl) (by kernel_rfl) (by kernel_rfl) (fun _ _ _ h => h) hS ?_; simp only [Act.put, List.setIfInBounds_toArray, List.set_cons_zero, List.set_cons_succ]; refine wpAnyH_done (by kernel_rfl) ?_ _; refine NoPanic.normal ?_; go_wp2; go_ret; exact ⟨rfl, (by repeat' (first | (with_reducible exact Below.refl _ _) | (with_reducible refine Below.alloc ?_ ?_ _) | (with_reducible refine Below.setCell ?_ ?_ _) | (with_reducible refine below_drewN ?_ _) | (with_reducible refine Below.drew ?_) | (with_reducible refine below_step (by assumption) ?_ ?_) | omega | (simp; done) | (simp; omega)))⟩)); have hk1 : (kk == 0) = false := beq_eq_false_iff_ne.2 hk0; obtain ⟨zg, lg, hv1, hv2⟩ := rats_divZ HQ1.out HQ2.out (rats_signZ HQ2.out LSS.out hk0); have LDV := Lib.hid hv1; have LMV := Lib.hid hv2; clear hv1 hv2)
          | (go_at_call 13; (with_reducible refine ((impl_RatDiv (decide (z1 < 0)) (decide (z2 < 0)) A1 B1 A2 B2 n1 c1 k1 m1 n2 c2 k2 m2 (toL z1.natAbs) (toL l1) (toL z2.natAbs) (toL l2) _ (PairR.here R1.out (by repeat' (first | (with_reducible exact Below.refl _ _) | (with_reducible refine Below.alloc ?_ ?_ _) | (with_reducible refine Below.setCell ?_ ?_ _) | (with_reducible refine below_drewN ?_ _) | (with_reducible refine Below.drew ?_) | (with_reducible refine below_step (by assumption) ?_ ?_) | omega | (simp; done) | (simp; omega)))).sl1 (PairR.here R1.out (by repeat' (first | (with_reducible exact Below.refl _ _) | (with_reducible refine Below.alloc ?_ ?_ _) | (with_reducible refine Below.setCell ?_ ?_ _) | (with_reducible refine below_drewN ?_ _) | (with_reducible refine Below.drew ?_) | (with_reducible refine below_step (by assumption) ?_ ?_) | omega | (simp; done) | (simp; omega)))).sl2 (PairR.here R2.out (by repeat' (first | (with_reducible exact Below.refl _ _) | (with_reducible refine Below.alloc ?_ ?_ _) | (with_reducible refine Below.setCell ?_ ?_ _) | (with_reducible refine below_drewN ?_ _) | (with_reducible refine Below.drew ?_) | (with_reducible refine below_step (by assumption) ?_ ?_) | omega | (simp; done) | (simp; omega)))).sl1 (PairR.here R2.out (by repeat' (first | (with_reducible exact Below.refl _ _) | (with_reducible refine Below.alloc ?_ ?_ _) | (with_reducible refine Below.setCell ?_ ?_ _) | (with_reducible refine below_drewN ?_ _) | (with_reducible refine Below.drew ?_) | (with_reducible refine below_step (by assumption) ?_ ?_) | omega | (simp; done) | (simp; omega)))).sl2).mono (fun _ _ h => retq_z LDV.out h)).mono ?_); rintro e w20 ⟨A20, n20, c20, B20, k20, m20, rfl, o20, b20⟩; obtain ⟨hc20, hf20⟩ := bxcell b20; have hz20 := b20.size; (try simp at hz20); have O20 := Lib.hid o20; clear o20; have k20_0 : w20.cell? ⟨w1.heap.size, 0, none⟩ = some (.bool (decide (z1 < 0))) := (by rw [hc20 _ _ (by first | omega | (simp; done) | (simp; omega))]; first | exact k19_0 | simpa using k19_0); have k20_1 : w20.cell? ⟨w1.heap.size, 1, none⟩ = some (.slice A1 n1 c1) := (by rw [hc20 _ _ (by first | omega | (simp; done) | (simp; omega))]; first | exact k19_1 | simpa using k19_1); have k20_2 : w20.cell? ⟨w1.heap.size, 2, none⟩ = some (.slice B1 k1 m1) := (by rw [hc20 _ _ (by first | omega | (simp; done) | (simp; omega))]; first | exact k19_2 | simpa using k19_2); have k20_3 : w20.cell? ⟨w2.heap.size, 0, none⟩ = some (.bool (decide (z2 < 0))) := (by rw [hc20 _ _ (by first | omega | (simp; done) | (simp; omega))]; first | exact k19_3 | simpa using k19_3); have k20_4 : w20.cell? ⟨w2.heap.size, 1, none⟩ = some (.slice A2 n2 c2) := (by rw [hc20 _ _ (by first | omega | (simp; done) | (simp; omega))]; first | exact k19_4 | simpa using k19_4); have k20_5 : w20.cell? ⟨w2.heap.size, 2, none⟩ = some (.slice B2 k2 m2) := (by rw [hc20 _ _ (by first | omega | (simp; done) | (simp; omega))]; first | exact k19_5 | simpa using k19_5); have k20_6 : w20.cell? ⟨w3.heap.size, 0, none⟩ = some (.bool (decide (z3 < 0))) := (by rw [hc20 _ _ (by first | omega | (simp; done) | (simp; omega))]; first | exact k19_6 | simpa using k19_6); have k20_7 : w20.cell? ⟨w3.heap.size, 1, none⟩ = some (.slice A3 n3 c3) := (by rw [hc20 _ _ (by first | omega | (simp; done) | (simp; omega))]; first | exact k19_7 | simpa using k19_7); have k20_8 : w20.cell? ⟨w3.heap.size, 2, none⟩ = some (.slice B3 k3 m3) := (by rw [hc20 _ _ (by first | omega | (simp; done) | (simp; omega))]; first | exact k19_8 | simpa using k19_8); have k20_9 : w20.cell? ⟨w5.heap.size, 0, none⟩ = some (.bool (decide (z1 < 0))) := (by rw [hc20 _ _ (by first | omega | (simp; done) | (simp; omega))]; first | exact k19_9 | simpa using k19_9); have k20_10 : w20.cell? ⟨w5.heap.size, 1, none⟩ = some (.slice A5 n5 c5) := (by rw [hc20 _ _ (by first | omega | (simp; done) | (simp; omega))]; first | exact k19_10 | simpa using k19_10); have k20_11 : w20.cell? ⟨w5.heap.size, 2, none⟩ = some (.slice B5 k5 m5) := (by rw [hc20 _ _ (by first | omega | (simp; done) | (simp; omega))]; first | exact k19_11 | simpa using k19_11); clear hc20 hf20 k19_0 k19_1 k19_2 k19_3 k19_4 k19_5 k19_6 k19_7 k19_8 k19_9 k19_10 k19_11)
          | (go_at_call 8; (with_reducible refine ((impl_RatMul (decide (zg < 0)) (decide (z2 < 0)) A20 B20 A2 B2 n20 c20 k20 m20 n2 c2 k2 m2 (toL zg.natAbs) (toL lg) (toL z2.natAbs) (toL l2) _ (PairR.here O20.out (by repeat' (first | (with_reducible exact Below.refl _ _) | (with_reducible refine Below.alloc ?_ ?_ _) | (with_reducible refine Below.setCell ?_ ?_ _) | (with_reducible refine below_drewN ?_ _) | (with_reducible refine Below.drew ?_) | (with_reducible refine below_step (by assumption) ?_ ?_) | omega | (simp; done) | (simp; omega)))).sl1 (PairR.here O20.out (by repeat' (first | (with_reducible exact Below.refl _ _) | (with_reducible refine Below.alloc ?_ ?_ _) | (with_reducible refine Below.setCell ?_ ?_ _) | (with_reducible refine below_drewN ?_ _) | (with_reducible refine Below.drew ?_) | (with_reducible refine below_step (by assumption) ?_ ?_) | omega | (simp; done) | (simp; omega)))).sl2 (PairR.here R2.out (by repeat' (first | (with_reducible exact Below.refl _ _) | (with_reducible refine Below.alloc ?_ ?_ _) | (with_reducible refine Below.setCell ?_ ?_ _) | (with_reducible refine below_drewN ?_ _) | (with_reducible refine Below.drew ?_) | (with_reducible refine below_step (by assumption) ?_ ?_) | omega | (simp; done) | (simp; omega)))).sl1 (PairR.here R2.out (by repeat' (first | (with_reducible exact Below.refl _ _) | (with_reducible refine Below.alloc ?_ ?_ _) | (with_reducible refine Below.setCell ?_ ?_ _) | (with_reducible refine below_drewN ?_ _) | (with_reducible refine Below.drew ?_) | (with_reducible refine below_step (by assumption) ?_ ?_) | omega | (simp; done) | (simp; omega)))).sl2).mono (fun _ _ h => retq_z LMV.out h)).mono ?_); rintro e w21 ⟨A21, n21, c21, B21, k21, m21, rfl, o21, b21⟩; obtain ⟨hc21, hf21⟩ := bxcell b21; have hz21 := b21.size; (try simp at hz21); have O21 := Lib.hid o21; clear o21; have k21_0 : w21.cell? ⟨w1.heap.size, 0, none⟩ = some (.bool (decide (z1 < 0))) := (by rw [hc21 _ _ (by first | omega | (simp; done) | (simp; omega))]; first | exact k20_0 | simpa using k20_0); have k21_1 : w21.cell? ⟨w1.heap.size, 1, none⟩ = some (.slice A1 n1 c1) := (by rw [hc21 _ _ (by first | omega | (simp; done) | (simp; omega))]; first | exact k20_1 | simpa using k20_1); have k21_2 : w21.cell? ⟨w1.heap.size, 2, none⟩ = some (.slice B1 k1 m1) := (by rw [hc21 _ _ (by first | omega | (simp; done) | (simp; omega))]; first | exact k20_2 | simpa using k20_2); have k21_3 : w21.cell? ⟨w2.heap.size, 0, none⟩ = some (.bool (decide (z2 < 0))) := (by rw [hc21 _ _ (by first | omega | (simp; done) | (simp; omega))]; first | exact k20_3 | simpa using k20_3); have k21_4 : w21.cell? ⟨w2.heap.size, 1, none⟩ = some (.slice A2 n2 c2) := (by rw [hc21 _ _ (by first | omega | (simp; done) | (simp; omega))]; first | exact k20_4 | simpa using k20_4); have k21_5 : w21.cell? ⟨w2.heap.size, 2, none⟩ = some (.slice B2 k2 m2) := (by rw [hc21 _ _ (by first | omega | (simp; done) | (simp; omega))]; first | exact k20_5 | simpa using k20_5); have k21_6 : w21.cell? ⟨w3.heap.size, 0, none⟩ = some (.bool (decide (z3 < 0))) := (by rw [hc21 _ _ (by first | omega | (simp; done) | (simp; omega))]; first | exact k20_6 | simpa using k20_6); have k21_7 : w21.cell? ⟨w3.heap.size, 1, none⟩ = some (.slice A3 n3 c3) := (by rw [hc21 _ _ (by first | omega | (simp; done) | (simp; omega))]; first | exact k20_7 | simpa using k20_7); have k21_8 : w21.cell? ⟨w3.heap.size, 2, none⟩ = some (.slice B3 k3 m3) := (by rw [hc21 _ _ (by first | omega | (simp; done) | (simp; omega))]; first | exact k20_8 | simpa using k20_8); have k21_9 : w21.cell? ⟨w5.heap.size, 0, none⟩ = some (.bool (decide (z1 < 0))) := (by rw [hc21 _ _ (by first | omega | (simp; done) | (simp; omega))]; first | exact k20_9 | simpa using k20_9); have k21_10 : w21.cell? ⟨w5.heap.size, 1, none⟩ = some (.slice A5 n5 c5) := (by rw [hc21 _ _ (by first | omega | (simp; done) | (simp; omega))]; first | exact k20_10 | simpa using k20_10); have k21_11 : w21.cell? ⟨w5.heap.size, 2, none⟩ = some (.slice B5 k5 m5) := (by rw [hc21 _ _ (by first | omega | (simp; done) | (simp; omega))]; first | exact k20_11 | simpa using k20_11); clear hc21 hf21 k20_0 k20_1 k20_2 k20_3 k20_4 k20_5 k20_6 k20_7 k20_8 k20_9 k20_10 k20_11)
          | (go_at_call 7; (with_reducible refine (impl_RatEqual (decide (z1 < 0)) (decide (z1 < 0)) A21 B21 A1 B1 n21 c21 k21 m21 n1 c1 k1 m1 (toL z1.natAbs) (toL l1) (toL z1.natAbs) (toL l1) _ (PairR.here O21.out (by repeat' (first | (with_reducible exact Below.refl _ _) | (with_reducible refine Below.alloc ?_ ?_ _) | (with_reducible refine Below.setCell ?_ ?_ _) | (with_reducible refine below_drewN ?_ _) | (with_reducible refine Below.drew ?_) | (with_reducible refine below_step (by assumption) ?_ ?_) | omega | (simp; done) | (simp; omega)))).sl1 (PairR.here O21.out (by repeat' (first | (with_reducible exact Below.refl _ _) | (with_reducible refine Below.alloc ?_ ?_ _) | (with_reducible refine Below.setCell ?_ ?_ _) | (with_reducible refine below_drewN ?_ _) | (with_reducible refine Below.drew ?_) | (with_reducible refine below_step (by assumption) ?_ ?_) | omega | (simp; done) | (simp; omega)))).sl2 (PairR.here R1.out (by repeat' (first | (with_reducible exact Below.refl _ _) | (with_reducible refine Below.alloc ?_ ?_ _) | (with_reducible refine Below.setCell ?_ ?_ _) | (with_reducible refine below_drewN ?_ _) | (with_reducible refine Below.drew ?_) | (with_reducible refine below_step (by assumption) ?_ ?_) | omega | (simp; done) | (simp; omega)))).sl1 (PairR.here R1.out (by repeat' (first | (with_reducible exact Below.refl _ _) | (with_reducible refine Below.alloc ?_ ?_ _) | (with_reducible refine Below.setCell ?_ ?_ _) | (with_reducible refine below_drewN ?_ _) | (with_reducible refine Below.drew ?_) | (with_reducible refine below_step (by assumption) ?_ ?_) | omega | (simp; done) | (simp; omega)))).sl2).mono ?_); rintro e w22 ⟨rfl, b22⟩; obtain ⟨hc22, hf22⟩ := bxcell b22; have hz22 := b22.size; (try simp at hz22); rw [rats_eqZ]; have k22_0 : w22.cell? ⟨w1.heap.size, 0, none⟩ = some (.bool (decide (z1 < 0))) := (by rw [hc22 _ _ (by first | omega | (simp; done) | (simp; omega))]; first | exact k21_0 | simpa using k21_0); have k22_1 : w22.cell? ⟨w1.heap.size, 1, none⟩ = some (.slice A1 n1 c1) := (by rw [hc22 _ _ (by first | omega | (simp; done) | (simp; omega))]; first | exact k21_1 | simpa using k21_1); have k22_2 : w22.cell? ⟨w1.heap.size, 2, none⟩ = some (.slice B1 k1 m1) := (by rw [hc22 _ _ (by first | omega | (simp; done) | (simp; omega))]; first | exact k21_2 | simpa using k21_2); have k22_3 : w22.cell? ⟨w2.heap.size, 0, none⟩ = some (.bool (decide (z2 < 0))) := (by rw [hc22 _ _ (by first | omega | (simp; done) | (simp; omega))]; first | exact k21_3 | simpa using k21_3); have k22_4 : w22.cell? ⟨w2.heap.size, 1, none⟩ = some (.slice A2 n2 c2) := (by rw [hc22 _ _ (by first | omega | (simp; done) | (simp; omega))]; first | exact k21_4 | simpa using k21_4); have k22_5 : w22.cell? ⟨w2.heap.size, 2, none⟩ = some (.slice B2 k2 m2) := (by rw [hc22 _ _ (by first | omega | (simp; done) | (simp; omega))]; first | exact k21_5 | simpa using k21_5); have k22_6 : w22.cell? ⟨w3.heap.size, 0, none⟩ = some (.bool (decide (z3 < 0))) := (by rw [hc22 _ _ (by first | omega | (simp; done) | (simp; omega))]; first | exact k21_6 | simpa using k21_6); have k22_7 : w22.cell? ⟨w3.heap.size, 1, none⟩ = some (.slice A3 n3 c3) := (by rw [hc22 _ _ (by first | omega | (simp; done) | (simp; omega))]; first | exact k21_7 | simpa using k21_7); have k22_8 : w22.cell? ⟨w3.heap.size, 2, none⟩ = some (.slice B3 k3 m3) := (by rw [hc22 _ _ (by first | omega | (simp; done) | (simp; omega))]; first | exact k21_8 | simpa using k21_8); have k22_9 : w22.cell? ⟨w5.heap.size, 0, none⟩ = some (.bool (decide (z1 < 0))) := (by rw [hc22 _ _ (by first | omega | (simp; done) | (simp; omega))]; first | exact k21_9 | simpa using k21_9); have k22_10 : w22.cell? ⟨w5.heap.size, 1, none⟩ = some (.slice A5 n5 c5) := (by rw [hc22 _ _ (by first | omega | (simp; done) | (simp; omega))]; first | exact k21_10 | simpa using k21_10); have k22_11 : w22.cell? ⟨w5.heap.size, 2, none⟩ = some (.slice B5 k5 m5) := (by rw [hc22 _ _ (by first | omega | (simp; done) | (simp; omega))]; first | exact k21_11 | simpa using k21_11); clear hc22 hf22 k21_0 k21_1 k21_2 k21_3 k21_4 k21_5 k21_6 k21_7 k21_8 k21_9 k21_10 k21_11))
  all_goals
    go_wp2
    go_ret
    exact ⟨rfl, (by repeat' (first | (with_reducible exact Below.refl _ _) | (with_reducible refine Below.alloc ?_ ?_ _) | (with_reducible refine Below.setCell ?_ ?_ _) | (with_reducible refine below_drewN ?_ _) | (with_reducible refine Below.drew ?_) | (with_reducible refine below_step (by assumption) ?_ ?_) | omega | (simp; done) | (simp; omega)))⟩
end Go.Proofs.YticekjagmcphbaaGreatDoor

namespace Go.Proofs.YticekjagmcphbaaGreatDoor
open Go.ChangeShapes Go.WideShapes Go.ChangeAt Go.RowKit

abbrev laid3 : List (String × DataW Unit) := Rows.fnRatsRow.laid
theorem door_met3 (os : Os) (args : Array Value) : laidMetH Tryz.prog laid3 ((World.doorLaid Tryz.prog 4000 os).forCall (fun _ _ => 0) ⟨#[], args, []⟩).memory :=
  laidMetH_of_parts3 (fuel := 8) (laidMet_of_run' 8 (by kernel_rfl) (by kernel_rfl)) (by kernel_rfl) (by kernel_rfl)
theorem tab_of_laid3 {W : World} (h : laidMetH Tryz.prog laid3 W) : Tab W := by
  rw [MakeChecks.laidMetH_plain _ _ _ (by kernel_rfl)] at h
  exact Lib.tabIs_of_head (g := 0) (t := 117) (by kernel_rfl) (by kernel_rfl) Tryz.underlying117 Tryz.underlying74 (by kernel_rfl) (by kernel_rfl) h.tail.tail
end Go.Proofs.YticekjagmcphbaaGreatDoor

namespace Go.Proofs.YticekjagmcphbaaGreatDoor
open Go.ChangeShapes Go.WideShapes Go.ChangeAt Go.RowKit

theorem fnRats.own : ownKnob Tryz.prog.godebug = none := by kernel_rfl
theorem fnRats.laidOut : laidOutB Tryz.prog = true := by kernel_rfl
set_option linter.unusedVariables false in
set_option maxRecDepth 100000 in
theorem fnRats.lifted (os : Os) (started : os.Started) (H : Type) (enc : TypeId × Value → H) :
    ReturnsInHanded {} Tryz.checked os 3 .any (fun w args => (Rows.fnRatsSpec.pre enc Tryz.prog Tryz.f3 [] false w args ∧ laidMetH Tryz.prog laid3 w) ∧ sizedMet enc Tryz.prog Tryz.f3 (OpenSpec.ofChange Rows.fnRatsSpec) false w args)
      (Rows.fnRatsSpec.post enc Tryz.prog Tryz.f3 false true false false) := by
  refine returnsInHanded_of_change_and (C := Tryz.checked) (X := fun w _ => laidMetH Tryz.prog laid3 w) (fun _ _ _ hh h => h.of_heap hh) fnRats.own started (by kernel_rfl) Tryz.func3
    (ChangeSpec.witness_shaped (enc := enc) (C := Tryz.checked) (os := os) (X := fun w _ => laidMetH Tryz.prog laid3 w) false (World.doorLaid Tryz.prog 4000 os) #[.slice none 0 0] 8 rfl (World.shaped_of_RefB (by kernel_rfl) (by kernel_rfl)) (by kernel_rfl) (by kernel_rfl) (by kernel_rfl) (door_met3 os _)) ?_
  intro W base args ds gs before hval0 hW _ _ hL _
  have hval : ∀ (j : Nat) t v, Tryz.f3.params[j]? = some t → args[j]? = some v → Value.okWide Tryz.prog W .any base t v := hval0
  have hW' := hW
  obtain ⟨p, q, hA0, hV, rfl, hfz, hnd⟩ := hW
  have hA : DataW.TrodAll enc Tryz.prog W 0 (fun _ => true) true Tryz.f3.params.toList args.toList ds p := hA0
  rw [Tryz.params3] at hA hval
  obtain ⟨v0, vs0, d0, ds0, p0, q0, hargs, rfl, rfl, h0, r0⟩ := trodAll_cons hA
  obtain ⟨rfl, rfl, rfl⟩ := trodAll_nil r0
  obtain rfl : args = #[v0] := by cases args; simp_all
  obtain ⟨rfl, rfl⟩ := trodVars_none hV
  have k0 := h0
  have lt0 : ∀ x ∈ p0, x.block < W.heap.size := by obtain ⟨m, hm⟩ := k0; exact DataW.trod_lt m _ _ _ hm
  obtain ⟨x0, s0⟩ := open_bytesL Tryz.underlying22 Tryz.underlying5 (by kernel_rfl) (hval 0 22 v0 rfl rfl) h0
  clear hA0 hval0
  refine (walk_FnRats W (tab_of_laid3 hL) v0 x0 s0).mono fun e W' ⟨he, bel⟩ => ?_
  subst he
  exact ⟨_, rfl, _, _, _, [], _, [], hW', trodAll_mk1 (shut_bool Tryz.underlying4 _), (trodAll_cons_mk (Below.trod fnRats.laidOut (by kernel_rfl) (of_decide_eq_true (by kernel_rfl)) k0 bel lt0) trodAll_mk0), rfl, bel.frame _, fun h => by cases h⟩
theorem fnRats.over : Rows.fnRatsRow.holds Tryz.pinned (OpenSpec.ofChange Rows.fnRatsSpec) :=
  OpenClaim.holds_of_wide 3 Tryz.f3 rfl rfl rfl rfl rfl rfl rfl ⟨rfl, rfl, rfl, rfl, rfl⟩ rfl rfl rfl rfl rfl (by kernel_rfl) Tryz.func3 (by kernel_rfl)
    (of_decide_eq_true (by kernel_rfl)) (by unfold Func.isWrapper; first | (rw [if_pos (by decide +kernel)]; kernel_rfl) | (rw [if_neg (by decide +kernel)]; exact ⟨rfl, rfl⟩))
    (fun os started H enc _ => fnRats.lifted os started H enc)
/-- THE STATEMENT: the tied card. -/
theorem fnRats_holds : Rows.FnRatsCardSaid :=
  Claim7.holds_tied_plain_at .later [] [.data, .data, .data] true Rows.fnRatsCard.stood.harness Rows.fnRatsCard.stood.looks
    fnRats.over (fun _ h => by cases h) (by kernel_rfl) (fun _ h => by cases h) fnRats_row_tie rfl ⟨rfl, rfl⟩ (by kernel_rfl) rfl
    (fun f fn hf hfn => by
      obtain rfl : f = 3 := Option.some.inj ((show Tryz.prog.funcNamed Rows.fnRatsRow.func = some 3 by kernel_rfl).symm.trans hf) |>.symm
      obtain rfl : fn = Tryz.f3 := (Option.some.inj (Tryz.func3.symm.trans hfn)).symm
      exact ⟨by kernel_rfl, fun j t ht => by
        rw [Tryz.params3] at ht
        have hm : t ∈ ([22] : List TypeId) := by simpa using Array.mem_of_getElem? ht
        have hall : (([22] : List TypeId).all fun u => !Tryz.prog.wantsStandIn u) = true := by kernel_rfl
        exact (show Tryz.prog.wantsStandIn t = false by simpa using List.all_eq_true.1 hall t hm)⟩)
    (by kernel_rfl)
#print axioms fnRats_holds
end Go.Proofs.YticekjagmcphbaaGreatDoor
