/-
  Contracts: FormatInt of both packages. Written by an AI agent.
-/
import Derived.Test.YticekjagmcphbaaDoorStrs2
import Derived.Test.YticekjagmcphbaaDoorShelf
import Derived.Lib.ItoaLen
import Derived.Deep.RegionWith
namespace Go.Proofs.YticekjagmcphbaaDoor
open Go.RowKit

theorem conv_byte (w : World) (g : Nat) (d : Int) (h0 : 0 ≤ d) (h1 : d ≤ 255) (hc : w.cell? ⟨g, 0, none⟩ = some (.int .u8 d)) :
    (convert 52 9 (.slice (some ⟨g, 0, none⟩) 1 1)).run Tryd.prog w = .ok (.string ⟨[UInt8.ofNat d.toNat].toArray⟩) w := by
  refine run_convert_bytes_back (P := Tryd.prog) _ 52 9 5 ⟨g, 0, none⟩ 1 [UInt8.ofNat d.toNat] Tryd.underlying52 Tryd.underlying5 Tryd.underlying9 (fun j hj => ?_)
  have hj0 : j = 0 := by simpa using hj
  subst hj0
  have ha : (⟨g, 0, none⟩ : Addr).add 0 = ⟨g, 0, none⟩ := by unfold Addr.add; split <;> simp_all
  rw [ha, hc]
  congr 2
  show d = ((UInt8.ofNat d.toNat).toNat : Int)
  rw [UInt8.toNat_ofNat_of_lt' (by simp [UInt8.size]; omega)]
  omega

theorem itoa_neg1 {n : Int} (h0 : n < 0) (h1 : -10 < n) : Lib.itoa n = 45 :: [UInt8.ofNat (48 - n).toNat] := by
  unfold Lib.itoa
  rw [if_pos h0, dec_small (by omega)]
  congr 3
  omega
theorem itoa_neg2 {n q r : Int} (h0 : n ≤ -10) (hq : n.tdiv 10 = q) (hr : n.tmod 10 = r) : Lib.itoa n = Lib.itoa q ++ [UInt8.ofNat (48 - r).toNat] ∧ q < 0 ∧ n < q ∧ -9 ≤ r ∧ r ≤ 0 := by
  obtain ⟨m, rfl⟩ : ∃ m : Nat, n = -(m : Int) := ⟨n.natAbs, by omega⟩
  have e1 : (-(m : Int)).tdiv 10 = -((m / 10 : Nat) : Int) := by rw [Int.neg_tdiv]; rfl
  have e2 : (-(m : Int)).tmod 10 = -((m % 10 : Nat) : Int) := by rw [Int.neg_tmod]; rfl
  rw [e1] at hq
  rw [e2] at hr
  subst hq hr
  refine ⟨?_, by omega, by omega, by omega, by omega⟩
  unfold Lib.itoa
  rw [if_pos (by omega), if_pos (by omega), show (-(m : Int)).natAbs = m by omega, show (-((m / 10 : Nat) : Int)).natAbs = m / 10 by omega, dec_big (n := m) (by omega), List.cons_append]
  congr 4
  omega
theorem itoa_pos {n : Int} (h : ¬ n < 0) : Lib.itoa n = Lib.decDigits n.toNat := by unfold Lib.itoa; rw [if_neg h]
theorem one_size (x : UInt8) : (⟨[x].toArray⟩ : ByteArray).size = 1 := rfl

set_option maxHeartbeats 4000000 in
theorem spec_FormatInt_neg : ∀ (k : Nat) (n : Int) (w : World), n.natAbs < k → n < 0 → -9223372036854775808 ≤ n →
    Calls Tryd.prog 12 #[.int .i64 n] w fun e w' => e = .returned (.string ⟨(Lib.itoa n).toArray⟩) ∧ Below w.heap.size w w' := by
  intro k
  induction k with
  | zero => intro n w h; omega
  | succ k ih =>
    intro n w hk h0 h1
    by_cases hs : -10 < n
    · have HR := Lib.hid (itoa_neg1 h0 hs)
      have hq : (n.tdiv 10 == 0) = true := by
        obtain ⟨m, rfl⟩ : ∃ m : Nat, n = -(m : Int) := ⟨n.natAbs, by omega⟩
        rw [Int.neg_tdiv, show ((m : Int).tdiv 10) = ((m / 10 : Nat) : Int) from rfl]
        rw [beq_iff_eq]
        omega
      have hcv := fun W g => conv_byte W g (48 - n) (by omega) (by omega)
      obtain ⟨X, hX⟩ : ∃ X : ByteArray, X = ⟨[UInt8.ofNat (48 - n).toNat].toArray⟩ := ⟨_, rfl⟩
      have hXs : X.size = 1 := by rw [hX]; rfl
      have HX := Lib.hid hX
      rw [← hX] at hcv
      clear hX
      have HRR : Hid ((⟨(Lib.itoa n).toArray⟩ : ByteArray) = ⟨#[45]⟩ ++ X) := Lib.hid (by rw [HX.out, HR.out]; rfl)
      clear ih hk
      go_enter Tryd.func12, Tryd.ntmps12
      go_wp2
      go_ret
      exact ⟨by rw [HRR.out]; rfl, (by repeat' (first | (with_reducible exact Below.refl _ _) | (with_reducible refine Below.alloc ?_ ?_ _) | (with_reducible refine Below.setCell ?_ ?_ _) | (with_reducible refine below_drewN ?_ _) | (with_reducible refine Below.drew ?_) | (with_reducible refine below_step (by assumption) ?_ ?_) | omega | (simp; done) | (simp; omega)))⟩
    · obtain ⟨q, hq⟩ : ∃ q, n.tdiv 10 = q := ⟨_, rfl⟩
      obtain ⟨r, hr⟩ : ∃ r, n.tmod 10 = r := ⟨_, rfl⟩
      obtain ⟨e1, e2, e3, e4, e5⟩ := itoa_neg2 (by omega) hq hr
      have hq0 : (q == 0) = false := beq_eq_false_iff_ne.2 (by omega)
      have hcv := fun W g => conv_byte W g (48 - r) (by omega) (by omega)
      obtain ⟨X, hX⟩ : ∃ X : ByteArray, X = ⟨[UInt8.ofNat (48 - r).toNat].toArray⟩ := ⟨_, rfl⟩
      have hXs : X.size = 1 := by rw [hX]; rfl
      have HX := Lib.hid hX
      rw [← hX] at hcv
      clear hX
      obtain ⟨R, hR⟩ : ∃ R : ByteArray, R = ⟨(Lib.itoa q).toArray⟩ := ⟨_, rfl⟩
      have hRs : R.size ≤ 21 := by rw [hR]; exact Lib.itoa_length_le q (by omega) (by omega)
      have HRR : Hid ((⟨(Lib.itoa n).toArray⟩ : ByteArray) = R ++ X) := Lib.hid (by rw [HX.out, hR, bytes_cat, e1])
      have hw1 := IntWalk.i64_in (q) (by omega)
      have hw2 := IntWalk.i64_in (48 - r) (by omega)
      have hw3 := IntWalk.u8_in (48 - r) (by omega)
      have HC := fun W => Lib.hid (ih q W (by omega) e2 (by omega))
      rw [← hR] at HC
      clear ih hk hR e1
      go_enter Tryd.func12, Tryd.ntmps12
      go_wp2_with fail
      go_region_with (go_at_call 12; refine (HC _).out.mono ?_; rintro e w1 ⟨rfl, b1⟩; have hz1 := b1.size; (try simp at hz1); obtain ⟨hc1, hf1⟩ := bxcell b1; (try have q1 := fun o => hc1 (w.heap.size) o (by first | omega | (simp; done) | (simp; omega))))
      all_goals
        go_wp2
        go_ret
        exact ⟨by rw [HRR.out]; rfl, (by repeat' (first | (with_reducible exact Below.refl _ _) | (with_reducible refine Below.alloc ?_ ?_ _) | (with_reducible refine Below.setCell ?_ ?_ _) | (with_reducible refine below_drewN ?_ _) | (with_reducible refine Below.drew ?_) | (with_reducible refine below_step (by assumption) ?_ ?_) | omega | (simp; done) | (simp; omega)))⟩

set_option maxHeartbeats 2000000 in
theorem spec_FormatInt (n : Int) (w : World) (h0 : -9223372036854775808 ≤ n) (h1 : n ≤ 9223372036854775807) :
    Calls Tryd.prog 12 #[.int .i64 n] w fun e w' => e = .returned (.string ⟨(Lib.itoa n).toArray⟩) ∧ Below w.heap.size w w' := by
  by_cases hn : n < 0
  · exact spec_FormatInt_neg _ n w (Nat.lt_succ_self _) hn h0
  have HI := Lib.hid (itoa_pos hn)
  obtain ⟨m, rfl⟩ := Int.eq_ofNat_of_zero_le (show 0 ≤ n by omega)
  rw [Int.toNat_natCast] at HI
  have HL := Lib.hid (dec_len (k := 18) (n := m) (by omega))
  have H1 := Lib.hid h1
  clear h1 h0
  go_enter Tryd.func12, Tryd.ntmps12
  go_wp2
  go_loopw [0, 3] (fun q out wr => ∃ (r : Nat) (l : List UInt8), q = .int .i64 (r : Int) ∧ out = .string ⟨l.toArray⟩ ∧ Hid (r ≤ m) ∧ Lib.decDigits r ++ l = Lib.decDigits m ∧ Below w.heap.size w wr) (fun q _ _ => (intOf q).toNat)
  case atStart => exact ⟨m, [], rfl, rfl, Lib.hid (Nat.le_refl _), by simp, (by repeat' (first | (with_reducible exact Below.refl _ _) | (with_reducible refine Below.alloc ?_ ?_ _) | (with_reducible refine Below.setCell ?_ ?_ _) | (with_reducible refine below_drewN ?_ _) | (with_reducible refine Below.drew ?_) | (with_reducible refine below_step (by assumption) ?_ ?_) | omega | (simp; done) | (simp; omega)))⟩
  case round =>
    obtain ⟨r, l, rfl, rfl, hr, he, hbl⟩ := hrel
    have HE := Lib.hid he
    have hll : l.length ≤ 19 := by have := HL.out; rw [← he, List.length_append] at this; omega
    have hbs := hbl.size
    clear he
    have hr1 : (r : Int) ≤ 9223372036854775807 := by have := H1.out; have := hr.out; omega
    by_cases hr0 : 9 < r
    · have HS : Hid (Lib.decDigits r = Lib.decDigits (r / 10) ++ [dByte r]) := Lib.hid (dec_big (by omega))
      have hr2 : (9 : Int) < (r : Int) := by omega
      have hcv := str_of_byte wr (48 + (r : Int) % 10) (by omega) (by omega)
      rw [byte_of] at hcv
      have hsz : ((⟨[dByte r].toArray⟩ : ByteArray).size : Int) + ((⟨l.toArray⟩ : ByteArray).size : Int) ≤ 9223372036854775807 := by show ((1 : Nat) : Int) + (l.length : Int) ≤ _; omega
      have hrm : r / 10 ≤ m := by have := hr.out; omega
      have HRM := Lib.hid hrm
      clear hrm
      go_wp2
      go_roundw
      case rel => exact ⟨r / 10, dByte r :: l, by go_num, congrArg Value.string (bytes_cat [dByte r] l), HRM, by rw [← HE.out, HS.out, List.append_assoc]; rfl, (by repeat' (first | (with_reducible exact Below.refl _ _) | (with_reducible refine Below.alloc ?_ ?_ _) | (with_reducible refine Below.setCell ?_ ?_ _) | (with_reducible refine below_drewN ?_ _) | (with_reducible refine Below.drew ?_) | (with_reducible refine below_step (by assumption) ?_ ?_) | omega | (simp; done) | (simp; omega)))⟩
      case measure => simp [intOf]; omega
    · have hr2 : ¬ (9 : Int) < (r : Int) := by omega
      have hcv := str_of_byte wr (48 + (r : Int)) (by omega) (by omega)
      have HS : Hid (Lib.decDigits r = [UInt8.ofNat ((48 : Int) + (r : Int)).toNat]) := Lib.hid (by rw [dec_small (by omega)]; congr 2)
      obtain ⟨X, hX⟩ : ∃ X : ByteArray, X = ⟨[UInt8.ofNat ((48 : Int) + (r : Int)).toNat].toArray⟩ := ⟨_, rfl⟩
      have hXs : X.size = 1 := by rw [hX]; rfl
      rw [← hX] at hcv
      have HRR : Hid ((⟨(Lib.itoa (m : Int)).toArray⟩ : ByteArray) = X ++ ⟨l.toArray⟩) := Lib.hid (by rw [hX, bytes_cat, HI.out, ← HE.out, HS.out])
      clear hX hr0 hr1
      have hsz : (X.size : Int) + ((⟨l.toArray⟩ : ByteArray).size : Int) ≤ 9223372036854775807 := by rw [hXs]; show ((1 : Nat) : Int) + (l.length : Int) ≤ _; omega
      go_wp2
      go_ret
      exact ⟨by rw [HRR.out]; rfl, (by repeat' (first | (with_reducible exact Below.refl _ _) | (with_reducible refine Below.alloc ?_ ?_ _) | (with_reducible refine Below.setCell ?_ ?_ _) | (with_reducible refine below_drewN ?_ _) | (with_reducible refine Below.drew ?_) | (with_reducible refine below_step (by assumption) ?_ ?_) | omega | (simp; done) | (simp; omega)))⟩

/-- The table of powers of ten lies as its initialiser lays it. -/
def Tab (w : World) : Prop := Lib.TabIs Tryd.prog w "internal/strconv.uint64pow10" .u64 Lib.pow10Tab
theorem Tab.below {w w' : World} (h : Tab w) (hb : Below w.heap.size w w') : Tab w' := by
  unfold Tab Lib.TabIs World.var? at h ⊢
  cases hg : Tryd.prog.globalNamed "internal/strconv.uint64pow10" with
  | none => rw [hg] at h; simp at h
  | some g =>
    rw [hg] at h
    simp only [Option.bind_some] at h ⊢
    have hlt : g < w.heap.size := by
      rcases Nat.lt_or_ge g w.heap.size with h' | h'
      · exact h'
      · simp [Array.getElem?_eq_none h'] at h
    rw [hb.block g hlt]
    exact h
theorem below_grow (w : World) (k : Nat) (os : Array Obj) : Below w.heap.size w (Go.Sort.grow (w.drewN k) os) :=
  ⟨rfl, rfl, rfl, by first | (simp [Go.Sort.grow]; done) | (simp [Go.Sort.grow]; omega), fun i hi => by
    show ((w.drewN k).heap ++ os)[i]? = _
    rw [Array.getElem?_append_left (by show i < w.heap.size; omega)]
    rfl⟩
theorem impl_FormatInt (n : Int) (w : World) (h0 : -9223372036854775808 ≤ n) (h1 : n ≤ 9223372036854775807) (ht : Tab w) :
    Calls Tryd.prog 13 #[.int .i64 n] w fun e w' => e = .returned (.string ⟨(Lib.itoa n).toArray⟩) ∧ Below w.heap.size w w' := by
  have HT := Lib.hid ht
  clear ht
  go_enter Tryd.func13, Tryd.ntmps13
  go_wp2_with fail
  refine (Tryd.strconv_Itoa n h0 h1 _ HT.out).mono ?_
  rintro e w1 ⟨rfl, k, os, rfl⟩
  have hb := below_grow w k os
  generalize Go.Sort.grow (w.drewN k) os = w1 at *
  go_wp2
  go_ret
  exact ⟨rfl, hb⟩
end Go.Proofs.YticekjagmcphbaaDoor
