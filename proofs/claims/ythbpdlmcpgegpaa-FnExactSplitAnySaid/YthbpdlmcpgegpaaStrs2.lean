/-
  The laws' own marks of lists of strings. Written by an AI agent.
-/
import Derived.Test.YthbpdlmcpgegpaaStrs
import Derived.Test.YthbpdlmcpgegpaaDec
import Derived.Test.YthbpdlmcpgegpaaBig
import Derived.Deep.RegionHeld3
namespace Go.Proofs.Ythbpdlmcpgegpaa
open Go.RowKit

/-- The digits of r, none of zero. -/
def dig0 (r : Nat) : List UInt8 := if r = 0 then [] else Lib.decDigits r
/-- The last digit of n, as a byte. -/
def dByte (n : Nat) : UInt8 := UInt8.ofNat (48 + n % 10)
theorem dig0_step {r : Nat} (h : 0 < r) : dig0 r = dig0 (r / 10) ++ [dByte r] := by
  unfold dig0 dByte
  rw [if_neg (by omega)]
  rcases Nat.lt_or_ge r 10 with h1 | h1
  · rw [dec_small h1, if_pos (by omega), show r % 10 = r by omega]
    rfl
  · rw [dec_big (by omega), if_neg (by omega)]
/-- The mark of a number. -/
def mtext (k : Nat) : ByteArray := ⟨(109 :: Lib.decDigits k).toArray⟩
theorem bytes_cat (a b : List UInt8) : (⟨a.toArray⟩ : ByteArray) ++ ⟨b.toArray⟩ = ⟨(a ++ b).toArray⟩ := by
  apply ByteArray.ext
  simp

/-- A string of one byte that was just laid. -/
theorem str_of_byte (w : World) (d : Int) (h0 : 0 ≤ d) (h1 : d ≤ 255) :
    (convert 86 9 (.slice (some ⟨w.heap.size, 0, none⟩) 1 1)).run Try.prog (w.alloc (.cells #[.int .u8 d] 5)) = .ok (.string ⟨[UInt8.ofNat d.toNat].toArray⟩) (w.alloc (.cells #[.int .u8 d] 5)) := by
  refine run_convert_bytes_back (P := Try.prog) _ 86 9 5 ⟨w.heap.size, 0, none⟩ 1 [UInt8.ofNat d.toNat] Try.underlying86 Try.underlying5 Try.underlying9 (fun j hj => ?_)
  have hj0 : j = 0 := by simpa using hj
  subst hj0
  have hc := cell_one_new w (.int .u8 d) 5 0 (.int .u8 d) rfl
  rw [hc]
  congr 2
  show d = ((UInt8.ofNat d.toNat).toNat : Int)
  rw [UInt8.toNat_ofNat_of_lt' (by simp [UInt8.size]; omega)]
  omega
theorem byte_of (n : Nat) : UInt8.ofNat ((48 : Int) + (n : Int) % 10).toNat = dByte n := by unfold dByte; congr 1

set_option maxHeartbeats 1000000 in
theorem laws_markText (k : Nat) (w : World) (h0 : 0 < k) (h1 : k ≤ 4611686018427387904) :
    Calls Try.prog 72 #[.int .i64 (k : Int)] w fun e w' => e = .returned (.string (mtext k)) ∧ Below w.heap.size w w' := by
  have hlen : (Lib.decDigits k).length ≤ 19 := dec_len (k := 18) (by omega)
  have HL := Lib.hid hlen
  have H1 := Lib.hid h1
  have hk0 : (0 : Int) < (k : Int) := by omega
  clear h1 hlen
  go_enter Try.func72, Try.ntmps72
  go_wp2
  go_loopw [0, 3] (fun q out wr => ∃ (r : Nat) (l : List UInt8), q = .int .i64 (r : Int) ∧ out = .string ⟨l.toArray⟩ ∧ r ≤ k ∧ dig0 r ++ l = Lib.decDigits k ∧ Below w.heap.size w wr) (fun q _ _ => (intOf q).toNat)
  case atStart => exact ⟨k, [], rfl, rfl, Nat.le_refl _, by unfold dig0; rw [if_neg (by omega)]; simp, (by repeat' (first | (with_reducible exact Below.refl _ _) | (with_reducible refine Below.alloc ?_ ?_ _) | (with_reducible refine Below.setCell ?_ ?_ _) | (with_reducible refine below_drewN ?_ _) | (with_reducible refine Below.drew ?_) | (with_reducible refine below_step (by assumption) ?_ ?_) | omega | (simp; done) | (simp; omega)))⟩
  case round =>
    obtain ⟨r, l, rfl, rfl, hr, he, hbl⟩ := hrel
    have HE := Lib.hid he
    clear he
    by_cases hr0 : 0 < r
    · have hll : l.length ≤ 19 := by have := HL.out; rw [← HE.out, List.length_append] at this; omega
      have HS := Lib.hid (dig0_step hr0)
      have hr1 : (r : Int) ≤ 4611686018427387904 := by have := H1.out; omega
      have hr2 : (0 : Int) < (r : Int) := by omega
      have hbs := hbl.size
      have hcv := str_of_byte wr (48 + (r : Int) % 10) (by omega) (by omega)
      rw [byte_of] at hcv
      have hsz : ((⟨[dByte r].toArray⟩ : ByteArray).size : Int) + ((⟨l.toArray⟩ : ByteArray).size : Int) ≤ 9223372036854775807 := by show ((1 : Nat) : Int) + (l.length : Int) ≤ _; omega
      go_wp2
      go_roundw
      case rel => exact ⟨r / 10, dByte r :: l, by go_num, congrArg Value.string (bytes_cat [dByte r] l), by omega, by rw [← HE.out, HS.out, List.append_assoc]; rfl, (by repeat' (first | (with_reducible exact Below.refl _ _) | (with_reducible refine Below.alloc ?_ ?_ _) | (with_reducible refine Below.setCell ?_ ?_ _) | (with_reducible refine below_drewN ?_ _) | (with_reducible refine Below.drew ?_) | (with_reducible refine below_step (by assumption) ?_ ?_) | omega | (simp; done) | (simp; omega)))⟩
      case measure => simp [intOf]; omega
    · have HM : Hid (mtext k = ⟨[109].toArray⟩ ++ ⟨l.toArray⟩) := Lib.hid (by
        rw [bytes_cat]
        unfold mtext
        rw [← HE.out, show r = 0 by omega]
        rfl)
      have hll : l.length ≤ 19 := by have := HL.out; rw [← HE.out, List.length_append] at this; omega
      have hsz : ((⟨[109].toArray⟩ : ByteArray).size : Int) + ((⟨l.toArray⟩ : ByteArray).size : Int) ≤ 9223372036854775807 := by show ((1 : Nat) : Int) + (l.length : Int) ≤ _; omega
      go_wp2
      go_ret
      exact ⟨by rw [HM.out]; rfl, hbl⟩
theorem laws_markTextI (k : Int) (w : World) (h0 : 0 < k) (h1 : k ≤ 4611686018427387904) :
    Calls Try.prog 72 #[.int .i64 k] w fun e w' => e = .returned (.string (mtext k.toNat)) ∧ Below w.heap.size w w' := by
  obtain ⟨n, rfl⟩ := Int.eq_ofNat_of_zero_le (show 0 ≤ k by omega)
  rw [Int.toNat_natCast]
  exact laws_markText n w (by omega) (by omega)
/-- The texts that a mark lays. -/
def marksS (k : Int) (n : Nat) : List ByteArray := (List.range n).map fun (i : Nat) => mtext (k + (i : Int)).toNat
theorem marksS_length (k : Int) (n : Nat) : (marksS k n).length = n := by simp [marksS]
theorem marksS_get (k : Int) {n i : Nat} (h : i < n) : (marksS k n)[i]? = some (mtext (k + (i : Int)).toNat) := by simp [marksS, h]
theorem marksS_snoc (k : Int) (n : Nat) : marksS k (n + 1) = marksS k n ++ [mtext (k + (n : Int)).toNat] := by simp [marksS, List.range_succ]
theorem markS_set {xs : List ByteArray} {k : Int} {i n : Nat} (hn : xs.length = n) (h : i < n) : (marksS k i ++ xs.drop i).set i (mtext (k + (i : Int)).toNat) = marksS k (i + 1) ++ xs.drop (i + 1) := by
  rw [List.set_append_right _ _ (by rw [marksS_length]; omega), marksS_length, Nat.sub_self, marksS_snoc]
  have hd : xs.drop i = xs[i] :: xs.drop (i + 1) := List.drop_eq_getElem_cons (by omega)
  rw [hd, List.set_cons_zero]
  simp
theorem Only.spread {w w' : World} {lo hi lo' hi' : Nat} (h : Only lo hi w w') (h1 : lo' ≤ lo) (h2 : hi ≤ hi') : Only lo' hi' w w' := ⟨h.os, h.tape, h.output, h.size, fun k hk ho => h.block k hk (by omega)⟩

set_option maxHeartbeats 1000000 in
theorem markStrs (v : Value) (xs : List ByteArray) (k : Int) (lo hi : Nat) (w : World) (h : OwnRS w lo hi 9 v xs) (hl : lo ≤ w.heap.size) (k0 : 0 < k) (k1 : k + xs.length ≤ 4611686018427387904) :
    Calls Try.prog 36 #[v, .int .i64 k] w fun en w' => en = .returned (.int .i64 (k + xs.length)) ∧ OwnRS w' lo hi 9 v (marksS k xs.length) ∧ Only lo hi w w' ∧ Below lo w w' := by
  have HH := Lib.hid h
  obtain ⟨A, c, rfl, h1, h2, h3⟩ := h.1.form
  have h4 := h.2
  clear h
  have hm : xs.length ≤ 9223372036854775807 := by unfold maxLen at h2; omega
  go_enter Try.func36, Try.ntmps36
  go_wp2
  go_loopw [1, 5] (fun m i wr => ∃ j : Nat, j ≤ xs.length ∧ i = .int .i64 j ∧ m = .int .i64 (k + j) ∧ OwnRS wr lo hi 9 (.slice A xs.length c) (marksS k j ++ xs.drop j) ∧ Only lo hi w wr) (fun _ i _ => xs.length - (intOf i).toNat)
  case atStart => exact ⟨0, Nat.zero_le _, rfl, by simp, by simpa [marksS] using HH.out, Only.refl _ _ _⟩
  case round =>
    obtain ⟨j, hj, rfl, rfl, hown, ho⟩ := hrel
    have HO := Lib.hid hown
    have HF := Lib.hid ho
    have hsz := ho.size
    clear hown ho
    by_cases hlt : j < xs.length
    · obtain ⟨g, rfl, hgb, hgs⟩ := h3 (by omega)
      have hgh := h4 g rfl
      have hll : (marksS k j ++ xs.drop j).length = xs.length := by rw [List.length_append, marksS_length, List.length_drop]; omega
      go_wp2_with fail
      refine (laws_markTextI (k + j) _ (by omega) (by omega)).mono ?_
      rintro e w1 ⟨rfl, b1⟩
      have own1 : OwnRS w1 lo hi 9 (.slice (some ⟨g, 0, none⟩) xs.length c) (marksS k j ++ xs.drop j) := by
        refine ⟨HO.out.1.below b1, HO.out.2⟩
      have own2 : w1.ownsRow lo 9 1 (.slice (some ⟨g, 0, none⟩) xs.length c) xs.length ((marksS k j ++ xs.drop j).map Value.string) := by
        have := own1.1
        unfold OwnS at this
        rwa [hll] at this
      have HX := Lib.hid own1
      obtain ⟨u, hu⟩ : ∃ u, w1.cell? ⟨g, j, none⟩ = some u := by
        rw [World.ownsRow.cellAt own2 j (by omega)]
        exact ⟨_, List.getElem?_eq_getElem (by rw [List.length_map]; omega)⟩
      have hfz := World.ownsRow.frozenAt own2 j
      have hst := World.ownsRow.stored own2 j (.string (mtext (k + j).toNat))
      have HS := Lib.hid hst.1
      have HB := Lib.hid b1
      have hs1 := b1.size
      clear hst own1 own2 b1 h3 h4 hll
      go_wp2
      go_roundw
      case rel =>
        have hs := HS.out
        rw [← List.map_set, markS_set rfl hlt] at hs
        refine ⟨j + 1, by omega, by go_num, by go_num, ⟨?_, HX.out.2⟩, (HF.out.trans (Only.of_below HB.out)).trans ((Only.setCell _ _ _).spread hgb hgh)⟩
        unfold OwnS
        rw [show (marksS k (j + 1) ++ xs.drop (j + 1)).length = xs.length by rw [List.length_append, marksS_length, List.length_drop]; omega]
        exact hs
      case measure => simp [intOf]; omega
    · have hjj : j = xs.length := by omega
      subst hjj
      go_wp2
      go_ret
      refine ⟨rfl, ?_, HF.out, HF.out.below hl⟩
      have := HO.out
      rwa [List.drop_length, List.append_nil] at this
set_option maxHeartbeats 1000000 in
theorem heldStrs (v : Value) (n : Nat) (k : Int) (w : World) (h : SlS w v (marksS k n)) (k0 : 0 < k) (k1 : k + n ≤ 4611686018427387904) :
    Calls Try.prog 37 #[v, .int .i64 k] w fun en w' => en = .returned (.int .i64 (k + n)) ∧ Below w.heap.size w w' := by
  obtain ⟨A, c, rfl, h1, h2, h3⟩ := h
  rw [marksS_length] at h1 h3 ⊢
  have hm : n ≤ 9223372036854775807 := by unfold maxLen at h2; omega
  go_enter Try.func37, Try.ntmps37
  go_wp2
  go_loopw [1, 5] (fun m i wr => ∃ j : Nat, j ≤ n ∧ i = .int .i64 j ∧ m = .int .i64 (k + j) ∧ Below w.heap.size w wr) (fun _ i _ => n - (intOf i).toNat)
  case atStart => exact ⟨0, Nat.zero_le _, rfl, by simp, Below.refl _ _⟩
  case round =>
    obtain ⟨j, hj, rfl, rfl, hbl⟩ := hrel
    by_cases hlt : j < n
    · obtain ⟨b, off, rfl, hc⟩ := h3 (by omega)
      have hcw := hc j _ (marksS_get k hlt)
      have hbw := World.block_lt_of_cell? w _ hcw
      have hcell := (hbl.cell hbw).trans hcw
      have hbr : b < wr.heap.size := Nat.lt_of_lt_of_le hbw hbl.size
      have hne := str_eq (rfl : mtext (k + (j : Int)).toNat = mtext (k + (j : Int)).toNat)
      have HC := Lib.hid (laws_markTextI (k + j))
      have HB := Lib.hid hbl
      have hs := hbl.size
      clear hc h3 hcw hbl
      go_wp2_with fail
      go_region_held3 (fun w' => w'.cell? ⟨b, off + j, none⟩ = some (.string (mtext (k + (j : Int)).toNat))) (go_keep)
        (first | (go_at_call 72; refine (laws_markTextI (k + j) _ (by omega) (by omega)).mono ?_; rintro e w1 ⟨rfl, b1⟩; have hq := (bxcell b1).1 b (off + j) (by first | omega | (simp; omega)); have hz := b1.size; (try simp at hz)))
      all_goals
        go_wp2
        have hbl := HB.out
        go_roundw
        case rel => exact ⟨j + 1, by omega, by go_num, by go_num, (by repeat' (first | (with_reducible exact Below.refl _ _) | (with_reducible refine Below.alloc ?_ ?_ _) | (with_reducible refine Below.setCell ?_ ?_ _) | (with_reducible refine below_drewN ?_ _) | (with_reducible refine Below.drew ?_) | (with_reducible refine below_step (by assumption) ?_ ?_) | omega | (simp; done) | (simp; omega)))⟩
        case measure => simp [intOf]; omega
    · have hjj : j = n := by omega
      subst hjj
      go_wp2
      go_ret
      exact ⟨rfl, hbl⟩
end Go.Proofs.Ythbpdlmcpgegpaa
