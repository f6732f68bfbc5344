/-
  The reference's NatOk. Written by an AI agent.
-/
import Derived.Test.YticekjagmcphbaaGreatDoorNatOk
import Derived.Test.YticekjagmcphbaaGreatDoorPose
namespace Go.Proofs.YticekjagmcphbaaGreatDoor
open Go.RowKit
theorem inB_limb (d : Int) : inB d 0 999999999 = limbB d := by unfold inB limbB; congr 1; rw [eq_iff_iff]; omega

set_option maxHeartbeats 400000 in
theorem spec_NatOk (v : Value) (xs : List Int) (w : World) (h : Sl w v xs) :
    Calls Tryz.prog 74 #[v] w fun e w' => e = .returned (.bool (okB xs)) ∧ w = w' := by
  obtain ⟨A, c, rfl, h1, h2, h3⟩ := h
  have hm : xs.length ≤ 9223372036854775807 := by unfold maxLen at h2; omega
  go_enter Tryz.func74, Tryz.ntmps74
  go_wp2
  go_loop [4, 7] (fun _ i => ∃ k : Nat, k ≤ xs.length ∧ i = .int .i64 k ∧ (xs.take k).all limbB = true) (fun _ i => xs.length - (intOf i).toNat)
  case atStart => exact ⟨0, Nat.zero_le _, rfl, rfl⟩
  case round =>
    obtain ⟨k, hk, rfl, hall⟩ := hrel
    have HA := Lib.hid hall; clear hall
    by_cases hlt : k < xs.length
    · obtain ⟨b, off, rfl, hc⟩ := h3 (by omega)
      obtain ⟨d, hd⟩ : ∃ d, xs[k]? = some d := ⟨_, List.getElem?_eq_getElem hlt⟩
      have hcell := hc k d hd
      have HD := Lib.hid hd; clear hd hc h3
      by_cases hd : limbB d = true
      · have hb : inB d 0 999999999 = true := by rw [inB_limb, hd]
        go_wp2_with (go_at_call 86; refine (l01In_any d 0 999999999 _).mono ?_; rintro e w' ⟨rfl, rfl⟩)
        go_round
        case rel => exact ⟨k + 1, by omega, by go_num, all_snoc HA.out HD.out hd⟩
        case measure => simp [intOf]; omega
      · have hd' : limbB d = false := by simpa using hd
        have hb : inB d 0 999999999 = false := by rw [inB_limb, hd']
        clear hd
        go_wp2_with (go_at_call 86; refine (l01In_any d 0 999999999 _).mono ?_; rintro e w' ⟨rfl, rfl⟩)
        go_ret
        exact ⟨ret_bool (okB_bad HD.out hd').symm, rfl⟩
    · have ha : xs.all limbB = true := by have := HA.out; rwa [List.take_of_length_le (by omega)] at this
      clear HA
      by_cases h60 : 60 < xs.length
      · have H := Lib.hid (okB_long h60)
        clear ha
        go_wp2
        go_ret
        exact ⟨ret_bool H.out.symm, rfl⟩
      · by_cases h0 : xs.length = 0
        · have h0' : ((xs.length : Int) == 0) = true := by simpa using h0
          have H := Lib.hid (List.eq_nil_of_length_eq_zero h0); clear h0 ha
          go_wp2
          go_ret
          exact ⟨ret_bool (by rw [H.out]; rfl), rfl⟩
        · obtain ⟨b, off, rfl, hc⟩ := h3 (by omega)
          obtain ⟨d, hd⟩ : ∃ d, xs[xs.length - 1]? = some d := ⟨_, List.getElem?_eq_getElem (by omega)⟩
          have hcell := hc _ d hd
          have H := Lib.hid (okB_end (by omega) ha hd); clear hd hc h3 ha
          have h0' : ((xs.length : Int) == 0) = false := by simpa using h0
          have hp : (0 : Int) ≤ (xs.length : Int) - 1 := by omega
          go_wp2
          go_ret
          exact ⟨ret_bool H.out.symm, rfl⟩
end Go.Proofs.YticekjagmcphbaaGreatDoor
