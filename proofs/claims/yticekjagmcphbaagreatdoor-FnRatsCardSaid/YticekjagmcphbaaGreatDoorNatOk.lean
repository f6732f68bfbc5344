/-
  NatOk: contracts. Written by an AI agent.
-/
import Derived.Test.YticekjagmcphbaaGreatDoorKit
namespace Go.Proofs.YticekjagmcphbaaGreatDoor
open Go.RowKit

def limbB (d : Int) : Bool := decide (0 ≤ d ∧ d < 1000000000)
def okB (xs : List Int) : Bool := decide (xs.length ≤ 60) && xs.all limbB && (xs.getLast? != some 0)

theorem okB_long {xs : List Int} (h : 60 < xs.length) : okB xs = false := by simp [okB]; omega
theorem okB_bad {xs : List Int} {k : Nat} {d : Int} (hd : xs[k]? = some d) (h : limbB d = false) : okB xs = false := by
  have : xs.all limbB = false := by
    rw [List.all_eq_false]
    exact ⟨d, List.mem_of_getElem? hd, by simp [h]⟩
  simp [okB, this]
theorem okB_end {xs : List Int} {d : Int} (hl : xs.length ≤ 60) (ha : xs.all limbB = true) (hd : xs[xs.length - 1]? = some d) : okB xs = (d != 0) := by
  unfold okB
  rw [ha, List.getLast?_eq_getElem?, hd]
  simp [hl]
  rfl
theorem all_snoc {xs : List Int} {p : Int → Bool} {k : Nat} {d : Int} (h : (xs.take k).all p = true) (hd : xs[k]? = some d) (hp : p d = true) : (xs.take (k + 1)).all p = true := by
  rw [List.take_add_one, hd, List.all_append, h]
  simp [hp]

set_option maxHeartbeats 400000 in
theorem impl_NatOk (v : Value) (xs : List Int) (w : World) (h : Sl w v xs) :
    Calls Tryz.prog 38 #[v] w fun e w' => e = .returned (.bool (okB xs)) ∧ w = w' := by
  obtain ⟨A, c, rfl, h1, h2, h3⟩ := h
  have hm : xs.length ≤ 9223372036854775807 := by unfold maxLen at h2; omega
  by_cases h60 : 60 < xs.length
  · go_enter Tryz.func38, Tryz.ntmps38
    go_wp2
    go_ret
    exact ⟨ret_bool (okB_long h60).symm, rfl⟩
  · go_enter Tryz.func38, Tryz.ntmps38
    go_wp2
    go_loop [4, 10] (fun _ i => ∃ k : Nat, k ≤ xs.length ∧ i = .int .i64 k ∧ (xs.take k).all limbB = true) (fun _ i => xs.length - (intOf i).toNat)
    case atStart => exact ⟨0, Nat.zero_le _, rfl, rfl⟩
    case round =>
      obtain ⟨k, hk, rfl, hall⟩ := hrel
      have HA := Lib.hid hall; clear hall
      by_cases hlt : k < xs.length
      · obtain ⟨b, off, rfl, hc⟩ := h3 (by omega)
        obtain ⟨d, hd⟩ : ∃ d, xs[k]? = some d := ⟨_, List.getElem?_eq_getElem hlt⟩
        have hcell := hc k d hd
        have HD := Lib.hid hd; clear hd hc h3
        by_cases hneg : d < 0
        · go_wp2
          go_ret
          exact ⟨ret_bool (okB_bad HD.out (by simp [limbB]; omega)).symm, rfl⟩
        · by_cases hbig : 1000000000 ≤ d
          · go_wp2
            go_ret
            exact ⟨ret_bool (okB_bad HD.out (by simp [limbB]; omega)).symm, rfl⟩
          · go_wp2
            go_round
            case rel => exact ⟨k + 1, by omega, by go_num, all_snoc HA.out HD.out (by simp [limbB]; omega)⟩
            case measure => simp [intOf]; omega
      · have ha : xs.all limbB = true := by have := HA.out; rwa [List.take_of_length_le (by omega)] at this
        clear HA
        by_cases h0 : xs.length = 0
        · have h0' : ((xs.length : Int) == 0) = true := by simpa using h0
          have H := Lib.hid (List.eq_nil_of_length_eq_zero h0); clear h0
          go_wp2
          go_ret
          exact ⟨ret_bool (by rw [H.out]; rfl), rfl⟩
        · obtain ⟨b, off, rfl, hc⟩ := h3 (by omega)
          obtain ⟨d, hd⟩ : ∃ d, xs[xs.length - 1]? = some d := ⟨_, List.getElem?_eq_getElem (by omega)⟩
          have hcell := hc _ d hd
          have H := Lib.hid (okB_end (by omega) ha hd); clear hd hc h3 ha
          have h0' : ((xs.length : Int) == 0) = false := by simpa using h0
          have hp : (0 : Int) ≤ (xs.length : Int) - 1 := by omega
          go_wp2
          go_ret
          exact ⟨ret_bool H.out.symm, rfl⟩
end Go.Proofs.YticekjagmcphbaaGreatDoor
