/-
  Contracts of IsDigits and IsName. Written by an AI agent.
-/
import Derived.Test.YticekjagmcphbaaGreatDoorPose
namespace Go.Proofs.YticekjagmcphbaaGreatDoor
open Go.RowKit

def digB (c : UInt8) : Bool := decide (48 ≤ (c.toNat : Int) ∧ (c.toNat : Int) ≤ 57)
def lowB (c : UInt8) : Bool := decide (97 ≤ (c.toNat : Int) ∧ (c.toNat : Int) ≤ 122)
def digitsB (s : ByteArray) : Bool := s.data.toList.all digB && decide (0 < s.size)
/-- May byte d stand at place k of a name? -/
def okAt (k : Nat) (d : UInt8) : Bool := lowB d || (decide (k ≠ 0) && digB d)
/-- The first k bytes may stand in a name. -/
def NameTo (s : ByteArray) (k : Nat) : Prop := ∀ j d, j < k → s.data.toList[j]? = some d → okAt j d = true
noncomputable def nameB (s : ByteArray) : Bool := @decide (1 ≤ s.size ∧ s.size ≤ 8 ∧ NameTo s s.size) (Classical.propDecidable _)

theorem nameB_bad {s : ByteArray} {k : Nat} {d : UInt8} (hd : s.data.toList[k]? = some d) (h : okAt k d = false) : nameB s = false := by
  refine @decide_eq_false _ (Classical.propDecidable _) ?_
  rintro ⟨_, _, hn⟩
  have hk : k < s.size := by have := (List.getElem?_eq_some_iff.1 hd).1; simpa using this
  rw [hn k d hk hd] at h
  cases h
theorem nameB_size {s : ByteArray} (h : ¬ (1 ≤ s.size ∧ s.size ≤ 8)) : nameB s = false := by
  refine @decide_eq_false _ (Classical.propDecidable _) ?_
  rintro ⟨h1, h2, _⟩
  exact h ⟨h1, h2⟩
theorem nameB_good {s : ByteArray} (h1 : 1 ≤ s.size) (h2 : s.size ≤ 8) (h : NameTo s s.size) : nameB s = true := by
  exact @decide_eq_true _ (Classical.propDecidable _) ⟨h1, h2, h⟩
theorem NameTo.zero (s : ByteArray) : NameTo s 0 := fun j d h _ => absurd h (by omega)
theorem NameTo.snoc {s : ByteArray} {k : Nat} {d : UInt8} (h : NameTo s k) (hd : s.data.toList[k]? = some d) (ho : okAt k d = true) : NameTo s (k + 1) := by
  intro j e hj he
  by_cases hjk : j < k
  · exact h j e hjk he
  · obtain rfl : j = k := by omega
    rw [hd] at he
    cases he
    exact ho

theorem byte_get {s : ByteArray} {k : Nat} (h : k < s.size) : s.data.toList[k]? = some s[k] := by
  rw [List.getElem?_eq_getElem (by simpa using h)]; rfl
theorem list_size (s : ByteArray) : s.data.toList.length = s.size := by simp
theorem all_bad {α : Type} {l : List α} {p : α → Bool} {k : Nat} {d : α} (hd : l[k]? = some d) (hp : p d = false) : l.all p = false := by
  rw [List.all_eq_false]
  exact ⟨d, List.mem_of_getElem? hd, by simp [hp]⟩
theorem all_snoc' {α : Type} {xs : List α} {p : α → Bool} {k : Nat} {d : α} (h : (xs.take k).all p = true) (hd : xs[k]? = some d) (hp : p d = true) : (xs.take (k + 1)).all p = true := by
  rw [List.take_add_one, hd, List.all_append, h]
  simp [hp]


set_option maxHeartbeats 400000 in
theorem impl_IsDigits (s : ByteArray) (w : World) (hs : s.size ≤ maxLen) :
    Calls Tryz.prog 36 #[.string s] w fun e w' => e = .returned (.bool (digitsB s)) ∧ w = w' := by
  unfold maxLen at hs
  go_enter Tryz.func36, Tryz.ntmps36
  go_wp2
  go_loop [3] (fun i => ∃ k : Nat, k ≤ s.size ∧ i = .int .i64 k ∧ (s.data.toList.take k).all digB = true) (fun i => s.size - (intOf i).toNat)
  case atStart => exact ⟨0, Nat.zero_le _, rfl, rfl⟩
  case round =>
    obtain ⟨k, hk, rfl, hall⟩ := hrel
    have HA := Lib.hid hall; clear hall
    by_cases hlt : k < s.size
    · have HD := Lib.hid (byte_get hlt)
      by_cases h1 : ((s[k]).toNat : Int) < 48
      · go_wp2
        go_ret
        exact ⟨ret_bool (by simp [digitsB, all_bad HD.out (show digB s[k] = false by simp [digB]; omega)]), rfl⟩
      · by_cases h2 : (57 : Int) < ((s[k]).toNat : Int)
        · go_wp2
          go_ret
          exact ⟨ret_bool (by simp [digitsB, all_bad HD.out (show digB s[k] = false by simp [digB]; omega)]), rfl⟩
        · go_wp2
          go_round
          case rel => exact ⟨k + 1, by omega, by go_num, all_snoc' HA.out HD.out (by simp [digB]; omega)⟩
          case measure => simp [intOf]; omega
    · have ha : s.data.toList.all digB = true := by have := HA.out; rwa [List.take_of_length_le (by simp; omega)] at this
      have H := Lib.hid ha; clear ha HA
      go_wp2
      go_ret
      exact ⟨ret_bool (by simp only [digitsB, H.out, Bool.true_and]), rfl⟩

end Go.Proofs.YticekjagmcphbaaGreatDoor
