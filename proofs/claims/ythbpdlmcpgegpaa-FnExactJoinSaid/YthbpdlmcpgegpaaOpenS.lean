/-
  How an argument that is a list of strings is opened. Written by an AI agent.
-/
import Derived.Test.YthbpdlmcpgegpaaOpen
import Derived.Test.YthbpdlmcpgegpaaStrs
import Derived.Deep.Strs
namespace Go.Proofs.Ythbpdlmcpgegpaa
open Go.ChangeShapes Go.WideShapes Go.ChangeAt Go.RowKit

/-- Every string of the list has a length that an int holds. -/
def WfS (xs : List ByteArray) : Prop := ∀ s ∈ xs, s.size ≤ maxLen
section
variable {H : Type} {enc : TypeId × Value → H} {P : Program} {w : World}
theorem open_strsL {t e : TypeId} {r : Reach} {base : Nat} {spare : Nat → Bool} {held : Bool} {v : Value} {d : DataW H} {p : List MemPlace} (ht : P.underlying t = some (.slice e)) (he : P.underlying e = some .string) (hc : P.cellsOf e = 1)
    (hv : Value.okWide P w r base t v) (h : DataW.Trod enc P w 0 spare held t v d p) : ∃ xs, SlS w v xs ∧ WfS xs := by
  obtain ⟨a, len, cap, rfl⟩ := okWide_slice ht hv
  obtain ⟨fuel, hf⟩ := h
  rcases Go.Deep.open_strs ht he hc hf with ⟨h0, _⟩ | ⟨a, len, cap, m, Sx, h0, _, hl, hm, hmm, _, hcell⟩
  · simp [Value.cells] at h0
    obtain ⟨rfl, rfl, rfl⟩ := h0
    exact ⟨[], ⟨none, 0, rfl, by simp, by simp [maxLen], fun h => by simp at h⟩, fun n hn => by cases hn⟩
  · simp [Value.cells] at h0
    obtain ⟨rfl, rfl, rfl⟩ := h0
    have hlm : len ≤ m := by rw [hmm]; split <;> omega
    have hll : ((List.range len).map Sx).length = len := by simp
    refine ⟨(List.range len).map Sx, ⟨some a, cap, by rw [hll], by omega, hm, fun hp => ?_⟩, fun s hs => ?_⟩
    · rw [hll] at hp
      obtain ⟨b, off, spot⟩ := a
      have hc0 := (hcell 0 (by omega)).1
      have hspot : spot = none := by simpa [Addr.add] using World.cell?_spot hc0
      subst hspot
      refine ⟨b, off, rfl, fun i d hd => ?_⟩
      have hi : i < len := by
        have := (List.getElem?_eq_some_iff.1 hd).1
        omega
      have hci := (hcell i (by omega)).1
      have hadd : (⟨b, off, none⟩ : Addr).add i = ⟨b, off + i, none⟩ := by unfold Addr.add; split <;> simp_all
      rw [hadd] at hci
      rw [hci]
      rw [List.getElem?_map, List.getElem?_range hi] at hd
      cases hd
      rfl
    · rw [List.mem_map] at hs
      obtain ⟨i, hi, rfl⟩ := hs
      exact (hcell i (by have := List.mem_range.1 hi; omega)).2
end
end Go.Proofs.Ythbpdlmcpgegpaa
