/-
  Contracts: Join of both packages; the size of a list of strings. Written by an AI agent.
-/
import Derived.Test.YticekjagmcphbaaDoorStrs
import Derived.Test.YticekjagmcphbaaDoorText
import Derived.Test.YticekjagmcphbaaDoorShelf
import Derived.Lib.Join
namespace Go.Proofs.YticekjagmcphbaaDoor
open Go.RowKit

/-- The bytes of all the strings of a list. -/
def tot (xs : List ByteArray) : Nat := (xs.map ByteArray.size).sum
theorem tot_snoc {xs : List ByteArray} {d : ByteArray} {j : Nat} (hd : xs[j]? = some d) : tot (xs.take (j + 1)) = tot (xs.take j) + d.size := by
  unfold tot
  rw [take_snoc hd, List.map_append, List.sum_append]
  simp
theorem tot_take (xs : List ByteArray) (j : Nat) : tot (xs.take j) ≤ tot xs := by
  have h : tot xs = tot (xs.take j) + tot (xs.drop j) := by
    unfold tot
    rw [← List.sum_append, ← List.map_append, List.take_append_drop]
  omega
/-- Join, byte for byte. -/
def joinB (xs : List ByteArray) (sep : ByteArray) : List UInt8 := Lib.join (xs.map (·.data.toList)) sep.data.toList
def joinF (xs : List ByteArray) (sep : ByteArray) : ByteArray := ⟨(joinB xs sep).toArray⟩
theorem joinB_first {xs : List ByteArray} {d sep : ByteArray} (hd : xs[0]? = some d) : joinB (xs.take 1) sep = d.data.toList := by
  rw [take_snoc hd, List.take_zero]
  exact Lib.join_one _ _
theorem join_more (ys : List (List UInt8)) (x sep : List UInt8) (h : ys ≠ []) : Lib.join (ys ++ [x]) sep = Lib.join ys sep ++ sep ++ x := by
  cases ys with
  | nil => exact absurd rfl h
  | cons y r =>
    rw [List.cons_append, Lib.join_cons, Lib.join_cons]
    unfold Lib.joinTail
    simp
theorem joinB_snoc {xs : List ByteArray} {d sep : ByteArray} {j : Nat} (hj : 0 < j) (hd : xs[j]? = some d) : joinB (xs.take (j + 1)) sep = joinB (xs.take j) sep ++ sep.data.toList ++ d.data.toList := by
  unfold joinB
  rw [take_snoc hd, List.map_append]
  refine join_more _ _ _ ?_
  intro h
  have h1 := (List.getElem?_eq_some_iff.1 hd).1
  have h2 := congrArg List.length h
  rw [List.length_map, List.length_take, List.length_nil] at h2
  omega
theorem join_cat {a b : ByteArray} {l : List UInt8} (h : a.data.toList = l) : (a ++ b).data.toList = l ++ b.data.toList := by
  rw [← h]
  simp
theorem mk_data {a : ByteArray} {l : List UInt8} (h : a.data.toList = l) : a = ⟨l.toArray⟩ := by
  apply ByteArray.ext
  rw [← h]

theorem joinB_len (xs : List ByteArray) (sep : ByteArray) (hs : sep.size ≤ 1048576) : ∀ j, j ≤ xs.length → (joinB (xs.take j) sep).length ≤ j * 1048576 + tot (xs.take j) := by
  intro j
  induction j with
  | zero => intro _; simp [joinB, Lib.join_nil]
  | succ j ih =>
    intro hj
    obtain ⟨d, hd⟩ : ∃ d, xs[j]? = some d := ⟨_, List.getElem?_eq_getElem (by omega)⟩
    rw [tot_snoc hd]
    have hds : d.data.toList.length = d.size := by simp
    have hss : sep.data.toList.length = sep.size := by simp
    rcases Nat.eq_zero_or_pos j with h0 | h0
    · subst h0
      rw [joinB_first hd, hds]
      omega
    · rw [joinB_snoc h0 hd, List.length_append, List.length_append, hds, hss]
      have := ih (by omega)
      omega
set_option maxHeartbeats 1000000 in
theorem impl_Join (v : Value) (xs : List ByteArray) (sep : ByteArray) (w : World) (h : SlS w v xs) (hn : xs.length ≤ 1048576) (ht : tot xs ≤ 1048576) (hs : sep.size ≤ 1048576) :
    Calls Tryd.prog 36 #[v, .string sep] w fun e w' => e = .returned (.string (joinF xs sep)) ∧ Below w.heap.size w w' := by
  obtain ⟨A, c, rfl, h1, h2, h3⟩ := h
  have HL := Lib.hid (joinB_len xs sep hs xs.length (Nat.le_refl _))
  rw [List.take_length] at HL
  rcases Nat.eq_zero_or_pos xs.length with h0 | h0
  · have hx := List.eq_nil_of_length_eq_zero h0
    subst hx
    have HR : Hid (joinF [] sep = ⟨#[]⟩) := Lib.hid rfl
    clear h3 h1 ht h0 hn HL
    go_enter Tryd.func36, Tryd.ntmps36
    go_wp2_with (go_at_call 79; refine (Tryd.strings_Join_none A c sep _).mono ?_; rintro e w1 ⟨rfl, rfl⟩)
    go_ret
    exact ⟨by rw [HR.out]; rfl, Below.refl _ _⟩
  · obtain ⟨b, off, rfl, hc⟩ := h3 h0
    obtain ⟨d, hd⟩ : ∃ d, xs[0]? = some d := ⟨_, List.getElem?_eq_getElem h0⟩
    have hb := World.block_lt_of_cell? w _ (hc 0 d hd)
    have HC := Lib.hid (Tryd.strings_Join b off c xs sep w (fun j x hj => hc j x hj) hb (by omega) (by omega) (by have := HL.out; show (joinB xs sep).length ≤ _; omega))
    clear hc h3 hd ht HL
    go_enter Tryd.func36, Tryd.ntmps36
    go_wp2_with (go_at_call 79; refine HC.out.mono ?_; rintro e w1 ⟨rfl, b1⟩)
    go_ret
    exact ⟨rfl, b1⟩
end Go.Proofs.YticekjagmcphbaaDoor
