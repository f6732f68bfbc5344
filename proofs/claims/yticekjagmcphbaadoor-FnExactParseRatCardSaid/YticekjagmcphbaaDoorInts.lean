/-
  The laws' own helpers on lists of ints: copy, compare, mark. Written by an AI agent.
-/
import Derived.Test.YticekjagmcphbaaDoorKit
import Derived.Deep.QuietTactic
import Derived.BigQuiet
namespace Go.Proofs.YticekjagmcphbaaDoor
open Go.RowKit

theorem Tryd.infoInt : (Tryd.prog.info? 3).map (fun i => (i.zero, i.size, i.bytes)) = some (some (.int .i64 0), 1, 8) := by kernel_rfl

set_option maxHeartbeats 400000 in
theorem laws_toIntS (v : Value) (xs : List Int) (w : World) (h : Sl w v xs) (hl : xs.length ≤ 1048576) :
    Calls Tryd.prog 15 #[v] w (RetOwn 3 xs w) := by
  obtain ⟨A, c, rfl, h1, h2, h3⟩ := h
  obtain ⟨i0, hi, hz0, hz1, hz2⟩ := info_parts Tryd.infoInt
  go_enter Tryd.func15, Tryd.ntmps15
  go_wp2_with (at_make; refine wpList_make_full _ rfl (.tmp 6) (.tmp 6) 24 rfl w.heap.size 3 i0 (.int .i64 0) 1 Tryd.underlying24 hi hz0 hz1 .i64 .i64 _ _ xs.length rfl rfl rfl rfl (by rw [hz2]; omega) (by unfold maxLen; omega) (Nat.le_refl _) ?_; intro w1 hown hg)
  have hb1 : Below w.heap.size w w1 := (Below.refl _ _).grown hg (Nat.le_refl _) (by intro k hk; cases hk)
  have hown2 : w1.ownsRow w.heap.size 3 1 (.slice (some ⟨w.heap.size, 0, none⟩) xs.length xs.length) xs.length ((xs.take 0 ++ List.replicate (xs.length - 0) 0).map (Value.int .i64)) := by
    have := hown
    rw [show (Value.int .i64 0).cells = #[.int .i64 0] from rfl, toList_madeCells_one] at this
    simpa using this
  clear hown hg hi hz0 hz1 hz2
  go_loopw [4] (fun i wr => ∃ k : Nat, k ≤ xs.length ∧ i = .int .i64 k ∧ Below w.heap.size w wr ∧
      wr.ownsRow w.heap.size 3 1 (.slice (some ⟨w.heap.size, 0, none⟩) xs.length xs.length) xs.length ((xs.take k ++ List.replicate (xs.length - k) 0).map (Value.int .i64)))
    (fun i _ => xs.length - (intOf i).toNat)
  case atStart => exact ⟨0, Nat.zero_le _, rfl, hb1, hown2⟩
  case round =>
    obtain ⟨k, hk, rfl, hb, hown⟩ := hrel
    by_cases hlt : k < xs.length
    · obtain ⟨b, off, rfl, hc⟩ := h3 (by omega)
      obtain ⟨d, hd⟩ : ∃ d, xs[k]? = some d := ⟨_, List.getElem?_eq_getElem hlt⟩
      have hcw := hc k d hd
      have hcell : wr.cell? ⟨b, off + k, none⟩ = some (.int .i64 d) := (hb.cell (World.block_lt_of_cell? w _ hcw)).trans hcw
      obtain ⟨u, hu⟩ : ∃ u, wr.cell? ⟨w.heap.size, k, none⟩ = some u := by
        rw [World.ownsRow.cellAt hown k (by omega)]
        exact ⟨_, List.getElem?_eq_getElem (by simp; omega)⟩
      have hfz := World.ownsRow.frozenAt hown k
      have hst := World.ownsRow.stored hown k (.int .i64 d)
      have HS := Lib.hid hst.1
      have HG := Lib.hid hst.2
      have HD := Lib.hid hd; clear hd hc h3 hst hown hown2 hcw
      go_wp2
      go_roundw
      case rel => exact ⟨k + 1, by omega, by go_num, hb.setCell (Nat.le_refl _) _, by have := HS.out; rw [← List.map_set, fill_set rfl hlt HD.out] at this; exact this⟩
      case measure => simp [intOf]; omega
    · have hkk : k = xs.length := by omega
      subst hkk
      have HO := Lib.hid hown; clear hown hown2
      go_wp2
      go_ret
      exact ⟨_, rfl, by have := HO.out; simpa [Own] using this, hb⟩

theorem list_ne {xs ys : List Int} {k : Nat} {d f : Int} (hd : xs[k]? = some d) (hf : ys[k]? = some f) (h : d ≠ f) : xs ≠ ys := by
  rintro rfl
  rw [hd] at hf
  exact h (Option.some.inj hf)
theorem take_snoc {α : Type} {xs : List α} {k : Nat} {d : α} (hd : xs[k]? = some d) : xs.take (k + 1) = xs.take k ++ [d] := by
  rw [List.take_add_one, hd]; rfl

set_option maxHeartbeats 400000 in
theorem laws_eqIntS (u v : Value) (xs ys : List Int) (w : World) (hu : Sl w u xs) (hv : Sl w v ys) :
    Calls Tryd.prog 17 #[u, v] w fun e w' => e = .returned (.bool (decide (xs = ys))) ∧ ∃ n, w' = w.drewN n := by
  obtain ⟨A, c, rfl, h1, h2, h3⟩ := hu
  obtain ⟨B, c', rfl, k1, k2, k3⟩ := hv
  have hm : xs.length ≤ 9223372036854775807 := by unfold maxLen at h2; omega
  by_cases hlen : xs.length = ys.length
  · have hb : ((xs.length : Int) != (ys.length : Int)) = false := by simp [hlen]
    have HL := Lib.hid hlen; clear hlen
    go_enter Tryd.func17, Tryd.ntmps17
    go_wp2
    go_loopw [5] (fun i wr => ∃ k : Nat, k ≤ xs.length ∧ i = .int .i64 k ∧ (∃ n, wr = w.drewN n) ∧ xs.take k = ys.take k) (fun i _ => xs.length - (intOf i).toNat)
    case atStart => exact ⟨0, Nat.zero_le _, rfl, ⟨0, rfl⟩, rfl⟩
    case round =>
      obtain ⟨k, hk, rfl, ⟨m, rfl⟩, heq⟩ := hrel
      have HE := Lib.hid heq; clear heq
      by_cases hlt : k < xs.length
      · have hlt' : k < ys.length := by rw [← HL.out]; exact hlt
        obtain ⟨b, off, rfl, hc⟩ := h3 (by omega)
        obtain ⟨b', off', rfl, hc'⟩ := k3 (by omega)
        obtain ⟨d, hd⟩ : ∃ d, xs[k]? = some d := ⟨_, List.getElem?_eq_getElem hlt⟩
        obtain ⟨f, hf⟩ : ∃ f, ys[k]? = some f := ⟨_, List.getElem?_eq_getElem hlt'⟩
        have hcell : w.cell? ⟨b, off + k, none⟩ = some (.int .i64 d) := hc k d hd
        have hcell' : w.cell? ⟨b', off' + k, none⟩ = some (.int .i64 f) := hc' k f hf
        have HD := Lib.hid hd
        have HF := Lib.hid hf; clear hd hc h3 hf hc' k3
        have i1 : (k : Int) < (xs.length : Int) := by omega
        have i2 : (k : Int) < (ys.length : Int) := by omega
        by_cases hdf : d = f
        · have hne : (d != f) = false := by simp [hdf]
          have HDF := Lib.hid hdf; clear hdf
          go_wp2
          go_quiet (fail)
          go_wp2
          go_roundw
          case rel => exact ⟨k + 1, by omega, by go_num, ⟨_, rfl⟩, by rw [take_snoc HD.out, take_snoc HF.out, HE.out, HDF.out]⟩
          case measure => simp [intOf]; omega
        · have hne : (d != f) = true := by simp [hdf]
          go_wp2
          go_quiet (fail)
          go_wp2
          go_ret
          exact ⟨ret_bool (by simpa using (list_ne HD.out HF.out hdf)), ⟨_, World.drewN_drewN _ _ _⟩⟩
      · have hkk : k = xs.length := by omega
        have HK := Lib.hid hkk; clear hkk
        go_wp2
        go_ret
        exact ⟨ret_bool (by have := HE.out; rw [HK.out, List.take_length, HL.out, List.take_length] at this; simp [this]), ⟨_, rfl⟩⟩
  · have hb : ((xs.length : Int) != (ys.length : Int)) = true := by simp; omega
    go_enter Tryd.func17, Tryd.ntmps17
    go_wp2
    go_ret
    exact ⟨ret_bool (by symm; simp; rintro rfl; exact hlen rfl), ⟨0, rfl⟩⟩
end Go.Proofs.YticekjagmcphbaaDoor
