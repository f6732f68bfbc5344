/-
  Contracts: division of the specification. Written by an AI agent.
-/
import Derived.Test.YticekjagmcphbaaGreatDoorDiv
import Derived.Test.YticekjagmcphbaaGreatDoorNatOf
namespace Go.Proofs.YticekjagmcphbaaGreatDoor
open Go.RowKit

set_option maxHeartbeats 4000000 in
theorem spec_natSmall (v : Value) (m n : Nat) (y : Int) (w : World) (hu : Sl w v (toL m)) (hm : m < pw 200) (hy : y = (n : Int)) (h0 : 0 < n) (h1 : n < 1000000000) :
    Calls Tryz.prog 89 #[v, .int .i64 y] w fun e w' => ∃ r, e = .returned (.tuple #[r, .int .i64 ((m % n : Nat) : Int)]) ∧ OwnR w' w.heap.size (w.heap.size + 1) 3 r (toL (m / n)) ∧ Below w.heap.size w w' ∧ w.heap.size < w'.heap.size := by
  obtain ⟨A, c, rfl, g1, g2, g3⟩ := hu
  have hl1 : (toL m).length ≤ 200 := toL_len_lt hm
  clear hm
  have hgx := @lim_get m
  have hst := DivOut.start m n (toL m).length h0 lt_of_toL_len
  generalize toL m = xs at *
  have HGX : ∀ i, Hid (i < xs.length → xs[i]? = some (lim m i : Int)) := fun i => Lib.hid (@hgx i)
  have HST := Lib.hid hst
  have y0 : 1 ≤ y := by omega
  have y1 : y < 1000000000 := by omega
  have hyz : ¬ y = 0 := by omega
  have hnz : (y == 0) = false := by simp; omega
  have HY := Lib.hid hy
  have H0 := Lib.hid h0
  clear hgx hst hy h0 h1
  go_enter Tryz.func89, Tryz.ntmps89
  go_wp2_with (at_make; refine wpList_mk _ rfl _ rfl Tryz.intP xs.length rfl rfl (by omega) ?_; intro w1 hrow0 hb0)
  go_loopw [7, 8] (fun r i wr => ∃ (k q : Nat) (Q : List Int) (x : Int) (z : Int), r = .int .i64 z ∧ z = (q : Int) ∧ i = .int .i64 x ∧ x = (k : Int) - 1 ∧ k ≤ xs.length ∧ DivOut m n k Q q ∧ Row wr w.heap.size 3 w.heap.size xs.length Q ∧ Below w.heap.size w wr) (fun _ i _ => (intOf i + 1).toNat)
  case atStart => exact ⟨xs.length, 0, _, _, _, rfl, rfl, rfl, rfl, Nat.le_refl _, HST.out, hrow0, hb0⟩
  case round =>
    obtain ⟨k, q, Q, x, z, rfl, hzq, rfl, hx, hk, hout, hrow, hb⟩ := hrel
    clear hrow0 hb0
    cases k with
    | succ j =>
      obtain rfl : x = (j : Int) := by omega
      obtain ⟨b, off, rfl, hc⟩ := g3 (by omega)
      obtain ⟨d, hd⟩ : ∃ d : Int, d = (lim m j : Int) := ⟨_, rfl⟩
      have hcw := hc j d (by rw [(HGX j).out (by omega), hd])
      have hcell : wr.cell? ⟨b, off + j, none⟩ = some (.int .i64 d) := (hb.cell (World.block_lt_of_cell? w _ hcw)).trans hcw
      have d0 : 0 ≤ d := by omega
      have d1 : d < 1000000000 := by have := lim_lt m j; omega
      have hin : DivIn m n j q ((lim m j + 1000000000 * q) / n) ((lim m j + 1000000000 * q) % n) := by
        unfold DivIn
        rw [Nat.mul_comm]
        exact Nat.div_add_mod _ n
      have hql := hout.2.1
      have hpl := hrow.len
      have z0 : 0 ≤ z := by omega
      have z1 : z < 1000000000 := by have := HY.out; omega
      have hcl := hin.close hout (Nat.mod_lt _ H0.out) (by omega)
      have e1 : (((lim m j + 1000000000 * q) / n : Nat) : Int) = (z * 1000000000 + d) / y := by
        rw [HY.out, Int.natCast_ediv, show z * 1000000000 + d = ((lim m j + 1000000000 * q : Nat) : Int) by omega]
      have e2 : (((lim m j + 1000000000 * q) % n : Nat) : Int) = (z * 1000000000 + d) % y := by
        rw [HY.out, Int.natCast_emod, show z * 1000000000 + d = ((lim m j + 1000000000 * q : Nat) : Int) by omega]
      have hx9 := hin.digit hout
      rw [e1] at hcl
      have q0 : 0 ≤ (z * 1000000000 + d) / y := by rw [← e1]; exact Int.natCast_nonneg _
      have r0 : 0 ≤ (z * 1000000000 + d) % y := by rw [← e2]; exact Int.natCast_nonneg _
      have q1 : (z * 1000000000 + d) / y < 1000000000 := by rw [← e1]; omega
      have r1 : (z * 1000000000 + d) % y < 1000000000 := by have := Int.emod_lt_of_pos (z * 1000000000 + d) (show 0 < y by omega); omega
      obtain ⟨u, hu⟩ := hrow.cellAt (j := j) (by omega)
      have hfz := hrow.frozen j
      have HCL := Lib.hid hcl
      have HE2 := Lib.hid e2
      have HO := Lib.hid hout
      have HB := Lib.hid hb
      have HR := Lib.hid hrow
      clear hin hql hpl hcl e1 e2 hx9 hd hc hcw g3 hout hb hrow hzq hx
      have hjl : j < xs.length := by omega
      go_wp2
      go_roundw
      case rel => exact ⟨j, _, _, _, _, rfl, by rw [HE2.out], by go_num, rfl, by omega, HCL.out, HR.out.set_ j _, HB.out.setCell (Nat.le_refl _) _⟩
      case measure => simp [intOf]
    | zero =>
      obtain rfl : x = -1 := by omega
      have hd := hout.done
      have HD := Lib.hid hd
      have hzz : Hid (z = ((m % n : Nat) : Int)) := Lib.hid (by rw [hzq, hd.2.2])
      have HR := Lib.hid hrow
      have hlt := hrow.lt
      have HB := Lib.hid hb
      clear hout hd hrow hb hzq hk hx
      go_wp2_with fail
      refine (spec_natTrim_row w.heap.size xs.length w.heap.size Q _ HR.out HD.out.1).mono ?_
      rintro e w3 ⟨r3, rfl, o3, rfl⟩
      rw [HD.out.2.1] at o3
      go_wp2
      go_ret2
      exact ⟨_, by rw [← hzz.out]; rfl, o3, HB.out, hlt⟩
end Go.Proofs.YticekjagmcphbaaGreatDoor
