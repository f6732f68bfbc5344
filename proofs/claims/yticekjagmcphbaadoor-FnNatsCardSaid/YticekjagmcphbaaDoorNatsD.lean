/-
  The drawn natural numbers. Written by an AI agent.
-/
import Derived.Test.YticekjagmcphbaaDoorDraw
import Derived.Test.YticekjagmcphbaaDoorTrim
import Derived.Test.YticekjagmcphbaaDoorOwn2
namespace Go.Proofs.YticekjagmcphbaaDoor
open Go.RowKit

theorem Cur.under {a b : World} {B g X : Nat} (h : Cur a B g) (hb : Below X a b) (hg : g < X) : Cur b B g := by
  obtain ⟨v, n, i, k, h1, h2, h3, r⟩ := h
  exact ⟨v, n, i, k, h1.below hb hg, h2, h3.below (hb.mono (by omega)), r⟩
theorem Only.step {w a b : World} {lo hi : Nat} (h : Only lo hi w a) (hb : Below w.heap.size a b) : Only lo hi w b :=
  ⟨hb.os.trans h.os, hb.tape.trans h.tape, hb.output.trans h.output, Nat.le_trans h.size hb.size, fun k hk ho => (hb.block k hk).trans (h.block k hk ho)⟩
theorem Own.only {w w' : World} {lo hi base e : Nat} {v : Value} {xs : List Int} (h : Own w base e v xs) (ho : Only lo hi w w') (hd : hi ≤ base) : Own w' base e v xs := ((OwnR.of h).only ho (.inr hd)).1

set_option maxHeartbeats 1000000 in
theorem spec_l01Pick (B g b n c : Nat) (w : World) (h : Cur w B g) (n0 : 0 < n) (n1 : n ≤ 1000) (hb : b ≠ g) (hi : Int) (hx : ∀ i, i < n → ∃ d : Int, 0 ≤ d ∧ d < hi ∧ w.cell? ⟨b, i, none⟩ = some (.int .i64 d)) :
    Calls Tryd.prog 105 #[.pointer (some ⟨g, 0, none⟩), .slice (some ⟨b, 0, none⟩) n c] w fun e w' => ∃ d : Int, e = .returned (.int .i64 d) ∧ 0 ≤ d ∧ d < hi ∧ Cur w' B g ∧ Only g (g + 1) w w' := by
  have HC := Lib.hid h
  have HX := Lib.hid hx
  clear h hx
  go_enter Tryd.func105, Tryd.ntmps105
  go_wp2_with fail
  refine (spec_l01Below B g (n : Int) _ HC.out (by omega) (by omega)).mono ?_
  rintro e w1 ⟨x, rfl, x0, x1, c1, o1⟩
  have C1 := Lib.hid c1
  have O1 := Lib.hid o1
  obtain ⟨j, rfl⟩ := Int.eq_ofNat_of_zero_le x0
  have hj : j < n := by omega
  obtain ⟨d, hd0, hd1, hcell⟩ := HX.out j hj
  have hbw := World.block_lt_of_cell? w _ hcell
  have hcl : w1.cell? ⟨b, j, none⟩ = some (.int .i64 d) := (o1.cell (b := b) (o := j) hbw (by omega)).trans hcell
  have HD := Lib.hid hd1
  clear c1 o1 hcell hd1
  go_wp2
  go_ret
  exact ⟨d, rfl, hd0, HD.out, C1.out, O1.out⟩
set_option maxHeartbeats 4000000 in
theorem spec_l02Nat (B g most : Nat) (w : World) (h : Cur w B g) (hm : most ≤ 100) :
    Calls Tryd.prog 81 #[.pointer (some ⟨g, 0, none⟩), .int .i64 (most : Int)] w fun e w' => ∃ r m, e = .returned r ∧ m < pw most ∧ Own w' w.heap.size 3 r (toL m) ∧ Cur w' B g ∧ Only g (g + 1) w w' := by
  have HC := Lib.hid h
  have hgl := h.lt
  clear h
  go_enter Tryd.func81, Tryd.ntmps81
  go_wp2_with fail
  have ba := (Below.refl w.heap.size w).alloc (Nat.le_refl _) (.cells #[] 3)
  refine (spec_l01Below B g ((most : Int) + 1) _ (HC.out.below ba) (by omega) (by omega)).mono ?_
  rintro e w1 ⟨x, rfl, x0, x1, c1, o1⟩
  have C1 := Lib.hid c1
  have HO := Lib.hid ((own_empty w (e := 3) (Nat.le_refl _)).only o1 (by omega))
  have H1 : Hid (Only g (g + 1) w w1) := Lib.hid ((Only.of_below ba).trans o1)
  clear c1 o1 ba
  go_wp2
  go_loopw [5, 6] (fun a q wr => ∃ (xs : List Int) (z : Int), q = .int .i64 z ∧ 0 ≤ z ∧ (xs.length : Int) + z ≤ (most : Int) ∧ Hid (Limbs xs) ∧ Hid (Own wr w.heap.size 3 a xs) ∧ Hid (Cur wr B g) ∧ Hid (Only g (g + 1) w wr)) (fun _ q _ => (intOf q).toNat)
  case atStart => exact ⟨[], x, rfl, x0, by simp; omega, Lib.hid Limbs.nil, HO, C1, H1⟩
  case round =>
    obtain ⟨xs, z, rfl, hz, hlen, HL, HOW, HCU, HON⟩ := hrel
    have hws := HON.out.size
    by_cases hlt : 0 < z
    · go_wp2_with fail
      refine (spec_l01Below B g 1000000000 _ HCU.out (by omega) (by omega)).mono ?_
      rintro e w2 ⟨y, rfl, y0, y1, c2, o2⟩
      have C2 := Lib.hid c2
      have O2 := Lib.hid (HOW.out.only o2 (by omega))
      have N2 := Lib.hid (HON.out.trans o2)
      have hs2 := o2.size
      clear c2 o2 HOW HCU HON
      go_wp2_with fail
      refine (spec_l01Below B g 1000000000 _ C2.out (by omega) (by omega)).mono ?_
      rintro e w3 ⟨u, rfl, u0, u1, c3, o3⟩
      have C3 := Lib.hid c3
      have O3 := Lib.hid (O2.out.only o3 (by omega))
      have N3 := Lib.hid (N2.out.trans o3)
      have hs3 := o3.size
      have hg3 := c3.lt
      clear c3 o3 C2 O2 N2
      go_wp2_with fail
      have bb := (Below.refl w3.heap.size w3).alloc (Nat.le_refl _) (.cells #[.int .i64 0, .int .i64 1, .int .i64 2, .int .i64 999999999, .int .i64 500000000, .int .i64 y, .int .i64 u] 3)
      refine (spec_l01Pick B g w3.heap.size 7 7 _ (C3.out.below bb) (by omega) (by omega) (by omega) 1000000000 (by
        intro i hi
        match i, hi with
        | 0, _ => exact ⟨0, by omega, by omega, by simp [go_sem]⟩
        | 1, _ => exact ⟨1, by omega, by omega, by simp [go_sem]⟩
        | 2, _ => exact ⟨2, by omega, by omega, by simp [go_sem]⟩
        | 3, _ => exact ⟨999999999, by omega, by omega, by simp [go_sem]⟩
        | 4, _ => exact ⟨500000000, by omega, by omega, by simp [go_sem]⟩
        | 5, _ => exact ⟨y, by omega, by omega, by simp [go_sem]⟩
        | 6, _ => exact ⟨u, by omega, by omega, by simp [go_sem]⟩)).mono ?_
      rintro e w4 ⟨d, rfl, d0, d1, c4, o4⟩
      have C4 := Lib.hid c4
      have O4 := Lib.hid (((OwnR.of O3.out).below bb (Nat.le_refl _)).1.only o4 (by omega))
      have N4 := Lib.hid ((N3.out.trans (Only.of_below bb)).trans o4)
      have hs4 : w3.heap.size + 1 ≤ w4.heap.size := by have := o4.size; simpa using this
      have hw4 : w.heap.size ≤ w4.heap.size := by omega
      clear c4 o4 bb C3 O3 N3
      go_wp2_with (at_builtin; refine wpList_app1 _ rfl _ _ rfl Tryd.intP O4.out rfl rfl (by omega) hw4 ?_; intro v' w5 hown' hb' hg'; clear hg')
      have O5 := Lib.hid hown'
      have C5 := Lib.hid (C4.out.under hb' hgl)
      have N5 := Lib.hid (N4.out.step hb')
      clear hown' hb'
      go_roundw
      case rel => exact ⟨xs ++ [d], z - 1, rfl, by omega, by simp; omega, Lib.hid (HL.out.append (Limbs.cons d0 d1 Limbs.nil)), O5, C5, N5⟩
      case measure => simp [intOf]; omega
    · obtain ⟨A, c, rfl, f1, f2, f3⟩ := HOW.out.form
      clear f3
      go_wp2_with fail
      refine (spec_natTrim A c xs _ HOW.out.sl HL.out).mono ?_
      rintro e w' ⟨rfl, rfl⟩
      go_wp2
      go_ret
      refine ⟨_, (val xs).toNat, rfl, ?_, ?_, HCU.out, HON.out⟩
      · have h1 := val_lt HL.out
        have h2 : pw xs.length ≤ pw most := pw_le (by omega)
        have h3 := pw_pos most
        omega
      · have h7 := HOW.out.cut (trim_le HL.out)
        rwa [trim_cut HL.out] at h7
set_option maxHeartbeats 1000000 in
theorem spec_MakeNat (v : Value) (n : Nat) (k : Int) (w : World) (h : SlB w w.heap.size v n) (hn : n ≤ 1048576) (k0 : 0 ≤ k) (k1 : k ≤ 100) :
    Calls Tryd.prog 40 #[v, .int .i64 k] w fun e w' => ∃ r m, e = .returned r ∧ m < pw 3 ∧ Own w' w.heap.size 3 r (toL m) ∧ Below w.heap.size w w' := by
  have HB := Lib.hid h
  clear h
  go_enter Tryd.func40, Tryd.ntmps40
  go_wp2_with fail
  refine (spec_l32New v n (4 * k) _ HB.out hn (by omega) (by omega)).mono ?_
  rintro e w1 ⟨g, rfl, c1, b1⟩
  have C1 := Lib.hid c1
  have hgb := c1.base
  have hz1 := b1.size
  clear c1
  go_wp2_with fail
  refine (spec_l02Nat _ g 3 _ C1.out (by omega)).mono ?_
  rintro e w2 ⟨r, m, rfl, hm, o2, c2, n2⟩
  have O2 := Lib.hid o2
  have HM := Lib.hid hm
  have b2 := (n2.below (Nat.le_of_lt C1.out.lt)).mono hgb
  clear o2 c2 n2 hm
  go_wp2
  go_ret
  exact ⟨r, m, rfl, HM.out, O2.out.rebase hz1, b1.trans b2⟩
end Go.Proofs.YticekjagmcphbaaDoor
