/-
  Contracts for the law FnWords: the drawn text; parts joined again. Written by an AI agent.
-/
import Derived.Test.YticekjagmcphbaaDoorDraw
import Derived.Test.YticekjagmcphbaaDoorSplit
import Derived.Test.YticekjagmcphbaaDoorJoinP
import Derived.Test.YticekjagmcphbaaDoorPIntC
namespace Go.Proofs.YticekjagmcphbaaDoor
open Go.RowKit

theorem tot_cons (d : ByteArray) (l : List ByteArray) : tot (d :: l) = d.size + tot l := by unfold tot; rw [List.map_cons, List.sum_cons]
theorem tot_parts {s b : ByteArray} : ∀ (n i f : Nat), n = s.size - i → f ≤ i → i ≤ s.size → tot (parts s b f i) ≤ s.size - f := by
  intro n
  induction n with
  | zero =>
    intro i f h h1 h2
    rw [parts_end (by omega), tot_cons]
    simp [tot, ByteArray.size_extract]
  | succ n ih =>
    intro i f h h1 h2
    have hi : i < s.size := by omega
    cases hb : hasB b s[i] with
    | true =>
      rw [parts_hit hi hb, tot_cons, ByteArray.size_extract]
      have := ih (i + 1) (i + 1) (by omega) (Nat.le_refl _) (by omega)
      omega
    | false =>
      rw [parts_miss hi hb]
      exact ih (i + 1) f (by omega) (by omega) (by omega)
theorem join_front (x : List UInt8) (r : List (List UInt8)) (sep : List UInt8) (h : r ≠ []) : Lib.join (x :: r) sep = x ++ sep ++ Lib.join r sep := by
  cases r with
  | nil => exact absurd rfl h
  | cons y t =>
    rw [Lib.join_cons, Lib.join_cons]
    unfold Lib.joinTail
    simp
theorem ext_list (s : ByteArray) (f i : Nat) : (s.extract f i).data.toList = (s.data.toList.take i).drop f := by
  rw [ByteArray.data_extract, Array.toList_extract, List.extract_eq_take_drop, List.drop_take]
theorem has_one (c d : UInt8) : hasB ⟨#[c]⟩ d = true ↔ c = d := by
  unfold hasB
  simp
theorem join_parts {s : ByteArray} {c : UInt8} : ∀ (n i f : Nat), n = s.size - i → f ≤ i → i ≤ s.size → joinB (parts s ⟨#[c]⟩ f i) ⟨#[c]⟩ = s.data.toList.drop f := by
  intro n
  induction n with
  | zero =>
    intro i f h h1 h2
    rw [parts_end (by omega)]
    unfold joinB
    rw [List.map_cons, List.map_nil, Lib.join_one, ext_list, List.take_of_length_le (by rw [list_size]; omega)]
  | succ n ih =>
    intro i f h h1 h2
    have hi : i < s.size := by omega
    cases hb : hasB ⟨#[c]⟩ s[i] with
    | true =>
      have hc := (has_one c s[i]).1 hb
      rw [parts_hit hi hb]
      have h3 := ih (i + 1) (i + 1) (by omega) (Nat.le_refl _) (by omega)
      unfold joinB at h3 ⊢
      rw [List.map_cons, join_front _ _ _ (by
        intro h4
        have h5 := parts_ne (s := s) (b := ⟨#[c]⟩) (s.size - (i + 1)) (i + 1) (i + 1) rfl
        have h6 := congrArg List.length h4
        rw [List.length_map, List.length_nil] at h6
        omega), h3, ext_list]
      have h7 : s.data.toList.drop f = (s.data.toList.take i).drop f ++ s.data.toList.drop i := by
        conv => lhs; rw [← List.take_append_drop i s.data.toList]
        rw [List.drop_append_of_le_length (by rw [List.length_take, list_size]; omega)]
      have h8 : s.data.toList.drop i = c :: s.data.toList.drop (i + 1) := by
        rw [List.drop_eq_getElem_cons (by rw [list_size]; exact hi)]
        congr 1
        rw [hc]
        rfl
      rw [h7, h8]
      simp
    | false =>
      rw [parts_miss hi hb]
      exact ih (i + 1) f (by omega) (by omega) (by omega)
theorem join_split (s : ByteArray) (c : UInt8) : joinF (splitF s ⟨#[c]⟩) ⟨#[c]⟩ = s := by
  unfold joinF splitF
  rw [join_parts s.size 0 0 rfl (Nat.le_refl _) (Nat.zero_le _), List.drop_zero]
theorem parse_fmt {n : Int} (h0 : -9223372036854775808 ≤ n) (h1 : n ≤ 9223372036854775807) : parseIntF ⟨(Lib.itoa n).toArray⟩ = (n, true) := parseInt_yes h0 h1 rfl
theorem name_x1 : nameB ⟨#[120, 49]⟩ = true := by
  refine nameB_good (by decide) (by decide) ?_
  intro j d hj hd
  have hj2 : j < 2 := hj
  match j, hj2, hd with
  | 0, _, hd => cases hd; decide
  | 1, _, hd => cases hd; decide
theorem lines_two : (linesF ⟨#[97, 10, 98, 10]⟩).length = 2 := by
  have e : splitF ⟨#[97, 10, 98, 10]⟩ ⟨#[10]⟩ = [⟨#[97]⟩, ⟨#[98]⟩, ⟨#[]⟩] := by
    unfold splitF
    rw [parts_miss (by decide) (by decide), parts_hit (by decide) (by decide), parts_miss (by decide) (by decide), parts_hit (by decide) (by decide), parts_end (by decide)]
    rfl
  unfold linesF
  rw [e]
  decide

theorem Only.cellAt {w w' : World} {lo hi b o : Nat} (h : Only lo hi w w') (hb : b < w.heap.size) (hd : b < lo ∨ hi ≤ b) : w'.cell? ⟨b, o, none⟩ = w.cell? ⟨b, o, none⟩ := World.cell?_of_block (w := w) (h.block b hb hd)
set_option maxHeartbeats 1000000 in
theorem spec_l01Str (B g b n c : Nat) (w : World) (h : Cur w B g) (n0 : 0 < n) (n1 : n ≤ 1000) (hb : b ≠ g) (K : Nat) (hx : ∀ i, i < n → ∃ d : ByteArray, d.size ≤ K ∧ w.cell? ⟨b, i, none⟩ = some (.string d)) :
    Calls Tryd.prog 78 #[.pointer (some ⟨g, 0, none⟩), .slice (some ⟨b, 0, none⟩) n c] w fun e w' => ∃ d : ByteArray, e = .returned (.string d) ∧ d.size ≤ K ∧ Cur w' B g ∧ Only g (g + 1) w w' := by
  have HC := Lib.hid h
  have HX := Lib.hid hx
  clear h hx
  go_enter Tryd.func78, Tryd.ntmps78
  go_wp2_with fail
  refine (spec_l01Below B g (n : Int) _ HC.out (by omega) (by omega)).mono ?_
  rintro e w1 ⟨x, rfl, x0, x1, c1, o1⟩
  have C1 := Lib.hid c1
  have O1 := Lib.hid o1
  obtain ⟨j, rfl⟩ := Int.eq_ofNat_of_zero_le x0
  have hj : j < n := by omega
  obtain ⟨d, hd, hcell⟩ := HX.out j hj
  have hbw := World.block_lt_of_cell? w _ hcell
  have hcl : w1.cell? ⟨b, j, none⟩ = some (.string d) := (o1.cellAt (b := b) (o := j) hbw (by omega)).trans hcell
  clear c1 o1 hcell
  go_wp2
  go_ret
  exact ⟨d, rfl, hd, C1.out, O1.out⟩
set_option maxHeartbeats 2000000 in
theorem spec_MakeText (v : Value) (n : Nat) (w : World) (h : SlB w w.heap.size v n) (hn : n ≤ 1048576) :
    Calls Tryd.prog 35 #[v] w fun e w' => ∃ s : ByteArray, e = .returned (.string s) ∧ s.size ≤ 100 ∧ Below w.heap.size w w' := by
  have HB := Lib.hid h
  clear h
  go_enter Tryd.func35, Tryd.ntmps35
  go_wp2_with fail
  refine (spec_l01New v n _ HB.out hn).mono ?_
  rintro e w1 ⟨g, rfl, c1, b1⟩
  have C1 := Lib.hid c1
  have hgb := c1.base
  clear c1
  go_wp2_with fail
  refine (spec_l01Below _ g 8 _ C1.out (by omega) (by omega)).mono ?_
  rintro e w2 ⟨x, rfl, x0, x1, c2, o2⟩
  have C2 := Lib.hid c2
  have b2 := (o2.below (Nat.le_of_lt C1.out.lt)).mono hgb
  clear c2 o2
  go_wp2
  go_loopw [4, 5] (fun s q wr => ∃ (bs : ByteArray) (z : Int), s = .string bs ∧ q = .int .i64 z ∧ 0 ≤ z ∧ (bs.size : Int) + 2 * z ≤ 14 ∧ Cur wr w.heap.size g ∧ Below w.heap.size w wr) (fun _ q _ => (intOf q).toNat)
  case atStart => exact ⟨⟨#[]⟩, x, rfl, rfl, x0, by show ((0 : Nat) : Int) + 2 * x ≤ 14; omega, C2.out, b1.trans b2⟩
  case round =>
    obtain ⟨bs, z, rfl, rfl, hz, hbs, hcur, hbl⟩ := hrel
    have C := Lib.hid hcur
    have hgl := hcur.lt
    have hwl := hbl.size
    clear hcur
    by_cases hlt : 0 < z
    · go_wp2_with fail
      have ba := (Below.refl wr.heap.size wr).alloc (Nat.le_refl _) (.cells #[.string ⟨#[97]⟩, .string ⟨#[98, 99]⟩, .string ⟨#[32]⟩, .string ⟨#[44]⟩, .string ⟨#[120, 49]⟩] 9)
      refine (spec_l01Str _ g wr.heap.size 5 5 _ (C.out.below ba) (by omega) (by omega) (by omega) 2 (by
        intro i hi
        match i, hi with
        | 0, _ => exact ⟨⟨#[97]⟩, by decide, by simp [go_sem]⟩
        | 1, _ => exact ⟨⟨#[98, 99]⟩, by decide, by simp [go_sem]⟩
        | 2, _ => exact ⟨⟨#[32]⟩, by decide, by simp [go_sem]⟩
        | 3, _ => exact ⟨⟨#[44]⟩, by decide, by simp [go_sem]⟩
        | 4, _ => exact ⟨⟨#[120, 49]⟩, by decide, by simp [go_sem]⟩)).mono ?_
      rintro e w3 ⟨d, rfl, hd, c3, o3⟩
      have C3 := Lib.hid c3
      have b3 : Below w.heap.size wr w3 := (ba.mono hwl).trans ((o3.below (by simp; omega)).mono hgb)
      have hds : (bs ++ d : ByteArray).size = bs.size + d.size := ByteArray.size_append
      have HDS := Lib.hid hds
      clear c3 o3 ba hds
      go_wp2
      go_roundw
      case rel => exact ⟨_, z - 1, rfl, rfl, by omega, by rw [HDS.out]; omega, C3.out, hbl.trans b3⟩
      case measure => simp [intOf]; omega
    · go_wp2
      go_ret
      exact ⟨bs, rfl, by omega, hbl⟩
end Go.Proofs.YticekjagmcphbaaDoor
