/-
  Contracts: RatEqual of both packages. Written by an AI agent.
-/
import Derived.Test.YthbpdlmcpgegpaaRat
namespace Go.Proofs.Ythbpdlmcpgegpaa
open Go.RowKit

/-- Are two fractions the same, sign and lists? -/
def ratEqF (s t : Bool) (xs ys us vs : List Int) : Bool := decide (s = t) && (decide (xs = us) && decide (ys = vs))


set_option maxHeartbeats 1000000 in
theorem impl_same (u v : Value) (xs ys : List Int) (w : World) (hu : Sl w u xs) (hv : Sl w v ys) :
    Calls Try.prog 70 #[u, v] w fun e w' => e = .returned (.bool (decide (xs = ys))) ∧ ∃ n, w' = w.drewN n := by
  obtain ⟨A, c, rfl, h1, h2, h3⟩ := hu
  obtain ⟨B, c', rfl, k1, k2, k3⟩ := hv
  have hm : xs.length ≤ 9223372036854775807 := by unfold maxLen at h2; omega
  by_cases hlen : xs.length = ys.length
  · have hb : ((xs.length : Int) != (ys.length : Int)) = false := by simp [hlen]
    have HL := Lib.hid hlen; clear hlen
    go_enter Try.func70, Try.ntmps70
    go_wp2
    go_loopw [5, 6, 14] (fun _ _ i wr => ∃ k : Nat, k ≤ xs.length ∧ i = .int .i64 k ∧ (∃ n, wr = w.drewN n) ∧ xs.take k = ys.take k) (fun _ _ i _ => xs.length - (intOf i).toNat)
    case atStart => exact ⟨0, Nat.zero_le _, rfl, ⟨0, rfl⟩, rfl⟩
    case round =>
      obtain ⟨k, hk, rfl, ⟨m, rfl⟩, heq⟩ := hrel
      have HE := Lib.hid heq; clear heq
      by_cases hlt : k < xs.length
      · have hlt' : k < ys.length := by rw [← HL.out]; exact hlt
        obtain ⟨b, off, rfl, hc⟩ := h3 (by omega)
        obtain ⟨b', off', rfl, hc'⟩ := k3 (by omega)
        obtain ⟨d, hd⟩ : ∃ d, xs[k]? = some d := ⟨_, List.getElem?_eq_getElem hlt⟩
        obtain ⟨f, hf⟩ : ∃ f, ys[k]? = some f := ⟨_, List.getElem?_eq_getElem hlt'⟩
        have hcell : w.cell? ⟨b, off + k, none⟩ = some (.int .i64 d) := hc k d hd
        have hcell' : w.cell? ⟨b', off' + k, none⟩ = some (.int .i64 f) := hc' k f hf
        have HD := Lib.hid hd
        have HF := Lib.hid hf; clear hd hc h3 hf hc' k3
        have i1 : (k : Int) < (xs.length : Int) := by omega
        have i2 : (k : Int) < (ys.length : Int) := by omega
        by_cases hdf : d = f
        · have hne : (d != f) = false := by simp [hdf]
          have HDF := Lib.hid hdf; clear hdf
          go_wp2
          first | (go_quiet (fail)) | skip
          go_wp2
          go_roundw
          case rel => exact ⟨k + 1, by omega, by go_num, ⟨_, rfl⟩, by rw [take_snoc HD.out, take_snoc HF.out, HE.out, HDF.out]⟩
          case measure => simp [intOf]; omega
        · have hne : (d != f) = true := by simp [hdf]
          go_wp2
          first | (go_quiet (fail)) | skip
          go_wp2
          go_ret
          exact ⟨ret_bool (by simpa using (list_ne HD.out HF.out hdf)), ⟨_, by first | rfl | exact World.drewN_drewN _ _ _⟩⟩
      · have hkk : k = xs.length := by omega
        have HK := Lib.hid hkk; clear hkk
        go_wp2
        go_ret
        exact ⟨ret_bool (by have := HE.out; rw [HK.out, List.take_length, HL.out, List.take_length] at this; simp [this]), ⟨_, rfl⟩⟩
  · have hb : ((xs.length : Int) != (ys.length : Int)) = true := by simp; omega
    go_enter Try.func70, Try.ntmps70
    go_wp2
    go_ret
    exact ⟨ret_bool (by symm; simp; rintro rfl; exact hlen rfl), ⟨0, rfl⟩⟩

set_option maxHeartbeats 1000000 in
theorem spec_same (u v : Value) (xs ys : List Int) (w : World) (hu : Sl w u xs) (hv : Sl w v ys) :
    Calls Try.prog 69 #[u, v] w fun e w' => e = .returned (.bool (decide (xs = ys))) ∧ ∃ n, w' = w.drewN n := by
  obtain ⟨A, c, rfl, h1, h2, h3⟩ := hu
  obtain ⟨B, c', rfl, k1, k2, k3⟩ := hv
  have hm : xs.length ≤ 9223372036854775807 := by unfold maxLen at h2; omega
  by_cases hlen : xs.length = ys.length
  · have hb : ((xs.length : Int) != (ys.length : Int)) = false := by simp [hlen]
    have HL := Lib.hid hlen; clear hlen
    go_enter Try.func69, Try.ntmps69
    go_wp2
    go_loopw [5, 13] (fun _ i wr => ∃ k : Nat, k ≤ xs.length ∧ i = .int .i64 k ∧ (∃ n, wr = w.drewN n) ∧ xs.take k = ys.take k) (fun _ i _ => xs.length - (intOf i).toNat)
    case atStart => exact ⟨0, Nat.zero_le _, rfl, ⟨0, rfl⟩, rfl⟩
    case round =>
      obtain ⟨k, hk, rfl, ⟨m, rfl⟩, heq⟩ := hrel
      have HE := Lib.hid heq; clear heq
      by_cases hlt : k < xs.length
      · have hlt' : k < ys.length := by rw [← HL.out]; exact hlt
        obtain ⟨b, off, rfl, hc⟩ := h3 (by omega)
        obtain ⟨b', off', rfl, hc'⟩ := k3 (by omega)
        obtain ⟨d, hd⟩ : ∃ d, xs[k]? = some d := ⟨_, List.getElem?_eq_getElem hlt⟩
        obtain ⟨f, hf⟩ : ∃ f, ys[k]? = some f := ⟨_, List.getElem?_eq_getElem hlt'⟩
        have hcell : w.cell? ⟨b, off + k, none⟩ = some (.int .i64 d) := hc k d hd
        have hcell' : w.cell? ⟨b', off' + k, none⟩ = some (.int .i64 f) := hc' k f hf
        have HD := Lib.hid hd
        have HF := Lib.hid hf; clear hd hc h3 hf hc' k3
        have i1 : (k : Int) < (xs.length : Int) := by omega
        have i2 : (k : Int) < (ys.length : Int) := by omega
        by_cases hdf : d = f
        · have hne : (d != f) = false := by simp [hdf]
          have HDF := Lib.hid hdf; clear hdf
          go_wp2
          first | (go_quiet (fail)) | skip
          go_wp2
          go_roundw
          case rel => exact ⟨k + 1, by omega, by go_num, ⟨_, rfl⟩, by rw [take_snoc HD.out, take_snoc HF.out, HE.out, HDF.out]⟩
          case measure => simp [intOf]; omega
        · have hne : (d != f) = true := by simp [hdf]
          go_wp2
          first | (go_quiet (fail)) | skip
          go_wp2
          go_ret
          exact ⟨ret_bool (by simpa using (list_ne HD.out HF.out hdf)), ⟨_, by first | rfl | exact World.drewN_drewN _ _ _⟩⟩
      · have hkk : k = xs.length := by omega
        have HK := Lib.hid hkk; clear hkk
        go_wp2
        go_ret
        exact ⟨ret_bool (by have := HE.out; rw [HK.out, List.take_length, HL.out, List.take_length] at this; simp [this]), ⟨_, rfl⟩⟩
  · have hb : ((xs.length : Int) != (ys.length : Int)) = true := by simp; omega
    go_enter Try.func69, Try.ntmps69
    go_wp2
    go_ret
    exact ⟨ret_bool (by symm; simp; rintro rfl; exact hlen rfl), ⟨0, rfl⟩⟩

theorem same_ints {f : Nat} {u v : Value} {xs ys : List Int} {w : World} (h : Calls Try.prog f #[u, v] w fun e w' => e = .returned (.bool (decide (xs = ys))) ∧ ∃ n, w' = w.drewN n) :
    Calls Try.prog f #[u, v] w fun e w' => e = .returned (.bool (decide (xs = ys))) ∧ Below w.heap.size w w' := h.mono fun _ _ ⟨he, hw⟩ => ⟨he, below_of_same hw⟩

set_option maxHeartbeats 2000000 in
theorem impl_RatEqual (s t : Bool) (A B C D : Option Addr) (n c m d n' c' m' d' : Nat) (xs ys us vs : List Int) (w : World) (h1 : Sl w (.slice A n c) xs) (h2 : Sl w (.slice B m d) ys) (h3 : Sl w (.slice C n' c') us) (h4 : Sl w (.slice D m' d') vs) :
    Calls Try.prog 32 #[.agg #[.bool s, .slice A n c, .slice B m d], .agg #[.bool t, .slice C n' c', .slice D m' d']] w fun e w' => e = .returned (.bool (ratEqF s t xs ys us vs)) ∧ Below w.heap.size w w' := by
  have H1 := Lib.hid h1
  have H2 := Lib.hid h2
  have H3 := Lib.hid h3
  have H4 := Lib.hid h4
  clear h1 h2 h3 h4
  have zz : w.heap.size < w.heap.size + 1 + 1 := by omega
  have nn := Nat.ne_of_lt zz
  have mm := (Nat.ne_of_lt zz).symm
  by_cases hst : s = t
  · subst hst
    have hb : (s == s) = true := by simp
    have HS := Lib.hid (show decide (s = s) = true by simp)
    by_cases hx : xs = us
    · have HX := Lib.hid (show decide (xs = us) = true by simpa using hx)
      have HR := Lib.hid (show ratEqF s s xs ys us vs = decide (ys = vs) by unfold ratEqF; rw [HS.out, HX.out]; rfl)
      clear hx
      go_enter Try.func32, Try.ntmps32
      go_wp2_with fail
      (with_reducible refine (same_ints (impl_same _ _ xs us _ (H1.out.below (by repeat' (first | (with_reducible exact Below.refl _ _) | (with_reducible refine Below.alloc ?_ ?_ _) | (with_reducible refine Below.setCell ?_ ?_ _) | (with_reducible refine below_drewN ?_ _) | (with_reducible refine Below.drew ?_) | (with_reducible refine below_step (by assumption) ?_ ?_) | omega | (simp; done) | (simp; omega)))) (H3.out.below (by repeat' (first | (with_reducible exact Below.refl _ _) | (with_reducible refine Below.alloc ?_ ?_ _) | (with_reducible refine Below.setCell ?_ ?_ _) | (with_reducible refine below_drewN ?_ _) | (with_reducible refine Below.drew ?_) | (with_reducible refine below_step (by assumption) ?_ ?_) | omega | (simp; done) | (simp; omega)))))).mono ?_); rintro e w1 ⟨rfl, b1⟩; obtain ⟨hc1, hf1⟩ := bxcell b1; have q1_0 := fun o => hc1 (w.heap.size) o (by first | omega | (simp; done) | (simp; omega)); have q1_1 := fun o => hc1 (w.heap.size + 1) o (by first | omega | (simp; done) | (simp; omega)); have f1_0 := fun o => hf1 (w.heap.size) o (by first | omega | (simp; done) | (simp; omega)); have f1_1 := fun o => hf1 (w.heap.size + 1) o (by first | omega | (simp; done) | (simp; omega)); have hz1 := b1.size; (try simp at hz1); have z1_0 : w.heap.size < w1.heap.size := (by omega); have n1_0 := Nat.ne_of_lt z1_0; have m1_0 := (Nat.ne_of_lt z1_0).symm; have z1_1 : w.heap.size + 1 < w1.heap.size := (by omega); have n1_1 := Nat.ne_of_lt z1_1; have m1_1 := (Nat.ne_of_lt z1_1).symm
      rw [HX.out]
      go_wp2_with fail
      (with_reducible refine (same_ints (impl_same _ _ ys vs _ (H2.out.below (by repeat' (first | (with_reducible exact Below.refl _ _) | (with_reducible refine Below.alloc ?_ ?_ _) | (with_reducible refine Below.setCell ?_ ?_ _) | (with_reducible refine below_drewN ?_ _) | (with_reducible refine Below.drew ?_) | (with_reducible refine below_step (by assumption) ?_ ?_) | omega | (simp; done) | (simp; omega)))) (H4.out.below (by repeat' (first | (with_reducible exact Below.refl _ _) | (with_reducible refine Below.alloc ?_ ?_ _) | (with_reducible refine Below.setCell ?_ ?_ _) | (with_reducible refine below_drewN ?_ _) | (with_reducible refine Below.drew ?_) | (with_reducible refine below_step (by assumption) ?_ ?_) | omega | (simp; done) | (simp; omega)))))).mono ?_); rintro e w2 ⟨rfl, b2⟩; obtain ⟨hc2, hf2⟩ := bxcell b2; have q2_0 := fun o => hc2 (w.heap.size) o (by first | omega | (simp; done) | (simp; omega)); have q2_1 := fun o => hc2 (w.heap.size + 1) o (by first | omega | (simp; done) | (simp; omega)); have f2_0 := fun o => hf2 (w.heap.size) o (by first | omega | (simp; done) | (simp; omega)); have f2_1 := fun o => hf2 (w.heap.size + 1) o (by first | omega | (simp; done) | (simp; omega)); have hz2 := b2.size; (try simp at hz2); have z2_0 : w.heap.size < w2.heap.size := (by omega); have n2_0 := Nat.ne_of_lt z2_0; have m2_0 := (Nat.ne_of_lt z2_0).symm; have z2_1 : w.heap.size + 1 < w2.heap.size := (by omega); have n2_1 := Nat.ne_of_lt z2_1; have m2_1 := (Nat.ne_of_lt z2_1).symm
      go_wp2
      go_ret
      exact ⟨ret_bool HR.out.symm, (by repeat' (first | (with_reducible exact Below.refl _ _) | (with_reducible refine Below.alloc ?_ ?_ _) | (with_reducible refine Below.setCell ?_ ?_ _) | (with_reducible refine below_drewN ?_ _) | (with_reducible refine Below.drew ?_) | (with_reducible refine below_step (by assumption) ?_ ?_) | omega | (simp; done) | (simp; omega)))⟩
    · have HX := Lib.hid (show decide (xs = us) = false by simpa using hx)
      have HR := Lib.hid (show ratEqF s s xs ys us vs = false by unfold ratEqF; rw [HS.out, HX.out]; rfl)
      clear hx
      go_enter Try.func32, Try.ntmps32
      go_wp2_with fail
      (with_reducible refine (same_ints (impl_same _ _ xs us _ (H1.out.below (by repeat' (first | (with_reducible exact Below.refl _ _) | (with_reducible refine Below.alloc ?_ ?_ _) | (with_reducible refine Below.setCell ?_ ?_ _) | (with_reducible refine below_drewN ?_ _) | (with_reducible refine Below.drew ?_) | (with_reducible refine below_step (by assumption) ?_ ?_) | omega | (simp; done) | (simp; omega)))) (H3.out.below (by repeat' (first | (with_reducible exact Below.refl _ _) | (with_reducible refine Below.alloc ?_ ?_ _) | (with_reducible refine Below.setCell ?_ ?_ _) | (with_reducible refine below_drewN ?_ _) | (with_reducible refine Below.drew ?_) | (with_reducible refine below_step (by assumption) ?_ ?_) | omega | (simp; done) | (simp; omega)))))).mono ?_); rintro e w1 ⟨rfl, b1⟩; obtain ⟨hc1, hf1⟩ := bxcell b1; have q1_0 := fun o => hc1 (w.heap.size) o (by first | omega | (simp; done) | (simp; omega)); have q1_1 := fun o => hc1 (w.heap.size + 1) o (by first | omega | (simp; done) | (simp; omega)); have f1_0 := fun o => hf1 (w.heap.size) o (by first | omega | (simp; done) | (simp; omega)); have f1_1 := fun o => hf1 (w.heap.size + 1) o (by first | omega | (simp; done) | (simp; omega)); have hz1 := b1.size; (try simp at hz1); have z1_0 : w.heap.size < w1.heap.size := (by omega); have n1_0 := Nat.ne_of_lt z1_0; have m1_0 := (Nat.ne_of_lt z1_0).symm; have z1_1 : w.heap.size + 1 < w1.heap.size := (by omega); have n1_1 := Nat.ne_of_lt z1_1; have m1_1 := (Nat.ne_of_lt z1_1).symm
      rw [HX.out]
      go_wp2
      go_ret
      exact ⟨ret_bool HR.out.symm, (by repeat' (first | (with_reducible exact Below.refl _ _) | (with_reducible refine Below.alloc ?_ ?_ _) | (with_reducible refine Below.setCell ?_ ?_ _) | (with_reducible refine below_drewN ?_ _) | (with_reducible refine Below.drew ?_) | (with_reducible refine below_step (by assumption) ?_ ?_) | omega | (simp; done) | (simp; omega)))⟩
  · have hb : (s == t) = false := by simpa using hst
    have HR := Lib.hid (show ratEqF s t xs ys us vs = false by unfold ratEqF; rw [show decide (s = t) = false by simpa using hst]; rfl)
    clear hst
    go_enter Try.func32, Try.ntmps32
    go_wp2
    go_ret
    exact ⟨ret_bool HR.out.symm, (by repeat' (first | (with_reducible exact Below.refl _ _) | (with_reducible refine Below.alloc ?_ ?_ _) | (with_reducible refine Below.setCell ?_ ?_ _) | (with_reducible refine below_drewN ?_ _) | (with_reducible refine Below.drew ?_) | (with_reducible refine below_step (by assumption) ?_ ?_) | omega | (simp; done) | (simp; omega)))⟩

set_option maxHeartbeats 2000000 in
theorem spec_RatEqual (s t : Bool) (A B C D : Option Addr) (n c m d n' c' m' d' : Nat) (xs ys us vs : List Int) (w : World) (h1 : Sl w (.slice A n c) xs) (h2 : Sl w (.slice B m d) ys) (h3 : Sl w (.slice C n' c') us) (h4 : Sl w (.slice D m' d') vs) :
    Calls Try.prog 30 #[.agg #[.bool s, .slice A n c, .slice B m d], .agg #[.bool t, .slice C n' c', .slice D m' d']] w fun e w' => e = .returned (.bool (ratEqF s t xs ys us vs)) ∧ Below w.heap.size w w' := by
  have H1 := Lib.hid h1
  have H2 := Lib.hid h2
  have H3 := Lib.hid h3
  have H4 := Lib.hid h4
  clear h1 h2 h3 h4
  have zz : w.heap.size < w.heap.size + 1 + 1 := by omega
  have nn := Nat.ne_of_lt zz
  have mm := (Nat.ne_of_lt zz).symm
  by_cases hst : s = t
  · subst hst
    have hb : (s == s) = true := by simp
    have HS := Lib.hid (show decide (s = s) = true by simp)
    by_cases hx : xs = us
    · have HX := Lib.hid (show decide (xs = us) = true by simpa using hx)
      have HR := Lib.hid (show ratEqF s s xs ys us vs = decide (ys = vs) by unfold ratEqF; rw [HS.out, HX.out]; rfl)
      clear hx
      go_enter Try.func30, Try.ntmps30
      go_wp2_with fail
      (with_reducible refine (same_ints (spec_same _ _ xs us _ (H1.out.below (by repeat' (first | (with_reducible exact Below.refl _ _) | (with_reducible refine Below.alloc ?_ ?_ _) | (with_reducible refine Below.setCell ?_ ?_ _) | (with_reducible refine below_drewN ?_ _) | (with_reducible refine Below.drew ?_) | (with_reducible refine below_step (by assumption) ?_ ?_) | omega | (simp; done) | (simp; omega)))) (H3.out.below (by repeat' (first | (with_reducible exact Below.refl _ _) | (with_reducible refine Below.alloc ?_ ?_ _) | (with_reducible refine Below.setCell ?_ ?_ _) | (with_reducible refine below_drewN ?_ _) | (with_reducible refine Below.drew ?_) | (with_reducible refine below_step (by assumption) ?_ ?_) | omega | (simp; done) | (simp; omega)))))).mono ?_); rintro e w1 ⟨rfl, b1⟩; obtain ⟨hc1, hf1⟩ := bxcell b1; have q1_0 := fun o => hc1 (w.heap.size) o (by first | omega | (simp; done) | (simp; omega)); have q1_1 := fun o => hc1 (w.heap.size + 1) o (by first | omega | (simp; done) | (simp; omega)); have f1_0 := fun o => hf1 (w.heap.size) o (by first | omega | (simp; done) | (simp; omega)); have f1_1 := fun o => hf1 (w.heap.size + 1) o (by first | omega | (simp; done) | (simp; omega)); have hz1 := b1.size; (try simp at hz1); have z1_0 : w.heap.size < w1.heap.size := (by omega); have n1_0 := Nat.ne_of_lt z1_0; have m1_0 := (Nat.ne_of_lt z1_0).symm; have z1_1 : w.heap.size + 1 < w1.heap.size := (by omega); have n1_1 := Nat.ne_of_lt z1_1; have m1_1 := (Nat.ne_of_lt z1_1).symm
      rw [HX.out]
      go_wp2_with fail
      (with_reducible refine (same_ints (spec_same _ _ ys vs _ (H2.out.below (by repeat' (first | (with_reducible exact Below.refl _ _) | (with_reducible refine Below.alloc ?_ ?_ _) | (with_reducible refine Below.setCell ?_ ?_ _) | (with_reducible refine below_drewN ?_ _) | (with_reducible refine Below.drew ?_) | (with_reducible refine below_step (by assumption) ?_ ?_) | omega | (simp; done) | (simp; omega)))) (H4.out.below (by repeat' (first | (with_reducible exact Below.refl _ _) | (with_reducible refine Below.alloc ?_ ?_ _) | (with_reducible refine Below.setCell ?_ ?_ _) | (with_reducible refine below_drewN ?_ _) | (with_reducible refine Below.drew ?_) | (with_reducible refine below_step (by assumption) ?_ ?_) | omega | (simp; done) | (simp; omega)))))).mono ?_); rintro e w2 ⟨rfl, b2⟩; obtain ⟨hc2, hf2⟩ := bxcell b2; have q2_0 := fun o => hc2 (w.heap.size) o (by first | omega | (simp; done) | (simp; omega)); have q2_1 := fun o => hc2 (w.heap.size + 1) o (by first | omega | (simp; done) | (simp; omega)); have f2_0 := fun o => hf2 (w.heap.size) o (by first | omega | (simp; done) | (simp; omega)); have f2_1 := fun o => hf2 (w.heap.size + 1) o (by first | omega | (simp; done) | (simp; omega)); have hz2 := b2.size; (try simp at hz2); have z2_0 : w.heap.size < w2.heap.size := (by omega); have n2_0 := Nat.ne_of_lt z2_0; have m2_0 := (Nat.ne_of_lt z2_0).symm; have z2_1 : w.heap.size + 1 < w2.heap.size := (by omega); have n2_1 := Nat.ne_of_lt z2_1; have m2_1 := (Nat.ne_of_lt z2_1).symm
      go_wp2
      go_ret
      exact ⟨ret_bool HR.out.symm, (by repeat' (first | (with_reducible exact Below.refl _ _) | (with_reducible refine Below.alloc ?_ ?_ _) | (with_reducible refine Below.setCell ?_ ?_ _) | (with_reducible refine below_drewN ?_ _) | (with_reducible refine Below.drew ?_) | (with_reducible refine below_step (by assumption) ?_ ?_) | omega | (simp; done) | (simp; omega)))⟩
    · have HX := Lib.hid (show decide (xs = us) = false by simpa using hx)
      have HR := Lib.hid (show ratEqF s s xs ys us vs = false by unfold ratEqF; rw [HS.out, HX.out]; rfl)
      clear hx
      go_enter Try.func30, Try.ntmps30
      go_wp2_with fail
      (with_reducible refine (same_ints (spec_same _ _ xs us _ (H1.out.below (by repeat' (first | (with_reducible exact Below.refl _ _) | (with_reducible refine Below.alloc ?_ ?_ _) | (with_reducible refine Below.setCell ?_ ?_ _) | (with_reducible refine below_drewN ?_ _) | (with_reducible refine Below.drew ?_) | (with_reducible refine below_step (by assumption) ?_ ?_) | omega | (simp; done) | (simp; omega)))) (H3.out.below (by repeat' (first | (with_reducible exact Below.refl _ _) | (with_reducible refine Below.alloc ?_ ?_ _) | (with_reducible refine Below.setCell ?_ ?_ _) | (with_reducible refine below_drewN ?_ _) | (with_reducible refine Below.drew ?_) | (with_reducible refine below_step (by assumption) ?_ ?_) | omega | (simp; done) | (simp; omega)))))).mono ?_); rintro e w1 ⟨rfl, b1⟩; obtain ⟨hc1, hf1⟩ := bxcell b1; have q1_0 := fun o => hc1 (w.heap.size) o (by first | omega | (simp; done) | (simp; omega)); have q1_1 := fun o => hc1 (w.heap.size + 1) o (by first | omega | (simp; done) | (simp; omega)); have f1_0 := fun o => hf1 (w.heap.size) o (by first | omega | (simp; done) | (simp; omega)); have f1_1 := fun o => hf1 (w.heap.size + 1) o (by first | omega | (simp; done) | (simp; omega)); have hz1 := b1.size; (try simp at hz1); have z1_0 : w.heap.size < w1.heap.size := (by omega); have n1_0 := Nat.ne_of_lt z1_0; have m1_0 := (Nat.ne_of_lt z1_0).symm; have z1_1 : w.heap.size + 1 < w1.heap.size := (by omega); have n1_1 := Nat.ne_of_lt z1_1; have m1_1 := (Nat.ne_of_lt z1_1).symm
      rw [HX.out]
      go_wp2
      go_ret
      exact ⟨ret_bool HR.out.symm, (by repeat' (first | (with_reducible exact Below.refl _ _) | (with_reducible refine Below.alloc ?_ ?_ _) | (with_reducible refine Below.setCell ?_ ?_ _) | (with_reducible refine below_drewN ?_ _) | (with_reducible refine Below.drew ?_) | (with_reducible refine below_step (by assumption) ?_ ?_) | omega | (simp; done) | (simp; omega)))⟩
  · have hb : (s == t) = false := by simpa using hst
    have HR := Lib.hid (show ratEqF s t xs ys us vs = false by unfold ratEqF; rw [show decide (s = t) = false by simpa using hst]; rfl)
    clear hst
    go_enter Try.func30, Try.ntmps30
    go_wp2
    go_ret
    exact ⟨ret_bool HR.out.symm, (by repeat' (first | (with_reducible exact Below.refl _ _) | (with_reducible refine Below.alloc ?_ ?_ _) | (with_reducible refine Below.setCell ?_ ?_ _) | (with_reducible refine below_drewN ?_ _) | (with_reducible refine Below.drew ?_) | (with_reducible refine below_step (by assumption) ?_ ?_) | omega | (simp; done) | (simp; omega)))⟩

end Go.Proofs.Ythbpdlmcpgegpaa
