/-
  Contracts: BigIntFloorDiv of both packages. Written by an AI agent.
-/
import Derived.Test.YticekjagmcphbaaDoorRatM
namespace Go.Proofs.YticekjagmcphbaaDoor
open Go.RowKit

/-- The rounded quotient and the remainder of a sign and a magnitude by a positive number. -/
def floorQ (s : Bool) (m d : Nat) : Int := limZ (if s = true ∧ 0 < m % d then bigZ true (m / d + 1) else bigZ s (m / d))
def floorR (s : Bool) (m d : Nat) : Nat := if s = true ∧ 0 < m % d then d - m % d else m % d
def bigFloorF (s : Bool) (xs ms : List Int) : Int × Nat := if bigOk s xs && okB ms && decide (0 < ms.length) then (floorQ s (val xs).toNat (val ms).toNat, floorR s (val xs).toNat (val ms).toNat) else (0, 0)
theorem floorQ_round {s : Bool} {m d : Nat} (h : s = true) (h0 : 0 < m % d) : floorQ s m d = limZ (bigZ true (m / d + 1)) := by unfold floorQ; rw [if_pos ⟨h, h0⟩]
theorem floorR_round {s : Bool} {m d : Nat} (h : s = true) (h0 : 0 < m % d) : floorR s m d = d - m % d := by unfold floorR; rw [if_pos ⟨h, h0⟩]
theorem floorQ_plain {s : Bool} {m d : Nat} (h : ¬ (s = true ∧ 0 < m % d)) : floorQ s m d = limZ (bigZ s (m / d)) := by unfold floorQ; rw [if_neg h]
theorem floorR_plain {s : Bool} {m d : Nat} (h : ¬ (s = true ∧ 0 < m % d)) : floorR s m d = m % d := by unfold floorR; rw [if_neg h]
theorem floor_no {s : Bool} {xs ms : List Int} (h : (bigOk s xs && okB ms && decide (0 < ms.length)) = false) : bigFloorF s xs ms = (0, 0) := by unfold bigFloorF; rw [h]; rfl
theorem floor_yes {s : Bool} {m d : Nat} (h1 : bigOk s (toL m) = true) (h2 : okB (toL d) = true) (h3 : 0 < d) : bigFloorF s (toL m) (toL d) = (floorQ s m d, floorR s m d) := by
  unfold bigFloorF
  rw [h1, h2, decide_eq_true (toL_len_pos h3), val_toL, val_toL]
  rfl
theorem floor_len (s : Bool) (xs ms : List Int) : (toL (bigFloorF s xs ms).1.natAbs).length ≤ 2000000 ∧ (toL (bigFloorF s xs ms).2).length ≤ 2000000 := by
  unfold bigFloorF
  split
  · rename_i h
    rw [Bool.and_eq_true, Bool.and_eq_true] at h
    obtain ⟨d, rfl, hd⟩ := okB_toL h.1.2
    have hp := of_decide_eq_true h.2
    refine ⟨Nat.le_trans (zlen_lim _) (by omega), Nat.le_trans (toL_len_le.2 (Nat.lt_of_le_of_lt (m := (val (toL d)).toNat) ?_ (by rw [val_toL, Int.toNat_natCast]; exact hd))) (show 60 ≤ 2000000 by omega)⟩
    show floorR _ _ _ ≤ _
    unfold floorR
    have h0 : 0 < (val (toL d)).toNat := by
      rw [val_toL, Int.toNat_natCast]
      rcases Nat.eq_zero_or_pos d with h1 | h1
      · subst h1
        rw [toL_zero] at hp
        cases hp
      · exact h1
    have := Nat.mod_lt (val xs).toNat h0
    split <;> omega
  · exact ⟨by rw [show ((0 : Int), (0 : Nat)).1.natAbs = 0 from rfl, toL_zero]; simp, by rw [show ((0 : Int), (0 : Nat)).2 = 0 from rfl, toL_zero]; simp⟩
/-- A big int and a list of the call's own are handed back, apart from each other. -/
def RetFl (p : Int × Nat) (w : World) (en : Ending) (w' : World) : Prop :=
  ∃ A n c v lo hi lp hp, en = .returned (.tuple #[.agg #[.bool (decide (p.1 < 0)), .slice A n c], v]) ∧ OwnR w' lo hi 3 (.slice A n c) (toL p.1.natAbs) ∧ OwnR w' lp hp 3 v (toL p.2) ∧
    w.heap.size ≤ lo ∧ w.heap.size ≤ lp ∧ (hi ≤ lp ∨ hp ≤ lo) ∧ (hi ≤ w'.heap.size ∧ lo ≤ hi) ∧ (hp ≤ w'.heap.size ∧ lp ≤ hp) ∧ Below w.heap.size w w'
theorem OwnR.nil (w : World) (lo e : Nat) : OwnR w lo lo e (.slice none 0 0) [] := ⟨Own.nil _ _ _, fun k hk => by cases hk⟩
theorem retfl_zero {p : Int × Nat} {w w' : World} (h : p = (0, 0)) (b : Below w.heap.size w w') : RetFl p w (.returned (.tuple #[.agg #[.bool false, .slice none 0 0], .slice none 0 0])) w' := by
  subst h
  refine ⟨none, 0, 0, .slice none 0 0, w.heap.size, w.heap.size, w.heap.size, w.heap.size, rfl, ?_, ?_, Nat.le_refl _, Nat.le_refl _, .inl (Nat.le_refl _), ⟨b.size, Nat.le_refl _⟩, ⟨b.size, Nat.le_refl _⟩, b⟩
  · rw [show ((0 : Int), (0 : Nat)).1.natAbs = 0 from rfl, toL_zero]
    exact OwnR.nil _ _ _
  · rw [show ((0 : Int), (0 : Nat)).2 = 0 from rfl, toL_zero]
    exact OwnR.nil _ _ _
theorem retfl_made {p : Int × Nat} {q : Int} {r : Nat} {u : Bool} {A : Option Addr} {n c lo hi lp hp : Nat} {v : Value} {w w' : World} (h : p = (q, r)) (hu : u = decide (q < 0)) (o : OwnR w' lo hi 3 (.slice A n c) (toL q.natAbs)) (g : OwnR w' lp hp 3 v (toL r))
    (a : w.heap.size ≤ lo) (b : w.heap.size ≤ lp) (d : hi ≤ lp ∨ hp ≤ lo) (e : hi ≤ w'.heap.size ∧ lo ≤ hi) (f : hp ≤ w'.heap.size ∧ lp ≤ hp) (hb : Below w.heap.size w w') :
    RetFl p w (.returned (.tuple #[.agg #[.bool u, .slice A n c], v])) w' := by
  subst h hu
  exact ⟨A, n, c, v, lo, hi, lp, hp, rfl, o, g, a, b, d, e, f, hb⟩
/-- A quotient and a remainder, opened for the walk. -/
def GiveTwo (q r : Nat) (w : World) (en : Ending) (w' : World) : Prop :=
  ∃ A n c B k d lo hi lp hp, en = .returned (.tuple #[.slice A n c, .slice B k d]) ∧ n = (toL q).length ∧ k = (toL r).length ∧ OwnR w' lo hi 3 (.slice A n c) (toL q) ∧ OwnR w' lp hp 3 (.slice B k d) (toL r) ∧
    w.heap.size ≤ lo ∧ w.heap.size ≤ lp ∧ (hi ≤ lp ∨ hp ≤ lo) ∧ hi ≤ w'.heap.size ∧ hp ≤ w'.heap.size ∧ lo ≤ hi ∧ lp ≤ hp ∧ Below w.heap.size w w'
theorem RetTwo.give {q r : Nat} {w w' : World} {en : Ending} (h : RetTwo 3 (toL q) (toL r) w en w') : GiveTwo q r w en w' := by
  obtain ⟨u, s, lo1, hi1, lo2, hi2, he, o, p, a, b, c, d, e, f, g, k⟩ := h
  obtain ⟨A, c', rfl, _, _, _⟩ := o.1.form
  obtain ⟨B, d', rfl, _, _, _⟩ := p.1.form
  exact ⟨A, _, c', B, _, d', lo1, hi1, lo2, hi2, he, rfl, rfl, o, p, a, b, c, d, e, g, k, f⟩
/-- A big int made of a row in the blocks from lo up to hi (or anew). -/
def GiveO (lo hi : Nat) (z : Int) (w : World) (en : Ending) (w' : World) : Prop :=
  ∃ u A n c, en = .returned (.agg #[.bool u, .slice A n c]) ∧ u = decide (z < 0) ∧ OwnR w' lo hi 3 (.slice A n c) (toL z.natAbs) ∧ Below w.heap.size w w'
theorem impl_makeO (s : Bool) (v : Value) (m lo hi : Nat) (w : World) (h : OwnR w lo hi 3 v (toL m)) (hh : hi ≤ w.heap.size) :
    Calls Tryd.prog 91 #[.bool s, v] w (GiveO lo hi (limZ (bigZ s m)) w) := by
  obtain ⟨A, c, rfl, h1, h2, h3⟩ := h.1.form
  refine (impl_bigMakeV s A m c w (by unfold maxLen at h2; omega)).mono fun _ w' ⟨he, hw⟩ => ?_
  by_cases hm : 0 < m ∧ m < pw 60
  · obtain ⟨e1, e2⟩ := @mkB_yes s A m c hm
    refine ⟨_, _, _, _, by rw [he, e1], rfl, ?_, hw⟩
    rw [e2]
    exact h.below hw hh
  · obtain ⟨e1, e2⟩ := @mkB_no s A m c hm
    refine ⟨_, _, _, _, by rw [he, e1], rfl, ?_, hw⟩
    rw [e2, show (0 : Int).natAbs = 0 from rfl, toL_zero]
    exact ⟨Own.nil _ _ _, fun k hk => by cases hk⟩
theorem lt_div {m d : Nat} (h : m < pw 60) : m / d < pw 60 := Nat.lt_of_le_of_lt (Nat.div_le_self _ _) h
theorem one_lt : 1 < pw 200 := Nat.lt_of_lt_of_le (show 1 < pw 1 by rw [pw_succ, pw_zero]; omega) (pw_le (by omega))
theorem sl_oneF {w : World} {g e : Nat} (hg : g = w.heap.size) : Sl (w.alloc (.cells #[.int .i64 1] e)) (.slice (some ⟨g, 0, none⟩) 1 1) (toL 1) := by
  subst hg
  rw [show toL 1 = [1] by rw [toL_pos (by omega), toL_zero]; rfl]
  exact (own_one w 1 (Nat.le_refl w.heap.size)).sl


set_option maxHeartbeats 8000000 in
theorem impl_BigIntFloorDiv (s : Bool) (A B : Option Addr) (n c k d : Nat) (xs ms : List Int) (w : World) (hu : Sl w (.slice A n c) xs) (hv : Sl w (.slice B k d) ms) :
    Calls Tryd.prog 48 #[.agg #[.bool s, .slice A n c], .slice B k d] w (RetFl (bigFloorF s xs ms) w) := by
  have HU := Lib.hid hu
  have HV := Lib.hid hv
  obtain rfl := hu.len
  obtain rfl := hv.len
  have hlm : ms.length ≤ 9223372036854775807 := by
    obtain ⟨_, _, hv', p1, p2, _⟩ := hv
    cases hv'
    unfold maxLen at p2
    omega
  clear hu hv
  have zz : w.heap.size < w.heap.size + 1 + 1 := by omega
  have nn := Nat.ne_of_lt zz
  have mm := (Nat.ne_of_lt zz).symm
  cases hx : bigOk s xs with
  | false =>
    have HR := Lib.hid (floor_no (ms := ms) (show (bigOk s xs && okB ms && decide (0 < ms.length)) = false by rw [hx]; rfl))
    go_enter Tryd.func48, Tryd.ntmps48
    go_wp2_with fail
    (with_reducible refine (impl_BigIntOk s A _ c xs _ (HU.out.below (by repeat' (first | (with_reducible exact Below.refl _ _) | (with_reducible refine Below.alloc ?_ ?_ _) | (with_reducible refine Below.setCell ?_ ?_ _) | (with_reducible refine below_drewN ?_ _) | (with_reducible refine Below.drew ?_) | (with_reducible refine below_step (by assumption) ?_ ?_) | omega | (simp; done) | (simp; omega))))).mono ?_); rintro e w1 ⟨rfl, b1⟩; obtain ⟨hc1, hf1⟩ := bxcell b1; have q1_0 := fun o => hc1 (w.heap.size) o (by first | omega | (simp; done) | (simp; omega)); have q1_1 := fun o => hc1 (w.heap.size + 1) o (by first | omega | (simp; done) | (simp; omega)); have f1_0 := fun o => hf1 (w.heap.size) o (by first | omega | (simp; done) | (simp; omega)); have f1_1 := fun o => hf1 (w.heap.size + 1) o (by first | omega | (simp; done) | (simp; omega)); have hz1 := b1.size; (try simp at hz1); have z1_0 : w.heap.size < w1.heap.size := (by omega); have n1_0 := Nat.ne_of_lt z1_0; have m1_0 := (Nat.ne_of_lt z1_0).symm; have z1_1 : w.heap.size + 1 < w1.heap.size := (by omega); have n1_1 := Nat.ne_of_lt z1_1; have m1_1 := (Nat.ne_of_lt z1_1).symm
    rw [hx]
    go_wp2
    exact bodyPost_ret (v := .tuple #[.agg #[.bool false, .slice none 0 0], .slice none 0 0]) (by simp [results, Tryd.results48, go_sem, *]) rfl (retfl_zero HR.out (by repeat' (first | (with_reducible exact Below.refl _ _) | (with_reducible refine Below.alloc ?_ ?_ _) | (with_reducible refine Below.setCell ?_ ?_ _) | (with_reducible refine below_drewN ?_ _) | (with_reducible refine Below.drew ?_) | (with_reducible refine below_step (by assumption) ?_ ?_) | omega | (simp; done) | (simp; omega))))
  | true =>
  cases hy : okB ms with
  | false =>
    have HR := Lib.hid (floor_no (show (bigOk s xs && okB ms && decide (0 < ms.length)) = false by rw [hx, hy]; rfl))
    go_enter Tryd.func48, Tryd.ntmps48
    go_wp2_with fail
    (with_reducible refine (impl_BigIntOk s A _ c xs _ (HU.out.below (by repeat' (first | (with_reducible exact Below.refl _ _) | (with_reducible refine Below.alloc ?_ ?_ _) | (with_reducible refine Below.setCell ?_ ?_ _) | (with_reducible refine below_drewN ?_ _) | (with_reducible refine Below.drew ?_) | (with_reducible refine below_step (by assumption) ?_ ?_) | omega | (simp; done) | (simp; omega))))).mono ?_); rintro e w1 ⟨rfl, b1⟩; obtain ⟨hc1, hf1⟩ := bxcell b1; have q1_0 := fun o => hc1 (w.heap.size) o (by first | omega | (simp; done) | (simp; omega)); have q1_1 := fun o => hc1 (w.heap.size + 1) o (by first | omega | (simp; done) | (simp; omega)); have f1_0 := fun o => hf1 (w.heap.size) o (by first | omega | (simp; done) | (simp; omega)); have f1_1 := fun o => hf1 (w.heap.size + 1) o (by first | omega | (simp; done) | (simp; omega)); have hz1 := b1.size; (try simp at hz1); have z1_0 : w.heap.size < w1.heap.size := (by omega); have n1_0 := Nat.ne_of_lt z1_0; have m1_0 := (Nat.ne_of_lt z1_0).symm; have z1_1 : w.heap.size + 1 < w1.heap.size := (by omega); have n1_1 := Nat.ne_of_lt z1_1; have m1_1 := (Nat.ne_of_lt z1_1).symm
    rw [hx]
    go_wp2_with fail
    refine (impl_NatOk _ ms _ (HV.out.below (by repeat' (first | (with_reducible exact Below.refl _ _) | (with_reducible refine Below.alloc ?_ ?_ _) | (with_reducible refine Below.setCell ?_ ?_ _) | (with_reducible refine below_drewN ?_ _) | (with_reducible refine Below.drew ?_) | (with_reducible refine below_step (by assumption) ?_ ?_) | omega | (simp; done) | (simp; omega))))).mono ?_
    rintro e w2 ⟨rfl, rfl⟩
    rw [hy]
    go_wp2
    exact bodyPost_ret (v := .tuple #[.agg #[.bool false, .slice none 0 0], .slice none 0 0]) (by simp [results, Tryd.results48, go_sem, *]) rfl (retfl_zero HR.out (by repeat' (first | (with_reducible exact Below.refl _ _) | (with_reducible refine Below.alloc ?_ ?_ _) | (with_reducible refine Below.setCell ?_ ?_ _) | (with_reducible refine below_drewN ?_ _) | (with_reducible refine Below.drew ?_) | (with_reducible refine below_step (by assumption) ?_ ?_) | omega | (simp; done) | (simp; omega))))
  | true =>
  by_cases h0 : ms.length = 0
  · have HR := Lib.hid (floor_no (show (bigOk s xs && okB ms && decide (0 < ms.length)) = false by rw [hx, hy, h0]; rfl))
    have hb : ((ms.length : Int) == 0) = true := beq_iff_eq.2 (by omega)
    clear h0
    go_enter Tryd.func48, Tryd.ntmps48
    go_wp2_with fail
    (with_reducible refine (impl_BigIntOk s A _ c xs _ (HU.out.below (by repeat' (first | (with_reducible exact Below.refl _ _) | (with_reducible refine Below.alloc ?_ ?_ _) | (with_reducible refine Below.setCell ?_ ?_ _) | (with_reducible refine below_drewN ?_ _) | (with_reducible refine Below.drew ?_) | (with_reducible refine below_step (by assumption) ?_ ?_) | omega | (simp; done) | (simp; omega))))).mono ?_); rintro e w1 ⟨rfl, b1⟩; obtain ⟨hc1, hf1⟩ := bxcell b1; have q1_0 := fun o => hc1 (w.heap.size) o (by first | omega | (simp; done) | (simp; omega)); have q1_1 := fun o => hc1 (w.heap.size + 1) o (by first | omega | (simp; done) | (simp; omega)); have f1_0 := fun o => hf1 (w.heap.size) o (by first | omega | (simp; done) | (simp; omega)); have f1_1 := fun o => hf1 (w.heap.size + 1) o (by first | omega | (simp; done) | (simp; omega)); have hz1 := b1.size; (try simp at hz1); have z1_0 : w.heap.size < w1.heap.size := (by omega); have n1_0 := Nat.ne_of_lt z1_0; have m1_0 := (Nat.ne_of_lt z1_0).symm; have z1_1 : w.heap.size + 1 < w1.heap.size := (by omega); have n1_1 := Nat.ne_of_lt z1_1; have m1_1 := (Nat.ne_of_lt z1_1).symm
    rw [hx]
    go_wp2_with fail
    refine (impl_NatOk _ ms _ (HV.out.below (by repeat' (first | (with_reducible exact Below.refl _ _) | (with_reducible refine Below.alloc ?_ ?_ _) | (with_reducible refine Below.setCell ?_ ?_ _) | (with_reducible refine below_drewN ?_ _) | (with_reducible refine Below.drew ?_) | (with_reducible refine below_step (by assumption) ?_ ?_) | omega | (simp; done) | (simp; omega))))).mono ?_
    rintro e w2 ⟨rfl, rfl⟩
    rw [hy]
    go_wp2
    exact bodyPost_ret (v := .tuple #[.agg #[.bool false, .slice none 0 0], .slice none 0 0]) (by simp [results, Tryd.results48, go_sem, *]) rfl (retfl_zero HR.out (by repeat' (first | (with_reducible exact Below.refl _ _) | (with_reducible refine Below.alloc ?_ ?_ _) | (with_reducible refine Below.setCell ?_ ?_ _) | (with_reducible refine below_drewN ?_ _) | (with_reducible refine Below.drew ?_) | (with_reducible refine below_step (by assumption) ?_ ?_) | omega | (simp; done) | (simp; omega))))
  have HX := Lib.hid hx
  have HY := Lib.hid hy
  have hb : ((ms.length : Int) == 0) = false := beq_eq_false_iff_ne.2 (by omega)
  obtain ⟨m, rfl, hm, hs0⟩ := bigOk_iff hx
  obtain ⟨l, rfl, hl⟩ := okB_toL hy
  have hl0 : 0 < l := by
    rcases Nat.eq_zero_or_pos l with h1 | h1
    · subst h1
      rw [toL_zero] at h0
      exact absurd rfl h0
    · exact h1
  have HR := Lib.hid (floor_yes hx hy hl0)
  have HM := Lib.hid (lt200 hm)
  have HL := Lib.hid (show l < pw 150 from Nat.lt_of_lt_of_le hl (pw_le (by omega)))
  have HL2 := Lib.hid (lt200 hl)
  have HM6 := Lib.hid hm
  have HL0 := Lib.hid hl0
  obtain ⟨q, hq⟩ : ∃ q, q = m / l := ⟨_, rfl⟩
  obtain ⟨r, hr⟩ : ∃ r, r = m % l := ⟨_, rfl⟩
  have hrl : (toL r).length ≤ 150 := by rw [hr]; exact toL_len_lt (Nat.lt_trans (Nat.mod_lt _ hl0) HL.out)
  have HQ := Lib.hid hq
  have HRR := Lib.hid hr
  have HQL := Lib.hid (show q < pw 200 by rw [hq]; exact lt200 (lt_div hm))
  have HRL := Lib.hid (show r ≤ l by rw [hr]; exact Nat.le_of_lt (Nat.mod_lt _ hl0))
  have hcs : (s = true ∧ 0 < r) ∨ ¬ (s = true ∧ 0 < r) := Classical.em _
  clear hx hy hm hl h0 hl0 hs0 hq hr
  rcases hcs with ⟨rfl, hp⟩ | hn
  · have hlp := toL_len_pos hp
    have HF := Lib.hid (show bigFloorF true (toL m) (toL l) = (limZ (bigZ true (q + 1)), l - r) by rw [HR.out, floorQ_round rfl (by rw [← HRR.out]; exact hp), floorR_round rfl (by rw [← HRR.out]; exact hp), HQ.out, HRR.out])
    clear hp
    go_enter Tryd.func48, Tryd.ntmps48
    go_wp2_with fail
    (with_reducible refine (impl_BigIntOk true A _ c (toL m) _ (HU.out.below (by repeat' (first | (with_reducible exact Below.refl _ _) | (with_reducible refine Below.alloc ?_ ?_ _) | (with_reducible refine Below.setCell ?_ ?_ _) | (with_reducible refine below_drewN ?_ _) | (with_reducible refine Below.drew ?_) | (with_reducible refine below_step (by assumption) ?_ ?_) | omega | (simp; done) | (simp; omega))))).mono ?_); rintro e w1 ⟨rfl, b1⟩; obtain ⟨hc1, hf1⟩ := bxcell b1; have q1_0 := fun o => hc1 (w.heap.size) o (by first | omega | (simp; done) | (simp; omega)); have q1_1 := fun o => hc1 (w.heap.size + 1) o (by first | omega | (simp; done) | (simp; omega)); have f1_0 := fun o => hf1 (w.heap.size) o (by first | omega | (simp; done) | (simp; omega)); have f1_1 := fun o => hf1 (w.heap.size + 1) o (by first | omega | (simp; done) | (simp; omega)); have hz1 := b1.size; (try simp at hz1); have z1_0 : w.heap.size < w1.heap.size := (by omega); have n1_0 := Nat.ne_of_lt z1_0; have m1_0 := (Nat.ne_of_lt z1_0).symm; have z1_1 : w.heap.size + 1 < w1.heap.size := (by omega); have n1_1 := Nat.ne_of_lt z1_1; have m1_1 := (Nat.ne_of_lt z1_1).symm
    rw [HX.out]
    go_wp2_with fail
    refine (impl_NatOk _ (toL l) _ (HV.out.below (by repeat' (first | (with_reducible exact Below.refl _ _) | (with_reducible refine Below.alloc ?_ ?_ _) | (with_reducible refine Below.setCell ?_ ?_ _) | (with_reducible refine below_drewN ?_ _) | (with_reducible refine Below.drew ?_) | (with_reducible refine below_step (by assumption) ?_ ?_) | omega | (simp; done) | (simp; omega))))).mono ?_
    rintro e w2 ⟨rfl, rfl⟩
    rw [HY.out]
    go_wp2_with fail
    (with_reducible refine ((impl_natDiv _ _ m l _ (HU.out.below (by repeat' (first | (with_reducible exact Below.refl _ _) | (with_reducible refine Below.alloc ?_ ?_ _) | (with_reducible refine Below.setCell ?_ ?_ _) | (with_reducible refine below_drewN ?_ _) | (with_reducible refine Below.drew ?_) | (with_reducible refine below_step (by assumption) ?_ ?_) | omega | (simp; done) | (simp; omega)))) (HV.out.below (by repeat' (first | (with_reducible exact Below.refl _ _) | (with_reducible refine Below.alloc ?_ ?_ _) | (with_reducible refine Below.setCell ?_ ?_ _) | (with_reducible refine below_drewN ?_ _) | (with_reducible refine Below.drew ?_) | (with_reducible refine below_step (by assumption) ?_ ?_) | omega | (simp; done) | (simp; omega)))) HL0.out HM.out HL.out).mono (fun _ _ h => RetTwo.give h)).mono ?_); rintro e w3 ⟨A3, n3, c3, B3, k3, d3, lo3, hi3, lp3, hp3, rfl, hn3, hk3, o3, p3, la3, lb3, lc3, ld3, le3, lf3, lg3, b3⟩; obtain ⟨hc3, hf3⟩ := bxcell b3; have q3_0 := fun o => hc3 (w.heap.size) o (by first | omega | (simp; done) | (simp; omega)); have q3_1 := fun o => hc3 (w.heap.size + 1) o (by first | omega | (simp; done) | (simp; omega)); have f3_0 := fun o => hf3 (w.heap.size) o (by first | omega | (simp; done) | (simp; omega)); have f3_1 := fun o => hf3 (w.heap.size + 1) o (by first | omega | (simp; done) | (simp; omega)); have hz3 := b3.size; (try simp at hz3); have z3_0 : w.heap.size < w3.heap.size := (by omega); have n3_0 := Nat.ne_of_lt z3_0; have m3_0 := (Nat.ne_of_lt z3_0).symm; have z3_1 : w.heap.size + 1 < w3.heap.size := (by omega); have n3_1 := Nat.ne_of_lt z3_1; have m3_1 := (Nat.ne_of_lt z3_1).symm
    rw [← HQ.out] at hn3 o3
    rw [← HRR.out] at hk3 p3
    subst hn3 hk3
    have O3 := Lib.hid o3
    have P3 := Lib.hid p3
    clear o3 p3
    go_wp2_with fail
    (with_reducible refine (impl_natAdd _ _ q 1 _ (OwnR.here O3.out (by repeat' (first | (with_reducible exact Below.refl _ _) | (with_reducible refine Below.alloc ?_ ?_ _) | (with_reducible refine Below.setCell ?_ ?_ _) | (with_reducible refine below_drewN ?_ _) | (with_reducible refine Below.drew ?_) | (with_reducible refine below_step (by assumption) ?_ ?_) | omega | (simp; done) | (simp; omega)))).sl (sl_oneF (by first | omega | (simp; done) | (simp; omega))) HQL.out one_lt).mono ?_); rintro e w4 ⟨r4, rfl, o4, b4⟩; obtain ⟨hc4, hf4⟩ := bxcell b4; have q4_0 := fun o => hc4 (w.heap.size) o (by first | omega | (simp; done) | (simp; omega)); have q4_1 := fun o => hc4 (w.heap.size + 1) o (by first | omega | (simp; done) | (simp; omega)); have f4_0 := fun o => hf4 (w.heap.size) o (by first | omega | (simp; done) | (simp; omega)); have f4_1 := fun o => hf4 (w.heap.size + 1) o (by first | omega | (simp; done) | (simp; omega)); have hz4 := b4.size; (try simp at hz4); have z4_0 : w.heap.size < w4.heap.size := (by omega); have n4_0 := Nat.ne_of_lt z4_0; have m4_0 := (Nat.ne_of_lt z4_0).symm; have z4_1 : w.heap.size + 1 < w4.heap.size := (by omega); have n4_1 := Nat.ne_of_lt z4_1; have m4_1 := (Nat.ne_of_lt z4_1).symm; have O4 := Lib.hid ((OwnR.of o4).wide (lo' := w3.heap.size) (by first | omega | (simp; done) | (simp; omega)) (Nat.le_refl _)); clear o4
    first
      | (go_wp2_with fail
         (with_reducible refine (impl_natSub _ _ l r _ (HV.out.below (by repeat' (first | (with_reducible exact Below.refl _ _) | (with_reducible refine Below.alloc ?_ ?_ _) | (with_reducible refine Below.setCell ?_ ?_ _) | (with_reducible refine below_drewN ?_ _) | (with_reducible refine Below.drew ?_) | (with_reducible refine below_step (by assumption) ?_ ?_) | omega | (simp; done) | (simp; omega)))) (OwnR.here P3.out (by repeat' (first | (with_reducible exact Below.refl _ _) | (with_reducible refine Below.alloc ?_ ?_ _) | (with_reducible refine Below.setCell ?_ ?_ _) | (with_reducible refine below_drewN ?_ _) | (with_reducible refine Below.drew ?_) | (with_reducible refine below_step (by assumption) ?_ ?_) | omega | (simp; done) | (simp; omega)))).sl HL2.out HRL.out).mono ?_); rintro e w5 ⟨r5, rfl, o5, b5⟩; obtain ⟨hc5, hf5⟩ := bxcell b5; have q5_0 := fun o => hc5 (w.heap.size) o (by first | omega | (simp; done) | (simp; omega)); have q5_1 := fun o => hc5 (w.heap.size + 1) o (by first | omega | (simp; done) | (simp; omega)); have f5_0 := fun o => hf5 (w.heap.size) o (by first | omega | (simp; done) | (simp; omega)); have f5_1 := fun o => hf5 (w.heap.size + 1) o (by first | omega | (simp; done) | (simp; omega)); have hz5 := b5.size; (try simp at hz5); have z5_0 : w.heap.size < w5.heap.size := (by omega); have n5_0 := Nat.ne_of_lt z5_0; have m5_0 := (Nat.ne_of_lt z5_0).symm; have z5_1 : w.heap.size + 1 < w5.heap.size := (by omega); have n5_1 := Nat.ne_of_lt z5_1; have m5_1 := (Nat.ne_of_lt z5_1).symm; have O5 := Lib.hid (OwnR.of o5); clear o5
         go_wp2_with fail
         (with_reducible refine (impl_makeO true _ (q + 1) _ _ _ (OwnR.here O4.out (by repeat' (first | (with_reducible exact Below.refl _ _) | (with_reducible refine Below.alloc ?_ ?_ _) | (with_reducible refine Below.setCell ?_ ?_ _) | (with_reducible refine below_drewN ?_ _) | (with_reducible refine Below.drew ?_) | (with_reducible refine below_step (by assumption) ?_ ?_) | omega | (simp; done) | (simp; omega)))) (by first | omega | (simp; done) | (simp; omega))).mono ?_); rintro e w6 ⟨u6, A6, n6, c6, rfl, hu6, o6, b6⟩; obtain ⟨hc6, hf6⟩ := bxcell b6; have q6_0 := fun o => hc6 (w.heap.size) o (by first | omega | (simp; done) | (simp; omega)); have q6_1 := fun o => hc6 (w.heap.size + 1) o (by first | omega | (simp; done) | (simp; omega)); have f6_0 := fun o => hf6 (w.heap.size) o (by first | omega | (simp; done) | (simp; omega)); have f6_1 := fun o => hf6 (w.heap.size + 1) o (by first | omega | (simp; done) | (simp; omega)); have hz6 := b6.size; (try simp at hz6); have z6_0 : w.heap.size < w6.heap.size := (by omega); have n6_0 := Nat.ne_of_lt z6_0; have m6_0 := (Nat.ne_of_lt z6_0).symm; have z6_1 : w.heap.size + 1 < w6.heap.size := (by omega); have n6_1 := Nat.ne_of_lt z6_1; have m6_1 := (Nat.ne_of_lt z6_1).symm; have HU6 := Lib.hid hu6; have O6 := Lib.hid o6; clear hu6 o6
         go_wp2
         exact bodyPost_ret (v := .tuple #[.agg #[.bool u6, .slice A6 n6 c6], r5]) (by simp [results, Tryd.results48, go_sem, *]) rfl (retfl_made (lo := w3.heap.size) (hi := w4.heap.size) (lp := w4.heap.size) (hp := w5.heap.size) HF.out HU6.out (by have hfar := O6.out; repeat' (first | (with_reducible exact hfar) | (with_reducible refine OwnR.far ?_ _ _ ?_) | (with_reducible refine OwnR.allocd ?_ _ ?_) | (left; first | omega | (simp; done) | (simp; omega)) | (right; first | omega | (simp; done) | (simp; omega)) | omega | (simp; done) | (simp; omega) | (exact hfar))) (by have hfar := O5.out.below b6 (by first | omega | (simp; done) | (simp; omega)); repeat' (first | (with_reducible exact hfar) | (with_reducible refine OwnR.far ?_ _ _ ?_) | (with_reducible refine OwnR.allocd ?_ _ ?_) | (left; first | omega | (simp; done) | (simp; omega)) | (right; first | omega | (simp; done) | (simp; omega)) | omega | (simp; done) | (simp; omega) | (exact hfar))) (by first | omega | (simp; done) | (simp; omega)) (by first | omega | (simp; done) | (simp; omega)) (by first | omega | (simp; omega)) ⟨(by first | omega | (simp; done) | (simp; omega)), (by first | omega | (simp; done) | (simp; omega))⟩ ⟨(by first | omega | (simp; done) | (simp; omega)), (by first | omega | (simp; done) | (simp; omega))⟩ (by repeat' (first | (with_reducible exact Below.refl _ _) | (with_reducible refine Below.alloc ?_ ?_ _) | (with_reducible refine Below.setCell ?_ ?_ _) | (with_reducible refine below_drewN ?_ _) | (with_reducible refine Below.drew ?_) | (with_reducible refine below_step (by assumption) ?_ ?_) | omega | (simp; done) | (simp; omega)))))
      | (go_wp2_with fail
         (with_reducible refine (spec_l03Make true _ (q + 1) _ (OwnR.here O4.out (by repeat' (first | (with_reducible exact Below.refl _ _) | (with_reducible refine Below.alloc ?_ ?_ _) | (with_reducible refine Below.setCell ?_ ?_ _) | (with_reducible refine below_drewN ?_ _) | (with_reducible refine Below.drew ?_) | (with_reducible refine below_step (by assumption) ?_ ?_) | omega | (simp; done) | (simp; omega)))).sl).mono ?_); rintro e w5 ⟨u5, A5, n5, c5, rfl, hu5, o5, b5⟩; obtain ⟨hc5, hf5⟩ := bxcell b5; have q5_0 := fun o => hc5 (w.heap.size) o (by first | omega | (simp; done) | (simp; omega)); have q5_1 := fun o => hc5 (w.heap.size + 1) o (by first | omega | (simp; done) | (simp; omega)); have f5_0 := fun o => hf5 (w.heap.size) o (by first | omega | (simp; done) | (simp; omega)); have f5_1 := fun o => hf5 (w.heap.size + 1) o (by first | omega | (simp; done) | (simp; omega)); have hz5 := b5.size; (try simp at hz5); have z5_0 : w.heap.size < w5.heap.size := (by omega); have n5_0 := Nat.ne_of_lt z5_0; have m5_0 := (Nat.ne_of_lt z5_0).symm; have z5_1 : w.heap.size + 1 < w5.heap.size := (by omega); have n5_1 := Nat.ne_of_lt z5_1; have m5_1 := (Nat.ne_of_lt z5_1).symm; have HU5 := Lib.hid hu5; have O5 := Lib.hid (OwnR.of o5); clear hu5 o5
         go_wp2_with fail
         (with_reducible refine (spec_natSub _ _ l r _ (HV.out.below (by repeat' (first | (with_reducible exact Below.refl _ _) | (with_reducible refine Below.alloc ?_ ?_ _) | (with_reducible refine Below.setCell ?_ ?_ _) | (with_reducible refine below_drewN ?_ _) | (with_reducible refine Below.drew ?_) | (with_reducible refine below_step (by assumption) ?_ ?_) | omega | (simp; done) | (simp; omega)))) (OwnR.here P3.out (by repeat' (first | (with_reducible exact Below.refl _ _) | (with_reducible refine Below.alloc ?_ ?_ _) | (with_reducible refine Below.setCell ?_ ?_ _) | (with_reducible refine below_drewN ?_ _) | (with_reducible refine Below.drew ?_) | (with_reducible refine below_step (by assumption) ?_ ?_) | omega | (simp; done) | (simp; omega)))).sl HL2.out HRL.out).mono ?_); rintro e w6 ⟨r6, rfl, o6, b6⟩; obtain ⟨hc6, hf6⟩ := bxcell b6; have q6_0 := fun o => hc6 (w.heap.size) o (by first | omega | (simp; done) | (simp; omega)); have q6_1 := fun o => hc6 (w.heap.size + 1) o (by first | omega | (simp; done) | (simp; omega)); have f6_0 := fun o => hf6 (w.heap.size) o (by first | omega | (simp; done) | (simp; omega)); have f6_1 := fun o => hf6 (w.heap.size + 1) o (by first | omega | (simp; done) | (simp; omega)); have hz6 := b6.size; (try simp at hz6); have z6_0 : w.heap.size < w6.heap.size := (by omega); have n6_0 := Nat.ne_of_lt z6_0; have m6_0 := (Nat.ne_of_lt z6_0).symm; have z6_1 : w.heap.size + 1 < w6.heap.size := (by omega); have n6_1 := Nat.ne_of_lt z6_1; have m6_1 := (Nat.ne_of_lt z6_1).symm; have O6 := Lib.hid (OwnR.of o6); clear o6
         go_wp2
         exact bodyPost_ret (v := .tuple #[.agg #[.bool u5, .slice A5 n5 c5], r6]) (by simp [results, Tryd.results48, go_sem, *]) rfl (retfl_made (lo := w4.heap.size) (hi := w5.heap.size) (lp := w5.heap.size) (hp := w6.heap.size) HF.out HU5.out (by have hfar := O5.out.below b6 (by first | omega | (simp; done) | (simp; omega)); repeat' (first | (with_reducible exact hfar) | (with_reducible refine OwnR.far ?_ _ _ ?_) | (with_reducible refine OwnR.allocd ?_ _ ?_) | (left; first | omega | (simp; done) | (simp; omega)) | (right; first | omega | (simp; done) | (simp; omega)) | omega | (simp; done) | (simp; omega) | (exact hfar))) (by have hfar := O6.out; repeat' (first | (with_reducible exact hfar) | (with_reducible refine OwnR.far ?_ _ _ ?_) | (with_reducible refine OwnR.allocd ?_ _ ?_) | (left; first | omega | (simp; done) | (simp; omega)) | (right; first | omega | (simp; done) | (simp; omega)) | omega | (simp; done) | (simp; omega) | (exact hfar))) (by first | omega | (simp; done) | (simp; omega)) (by first | omega | (simp; done) | (simp; omega)) (by first | omega | (simp; omega)) ⟨(by first | omega | (simp; done) | (simp; omega)), (by first | omega | (simp; done) | (simp; omega))⟩ ⟨(by first | omega | (simp; done) | (simp; omega)), (by first | omega | (simp; done) | (simp; omega))⟩ (by repeat' (first | (with_reducible exact Below.refl _ _) | (with_reducible refine Below.alloc ?_ ?_ _) | (with_reducible refine Below.setCell ?_ ?_ _) | (with_reducible refine below_drewN ?_ _) | (with_reducible refine Below.drew ?_) | (with_reducible refine below_step (by assumption) ?_ ?_) | omega | (simp; done) | (simp; omega)))))
  · have HF := Lib.hid (show bigFloorF s (toL m) (toL l) = (limZ (bigZ s q), r) by rw [HR.out, floorQ_plain (by rw [← HRR.out]; exact hn), floorR_plain (by rw [← HRR.out]; exact hn), HQ.out, HRR.out])
    have hs2 : s = false ∨ (s = true ∧ (toL r).length = 0) := by
      cases s
      · exact .inl rfl
      · refine .inr ⟨rfl, ?_⟩
        have h0 : r = 0 := by
          rcases Nat.eq_zero_or_pos r with h1 | h1
          · exact h1
          · exact absurd ⟨rfl, h1⟩ hn
        rw [h0, toL_zero]
        rfl
    clear hn
    rcases hs2 with rfl | ⟨rfl, hz⟩
    · go_enter Tryd.func48, Tryd.ntmps48
      go_wp2_with fail
      (with_reducible refine (impl_BigIntOk false A _ c (toL m) _ (HU.out.below (by repeat' (first | (with_reducible exact Below.refl _ _) | (with_reducible refine Below.alloc ?_ ?_ _) | (with_reducible refine Below.setCell ?_ ?_ _) | (with_reducible refine below_drewN ?_ _) | (with_reducible refine Below.drew ?_) | (with_reducible refine below_step (by assumption) ?_ ?_) | omega | (simp; done) | (simp; omega))))).mono ?_); rintro e w1 ⟨rfl, b1⟩; obtain ⟨hc1, hf1⟩ := bxcell b1; have q1_0 := fun o => hc1 (w.heap.size) o (by first | omega | (simp; done) | (simp; omega)); have q1_1 := fun o => hc1 (w.heap.size + 1) o (by first | omega | (simp; done) | (simp; omega)); have f1_0 := fun o => hf1 (w.heap.size) o (by first | omega | (simp; done) | (simp; omega)); have f1_1 := fun o => hf1 (w.heap.size + 1) o (by first | omega | (simp; done) | (simp; omega)); have hz1 := b1.size; (try simp at hz1); have z1_0 : w.heap.size < w1.heap.size := (by omega); have n1_0 := Nat.ne_of_lt z1_0; have m1_0 := (Nat.ne_of_lt z1_0).symm; have z1_1 : w.heap.size + 1 < w1.heap.size := (by omega); have n1_1 := Nat.ne_of_lt z1_1; have m1_1 := (Nat.ne_of_lt z1_1).symm
      rw [HX.out]
      go_wp2_with fail
      refine (impl_NatOk _ (toL l) _ (HV.out.below (by repeat' (first | (with_reducible exact Below.refl _ _) | (with_reducible refine Below.alloc ?_ ?_ _) | (with_reducible refine Below.setCell ?_ ?_ _) | (with_reducible refine below_drewN ?_ _) | (with_reducible refine Below.drew ?_) | (with_reducible refine below_step (by assumption) ?_ ?_) | omega | (simp; done) | (simp; omega))))).mono ?_
      rintro e w2 ⟨rfl, rfl⟩
      rw [HY.out]
      go_wp2_with fail
      (with_reducible refine ((impl_natDiv _ _ m l _ (HU.out.below (by repeat' (first | (with_reducible exact Below.refl _ _) | (with_reducible refine Below.alloc ?_ ?_ _) | (with_reducible refine Below.setCell ?_ ?_ _) | (with_reducible refine below_drewN ?_ _) | (with_reducible refine Below.drew ?_) | (with_reducible refine below_step (by assumption) ?_ ?_) | omega | (simp; done) | (simp; omega)))) (HV.out.below (by repeat' (first | (with_reducible exact Below.refl _ _) | (with_reducible refine Below.alloc ?_ ?_ _) | (with_reducible refine Below.setCell ?_ ?_ _) | (with_reducible refine below_drewN ?_ _) | (with_reducible refine Below.drew ?_) | (with_reducible refine below_step (by assumption) ?_ ?_) | omega | (simp; done) | (simp; omega)))) HL0.out HM.out HL.out).mono (fun _ _ h => RetTwo.give h)).mono ?_); rintro e w3 ⟨A3, n3, c3, B3, k3, d3, lo3, hi3, lp3, hp3, rfl, hn3, hk3, o3, p3, la3, lb3, lc3, ld3, le3, lf3, lg3, b3⟩; obtain ⟨hc3, hf3⟩ := bxcell b3; have q3_0 := fun o => hc3 (w.heap.size) o (by first | omega | (simp; done) | (simp; omega)); have q3_1 := fun o => hc3 (w.heap.size + 1) o (by first | omega | (simp; done) | (simp; omega)); have f3_0 := fun o => hf3 (w.heap.size) o (by first | omega | (simp; done) | (simp; omega)); have f3_1 := fun o => hf3 (w.heap.size + 1) o (by first | omega | (simp; done) | (simp; omega)); have hz3 := b3.size; (try simp at hz3); have z3_0 : w.heap.size < w3.heap.size := (by omega); have n3_0 := Nat.ne_of_lt z3_0; have m3_0 := (Nat.ne_of_lt z3_0).symm; have z3_1 : w.heap.size + 1 < w3.heap.size := (by omega); have n3_1 := Nat.ne_of_lt z3_1; have m3_1 := (Nat.ne_of_lt z3_1).symm
      rw [← HQ.out] at hn3 o3
      rw [← HRR.out] at hk3 p3
      subst hn3 hk3
      have O3 := Lib.hid o3
      have P3 := Lib.hid p3
      clear o3 p3
      first
        | (go_wp2_with fail
           (with_reducible refine (impl_makeO false _ q _ _ _ (OwnR.here O3.out (by repeat' (first | (with_reducible exact Below.refl _ _) | (with_reducible refine Below.alloc ?_ ?_ _) | (with_reducible refine Below.setCell ?_ ?_ _) | (with_reducible refine below_drewN ?_ _) | (with_reducible refine Below.drew ?_) | (with_reducible refine below_step (by assumption) ?_ ?_) | omega | (simp; done) | (simp; omega)))) (by first | omega | (simp; done) | (simp; omega))).mono ?_); rintro e w6 ⟨u6, A6, n6, c6, rfl, hu6, o6, b6⟩; obtain ⟨hc6, hf6⟩ := bxcell b6; have q6_0 := fun o => hc6 (w.heap.size) o (by first | omega | (simp; done) | (simp; omega)); have q6_1 := fun o => hc6 (w.heap.size + 1) o (by first | omega | (simp; done) | (simp; omega)); have f6_0 := fun o => hf6 (w.heap.size) o (by first | omega | (simp; done) | (simp; omega)); have f6_1 := fun o => hf6 (w.heap.size + 1) o (by first | omega | (simp; done) | (simp; omega)); have hz6 := b6.size; (try simp at hz6); have z6_0 : w.heap.size < w6.heap.size := (by omega); have n6_0 := Nat.ne_of_lt z6_0; have m6_0 := (Nat.ne_of_lt z6_0).symm; have z6_1 : w.heap.size + 1 < w6.heap.size := (by omega); have n6_1 := Nat.ne_of_lt z6_1; have m6_1 := (Nat.ne_of_lt z6_1).symm; have HU6 := Lib.hid hu6; have O6 := Lib.hid o6; clear hu6 o6
           go_wp2
           exact bodyPost_ret (v := .tuple #[.agg #[.bool u6, .slice A6 n6 c6], .slice B3 (toL r).length d3]) (by simp [results, Tryd.results48, go_sem, *]) rfl (retfl_made (lo := lo3) (hi := hi3) (lp := lp3) (hp := hp3) HF.out HU6.out (by have hfar := O6.out; repeat' (first | (with_reducible exact hfar) | (with_reducible refine OwnR.far ?_ _ _ ?_) | (with_reducible refine OwnR.allocd ?_ _ ?_) | (left; first | omega | (simp; done) | (simp; omega)) | (right; first | omega | (simp; done) | (simp; omega)) | omega | (simp; done) | (simp; omega) | (exact hfar))) (by have hfar := P3.out.below b6 (by first | omega | (simp; done) | (simp; omega)); repeat' (first | (with_reducible exact hfar) | (with_reducible refine OwnR.far ?_ _ _ ?_) | (with_reducible refine OwnR.allocd ?_ _ ?_) | (left; first | omega | (simp; done) | (simp; omega)) | (right; first | omega | (simp; done) | (simp; omega)) | omega | (simp; done) | (simp; omega) | (exact hfar))) (by first | omega | (simp; done) | (simp; omega)) (by first | omega | (simp; done) | (simp; omega)) (by first | omega | (simp; omega)) ⟨(by first | omega | (simp; done) | (simp; omega)), (by first | omega | (simp; done) | (simp; omega))⟩ ⟨(by first | omega | (simp; done) | (simp; omega)), (by first | omega | (simp; done) | (simp; omega))⟩ (by repeat' (first | (with_reducible exact Below.refl _ _) | (with_reducible refine Below.alloc ?_ ?_ _) | (with_reducible refine Below.setCell ?_ ?_ _) | (with_reducible refine below_drewN ?_ _) | (with_reducible refine Below.drew ?_) | (with_reducible refine below_step (by assumption) ?_ ?_) | omega | (simp; done) | (simp; omega)))))
        | (go_wp2_with fail
           (with_reducible refine (spec_l03Make false _ q _ (OwnR.here O3.out (by repeat' (first | (with_reducible exact Below.refl _ _) | (with_reducible refine Below.alloc ?_ ?_ _) | (with_reducible refine Below.setCell ?_ ?_ _) | (with_reducible refine below_drewN ?_ _) | (with_reducible refine Below.drew ?_) | (with_reducible refine below_step (by assumption) ?_ ?_) | omega | (simp; done) | (simp; omega)))).sl).mono ?_); rintro e w6 ⟨u6, A6, n6, c6, rfl, hu6, o6, b6⟩; obtain ⟨hc6, hf6⟩ := bxcell b6; have q6_0 := fun o => hc6 (w.heap.size) o (by first | omega | (simp; done) | (simp; omega)); have q6_1 := fun o => hc6 (w.heap.size + 1) o (by first | omega | (simp; done) | (simp; omega)); have f6_0 := fun o => hf6 (w.heap.size) o (by first | omega | (simp; done) | (simp; omega)); have f6_1 := fun o => hf6 (w.heap.size + 1) o (by first | omega | (simp; done) | (simp; omega)); have hz6 := b6.size; (try simp at hz6); have z6_0 : w.heap.size < w6.heap.size := (by omega); have n6_0 := Nat.ne_of_lt z6_0; have m6_0 := (Nat.ne_of_lt z6_0).symm; have z6_1 : w.heap.size + 1 < w6.heap.size := (by omega); have n6_1 := Nat.ne_of_lt z6_1; have m6_1 := (Nat.ne_of_lt z6_1).symm; have HU6 := Lib.hid hu6; have O6 := Lib.hid (OwnR.of o6); clear hu6 o6
           go_wp2
           exact bodyPost_ret (v := .tuple #[.agg #[.bool u6, .slice A6 n6 c6], .slice B3 (toL r).length d3]) (by simp [results, Tryd.results48, go_sem, *]) rfl (retfl_made (lo := w3.heap.size) (hi := w6.heap.size) (lp := lp3) (hp := hp3) HF.out HU6.out (by have hfar := O6.out; repeat' (first | (with_reducible exact hfar) | (with_reducible refine OwnR.far ?_ _ _ ?_) | (with_reducible refine OwnR.allocd ?_ _ ?_) | (left; first | omega | (simp; done) | (simp; omega)) | (right; first | omega | (simp; done) | (simp; omega)) | omega | (simp; done) | (simp; omega) | (exact hfar))) (by have hfar := P3.out.below b6 (by first | omega | (simp; done) | (simp; omega)); repeat' (first | (with_reducible exact hfar) | (with_reducible refine OwnR.far ?_ _ _ ?_) | (with_reducible refine OwnR.allocd ?_ _ ?_) | (left; first | omega | (simp; done) | (simp; omega)) | (right; first | omega | (simp; done) | (simp; omega)) | omega | (simp; done) | (simp; omega) | (exact hfar))) (by first | omega | (simp; done) | (simp; omega)) (by first | omega | (simp; done) | (simp; omega)) (by first | omega | (simp; omega)) ⟨(by first | omega | (simp; done) | (simp; omega)), (by first | omega | (simp; done) | (simp; omega))⟩ ⟨(by first | omega | (simp; done) | (simp; omega)), (by first | omega | (simp; done) | (simp; omega))⟩ (by repeat' (first | (with_reducible exact Below.refl _ _) | (with_reducible refine Below.alloc ?_ ?_ _) | (with_reducible refine Below.setCell ?_ ?_ _) | (with_reducible refine below_drewN ?_ _) | (with_reducible refine Below.drew ?_) | (with_reducible refine below_step (by assumption) ?_ ?_) | omega | (simp; done) | (simp; omega)))))
    · have HZ := Lib.hid hz
      clear hz hrl
      go_enter Tryd.func48, Tryd.ntmps48
      go_wp2_with fail
      (with_reducible refine (impl_BigIntOk true A _ c (toL m) _ (HU.out.below (by repeat' (first | (with_reducible exact Below.refl _ _) | (with_reducible refine Below.alloc ?_ ?_ _) | (with_reducible refine Below.setCell ?_ ?_ _) | (with_reducible refine below_drewN ?_ _) | (with_reducible refine Below.drew ?_) | (with_reducible refine below_step (by assumption) ?_ ?_) | omega | (simp; done) | (simp; omega))))).mono ?_); rintro e w1 ⟨rfl, b1⟩; obtain ⟨hc1, hf1⟩ := bxcell b1; have q1_0 := fun o => hc1 (w.heap.size) o (by first | omega | (simp; done) | (simp; omega)); have q1_1 := fun o => hc1 (w.heap.size + 1) o (by first | omega | (simp; done) | (simp; omega)); have f1_0 := fun o => hf1 (w.heap.size) o (by first | omega | (simp; done) | (simp; omega)); have f1_1 := fun o => hf1 (w.heap.size + 1) o (by first | omega | (simp; done) | (simp; omega)); have hz1 := b1.size; (try simp at hz1); have z1_0 : w.heap.size < w1.heap.size := (by omega); have n1_0 := Nat.ne_of_lt z1_0; have m1_0 := (Nat.ne_of_lt z1_0).symm; have z1_1 : w.heap.size + 1 < w1.heap.size := (by omega); have n1_1 := Nat.ne_of_lt z1_1; have m1_1 := (Nat.ne_of_lt z1_1).symm
      rw [HX.out]
      go_wp2_with fail
      refine (impl_NatOk _ (toL l) _ (HV.out.below (by repeat' (first | (with_reducible exact Below.refl _ _) | (with_reducible refine Below.alloc ?_ ?_ _) | (with_reducible refine Below.setCell ?_ ?_ _) | (with_reducible refine below_drewN ?_ _) | (with_reducible refine Below.drew ?_) | (with_reducible refine below_step (by assumption) ?_ ?_) | omega | (simp; done) | (simp; omega))))).mono ?_
      rintro e w2 ⟨rfl, rfl⟩
      rw [HY.out]
      go_wp2_with fail
      (with_reducible refine ((impl_natDiv _ _ m l _ (HU.out.below (by repeat' (first | (with_reducible exact Below.refl _ _) | (with_reducible refine Below.alloc ?_ ?_ _) | (with_reducible refine Below.setCell ?_ ?_ _) | (with_reducible refine below_drewN ?_ _) | (with_reducible refine Below.drew ?_) | (with_reducible refine below_step (by assumption) ?_ ?_) | omega | (simp; done) | (simp; omega)))) (HV.out.below (by repeat' (first | (with_reducible exact Below.refl _ _) | (with_reducible refine Below.alloc ?_ ?_ _) | (with_reducible refine Below.setCell ?_ ?_ _) | (with_reducible refine below_drewN ?_ _) | (with_reducible refine Below.drew ?_) | (with_reducible refine below_step (by assumption) ?_ ?_) | omega | (simp; done) | (simp; omega)))) HL0.out HM.out HL.out).mono (fun _ _ h => RetTwo.give h)).mono ?_); rintro e w3 ⟨A3, n3, c3, B3, k3, d3, lo3, hi3, lp3, hp3, rfl, hn3, hk3, o3, p3, la3, lb3, lc3, ld3, le3, lf3, lg3, b3⟩; obtain ⟨hc3, hf3⟩ := bxcell b3; have q3_0 := fun o => hc3 (w.heap.size) o (by first | omega | (simp; done) | (simp; omega)); have q3_1 := fun o => hc3 (w.heap.size + 1) o (by first | omega | (simp; done) | (simp; omega)); have f3_0 := fun o => hf3 (w.heap.size) o (by first | omega | (simp; done) | (simp; omega)); have f3_1 := fun o => hf3 (w.heap.size + 1) o (by first | omega | (simp; done) | (simp; omega)); have hz3 := b3.size; (try simp at hz3); have z3_0 : w.heap.size < w3.heap.size := (by omega); have n3_0 := Nat.ne_of_lt z3_0; have m3_0 := (Nat.ne_of_lt z3_0).symm; have z3_1 : w.heap.size + 1 < w3.heap.size := (by omega); have n3_1 := Nat.ne_of_lt z3_1; have m3_1 := (Nat.ne_of_lt z3_1).symm
      rw [← HQ.out] at hn3 o3
      rw [← HRR.out] at hk3 p3
      rw [HZ.out] at hk3
      subst hn3 hk3
      have O3 := Lib.hid o3
      have P3 := Lib.hid p3
      clear o3 p3
      first
        | (go_wp2_with fail
           (with_reducible refine (impl_makeO true _ q _ _ _ (OwnR.here O3.out (by repeat' (first | (with_reducible exact Below.refl _ _) | (with_reducible refine Below.alloc ?_ ?_ _) | (with_reducible refine Below.setCell ?_ ?_ _) | (with_reducible refine below_drewN ?_ _) | (with_reducible refine Below.drew ?_) | (with_reducible refine below_step (by assumption) ?_ ?_) | omega | (simp; done) | (simp; omega)))) (by first | omega | (simp; done) | (simp; omega))).mono ?_); rintro e w6 ⟨u6, A6, n6, c6, rfl, hu6, o6, b6⟩; obtain ⟨hc6, hf6⟩ := bxcell b6; have q6_0 := fun o => hc6 (w.heap.size) o (by first | omega | (simp; done) | (simp; omega)); have q6_1 := fun o => hc6 (w.heap.size + 1) o (by first | omega | (simp; done) | (simp; omega)); have f6_0 := fun o => hf6 (w.heap.size) o (by first | omega | (simp; done) | (simp; omega)); have f6_1 := fun o => hf6 (w.heap.size + 1) o (by first | omega | (simp; done) | (simp; omega)); have hz6 := b6.size; (try simp at hz6); have z6_0 : w.heap.size < w6.heap.size := (by omega); have n6_0 := Nat.ne_of_lt z6_0; have m6_0 := (Nat.ne_of_lt z6_0).symm; have z6_1 : w.heap.size + 1 < w6.heap.size := (by omega); have n6_1 := Nat.ne_of_lt z6_1; have m6_1 := (Nat.ne_of_lt z6_1).symm; have HU6 := Lib.hid hu6; have O6 := Lib.hid o6; clear hu6 o6
           go_wp2
           exact bodyPost_ret (v := .tuple #[.agg #[.bool u6, .slice A6 n6 c6], .slice B3 0 d3]) (by simp [results, Tryd.results48, go_sem, *]) rfl (retfl_made (lo := lo3) (hi := hi3) (lp := lp3) (hp := hp3) HF.out HU6.out (by have hfar := O6.out; repeat' (first | (with_reducible exact hfar) | (with_reducible refine OwnR.far ?_ _ _ ?_) | (with_reducible refine OwnR.allocd ?_ _ ?_) | (left; first | omega | (simp; done) | (simp; omega)) | (right; first | omega | (simp; done) | (simp; omega)) | omega | (simp; done) | (simp; omega) | (exact hfar))) (by have hfar := P3.out.below b6 (by first | omega | (simp; done) | (simp; omega)); repeat' (first | (with_reducible exact hfar) | (with_reducible refine OwnR.far ?_ _ _ ?_) | (with_reducible refine OwnR.allocd ?_ _ ?_) | (left; first | omega | (simp; done) | (simp; omega)) | (right; first | omega | (simp; done) | (simp; omega)) | omega | (simp; done) | (simp; omega) | (exact hfar))) (by first | omega | (simp; done) | (simp; omega)) (by first | omega | (simp; done) | (simp; omega)) (by first | omega | (simp; omega)) ⟨(by first | omega | (simp; done) | (simp; omega)), (by first | omega | (simp; done) | (simp; omega))⟩ ⟨(by first | omega | (simp; done) | (simp; omega)), (by first | omega | (simp; done) | (simp; omega))⟩ (by repeat' (first | (with_reducible exact Below.refl _ _) | (with_reducible refine Below.alloc ?_ ?_ _) | (with_reducible refine Below.setCell ?_ ?_ _) | (with_reducible refine below_drewN ?_ _) | (with_reducible refine Below.drew ?_) | (with_reducible refine below_step (by assumption) ?_ ?_) | omega | (simp; done) | (simp; omega)))))
        | (go_wp2_with fail
           (with_reducible refine (spec_l03Make true _ q _ (OwnR.here O3.out (by repeat' (first | (with_reducible exact Below.refl _ _) | (with_reducible refine Below.alloc ?_ ?_ _) | (with_reducible refine Below.setCell ?_ ?_ _) | (with_reducible refine below_drewN ?_ _) | (with_reducible refine Below.drew ?_) | (with_reducible refine below_step (by assumption) ?_ ?_) | omega | (simp; done) | (simp; omega)))).sl).mono ?_); rintro e w6 ⟨u6, A6, n6, c6, rfl, hu6, o6, b6⟩; obtain ⟨hc6, hf6⟩ := bxcell b6; have q6_0 := fun o => hc6 (w.heap.size) o (by first | omega | (simp; done) | (simp; omega)); have q6_1 := fun o => hc6 (w.heap.size + 1) o (by first | omega | (simp; done) | (simp; omega)); have f6_0 := fun o => hf6 (w.heap.size) o (by first | omega | (simp; done) | (simp; omega)); have f6_1 := fun o => hf6 (w.heap.size + 1) o (by first | omega | (simp; done) | (simp; omega)); have hz6 := b6.size; (try simp at hz6); have z6_0 : w.heap.size < w6.heap.size := (by omega); have n6_0 := Nat.ne_of_lt z6_0; have m6_0 := (Nat.ne_of_lt z6_0).symm; have z6_1 : w.heap.size + 1 < w6.heap.size := (by omega); have n6_1 := Nat.ne_of_lt z6_1; have m6_1 := (Nat.ne_of_lt z6_1).symm; have HU6 := Lib.hid hu6; have O6 := Lib.hid (OwnR.of o6); clear hu6 o6
           go_wp2
           exact bodyPost_ret (v := .tuple #[.agg #[.bool u6, .slice A6 n6 c6], .slice B3 0 d3]) (by simp [results, Tryd.results48, go_sem, *]) rfl (retfl_made (lo := w3.heap.size) (hi := w6.heap.size) (lp := lp3) (hp := hp3) HF.out HU6.out (by have hfar := O6.out; repeat' (first | (with_reducible exact hfar) | (with_reducible refine OwnR.far ?_ _ _ ?_) | (with_reducible refine OwnR.allocd ?_ _ ?_) | (left; first | omega | (simp; done) | (simp; omega)) | (right; first | omega | (simp; done) | (simp; omega)) | omega | (simp; done) | (simp; omega) | (exact hfar))) (by have hfar := P3.out.below b6 (by first | omega | (simp; done) | (simp; omega)); repeat' (first | (with_reducible exact hfar) | (with_reducible refine OwnR.far ?_ _ _ ?_) | (with_reducible refine OwnR.allocd ?_ _ ?_) | (left; first | omega | (simp; done) | (simp; omega)) | (right; first | omega | (simp; done) | (simp; omega)) | omega | (simp; done) | (simp; omega) | (exact hfar))) (by first | omega | (simp; done) | (simp; omega)) (by first | omega | (simp; done) | (simp; omega)) (by first | omega | (simp; omega)) ⟨(by first | omega | (simp; done) | (simp; omega)), (by first | omega | (simp; done) | (simp; omega))⟩ ⟨(by first | omega | (simp; done) | (simp; omega)), (by first | omega | (simp; done) | (simp; omega))⟩ (by repeat' (first | (with_reducible exact Below.refl _ _) | (with_reducible refine Below.alloc ?_ ?_ _) | (with_reducible refine Below.setCell ?_ ?_ _) | (with_reducible refine below_drewN ?_ _) | (with_reducible refine Below.drew ?_) | (with_reducible refine below_step (by assumption) ?_ ?_) | omega | (simp; done) | (simp; omega)))))
theorem impl_FloorV (s : Bool) (A : Option Addr) (n c : Nat) (v : Value) (xs ms : List Int) (w : World) (hu : Sl w (.slice A n c) xs) (hv : Sl w v ms) :
    Calls Tryd.prog 48 #[.agg #[.bool s, .slice A n c], v] w (RetFl (bigFloorF s xs ms) w) := by
  obtain ⟨B, d, rfl, _⟩ := id hv
  exact impl_BigIntFloorDiv s A B n c _ d xs ms w hu hv


end Go.Proofs.YticekjagmcphbaaDoor
