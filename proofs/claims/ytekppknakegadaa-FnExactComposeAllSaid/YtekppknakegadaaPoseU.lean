/-
  Contracts: the law's own helpers on lists of poses. Written by an AI agent.
-/
import Derived.Test.YtekppknakegadaaPoseT
namespace Go.Proofs.Ytekppknakegadaa
open Go.RowKit

theorem laws_szPoseS (A : Option Addr) (n c : Nat) (w : World) (hn : n ≤ 9223372036854775807) :
    Calls Try.prog 23 #[.slice A n c, .int .i64 1048576] w fun e w' => e = .returned (.int .i64 (if n ≤ 1048576 then 1048576 - (n : Int) else -1)) ∧ w = w' := by
  by_cases h : n ≤ 1048576
  · go_enter Try.func23, Try.ntmps23
    go_wp2
    go_ret
    exact ⟨rfl, rfl⟩
  · go_enter Try.func23, Try.ntmps23
    go_wp2
    go_ret
    exact ⟨rfl, rfl⟩

theorem Try.infoPose : (Try.prog.info? 24).map (fun i => (i.zero, i.size, i.bytes)) = some (some (.agg #[.int .i64 0, .int .i64 0, .int .i64 0]), 3, 24) := by kernel_rfl

/-- What a call that makes a new list of poses ends in. -/
def RetSlP (ps : List P3) (w : World) (en : Ending) (w' : World) : Prop := ∃ r, en = .returned r ∧ SlP w' r ps ∧ Below w.heap.size w w'
/-- The first k poses stand in the row. -/
def RowTo (cur : Array Value) (ps : List P3) (k : Nat) : Prop := ∀ (i : Nat) (p : P3), i < k → ps[i]? = some p → cur[i * 3]? = some (.int .i64 p.t) ∧ cur[i * 3 + 1]? = some (.int .i64 p.x) ∧ cur[i * 3 + 2]? = some (.int .i64 p.y)
theorem RowTo.step {cur : Array Value} {ps : List P3} {k n : Nat} {p : P3} (h : RowTo cur ps k) (hs : cur.size = n * 3) (hk : k < n) (hp : ps[k]? = some p) :
    RowTo (((cur.setIfInBounds (k * 3) (.int .i64 p.t)).setIfInBounds (k * 3 + 1) (.int .i64 p.x)).setIfInBounds (k * 3 + 2) (.int .i64 p.y)) ps (k + 1) := by
  intro i q hi hq
  by_cases hik : i < k
  · obtain ⟨a, b, c⟩ := h i q hik hq
    refine ⟨?_, ?_, ?_⟩ <;> (rw [Array.getElem?_setIfInBounds_ne (by omega), Array.getElem?_setIfInBounds_ne (by omega), Array.getElem?_setIfInBounds_ne (by omega)]; assumption)
  · obtain rfl : i = k := by omega
    rw [hp] at hq
    cases hq
    refine ⟨?_, ?_, ?_⟩
    · rw [Array.getElem?_setIfInBounds_ne (by omega), Array.getElem?_setIfInBounds_ne (by omega), Array.getElem?_setIfInBounds_self_of_lt (by omega)]
    · rw [Array.getElem?_setIfInBounds_ne (by omega), Array.getElem?_setIfInBounds_self_of_lt (by simp; omega)]
    · rw [Array.getElem?_setIfInBounds_self_of_lt (by simp; omega)]

theorem RowTo.size {cur : Array Value} {k n : Nat} {a b c : Value} (h : cur.size = n * 3) : (((cur.setIfInBounds (k * 3) a).setIfInBounds (k * 3 + 1) b).setIfInBounds (k * 3 + 2) c).size = n * 3 := by
  simp only [Array.size_setIfInBounds]
  exact h

set_option maxHeartbeats 1000000 in
theorem laws_toPoseS (v : Value) (ps : List P3) (w : World) (h : SlP w v ps) (hl : ps.length ≤ 1048576) :
    Calls Try.prog 25 #[v] w (RetSlP ps w) := by
  obtain ⟨A, c, rfl, h1, h2, h3⟩ := h
  obtain ⟨i0, hi, hz0, hz1, hz2⟩ := info_parts Try.infoPose
  go_enter Try.func25, Try.ntmps25
  go_wp2_with (at_make; refine wpList_make_full _ rfl (.tmp 6) (.tmp 6) 34 rfl w.heap.size 24 i0 (.agg #[.int .i64 0, .int .i64 0, .int .i64 0]) 3 Try.underlying34 hi hz0 hz1 .i64 .i64 _ _ ps.length rfl rfl rfl rfl (by rw [hz2]; omega) (by unfold maxLen; omega) (Nat.le_refl _) ?_; intro w1 hown hg)
  have hb1 : Below w.heap.size w w1 := (Below.refl _ _).grown hg (Nat.le_refl _) (by intro k hk; cases hk)
  obtain ⟨cur0, hB0, hs0⟩ : ∃ cur, Blk w1 w.heap.size 24 cur ∧ cur.size = ps.length * 3 := by
    rcases hown.2 with ⟨he, _⟩ | ⟨g, cap, cur, he, _, hh, _, _, hsz, _⟩
    · cases he
    · cases he
      exact ⟨cur, hh, hsz⟩
  clear hown hg hi hz0 hz1 hz2
  go_loopw [4] (fun i wr => ∃ k : Nat, k ≤ ps.length ∧ i = .int .i64 k ∧ Below w.heap.size w wr ∧ ∃ cur, Blk wr w.heap.size 24 cur ∧ cur.size = ps.length * 3 ∧ RowTo cur ps k)
    (fun i _ => ps.length - (intOf i).toNat)
  case atStart => exact ⟨0, Nat.zero_le _, rfl, hb1, cur0, hB0, hs0, fun i p hi => absurd hi (by omega)⟩
  case round =>
    obtain ⟨k, hk, rfl, hb, cur, hB, hs, hrow⟩ := hrel
    have HS := Lib.hid hs
    have HW := Lib.hid hrow
    clear hrow hB0 hs0
    by_cases hlt : k < ps.length
    · obtain ⟨b, off, rfl, hc⟩ := h3 (by omega)
      obtain ⟨q, hq⟩ : ∃ q, ps[k]? = some q := ⟨_, List.getElem?_eq_getElem hlt⟩
      obtain ⟨q0, q1, q2⟩ := hc k q hq
      have r0 := (hb.cell (World.block_lt_of_cell? w _ q0)).trans q0
      have r1 := (hb.cell (World.block_lt_of_cell? w _ q1)).trans q1
      have r2 := (hb.cell (World.block_lt_of_cell? w _ q2)).trans q2
      have HQ := Lib.hid hq
      obtain ⟨t, x, y⟩ := q
      clear hq q0 q1 q2 h3 hc
      obtain ⟨u0, e0⟩ : ∃ u, cur[k * 3]? = some u := ⟨_, Array.getElem?_eq_getElem (by omega)⟩
      obtain ⟨u1, e1⟩ : ∃ u, cur[k * 3 + 1]? = some u := ⟨_, Array.getElem?_eq_getElem (by omega)⟩
      obtain ⟨u2, e2⟩ : ∃ u, cur[k * 3 + 2]? = some u := ⟨_, Array.getElem?_eq_getElem (by omega)⟩
      have HE0 := Lib.hid e0
      have HE1 := Lib.hid e1
      have HE2 := Lib.hid e2
      clear e0 e1 e2 hs
      have sB := hB.lt
      have HB := Lib.hid hB
      clear hB
      go_wp2_with fail
      refine (laws_toPose _ _ _ _).mono ?_
      rintro e w2 ⟨rfl, b2⟩
      have hB2 := HB.out.below b2 sB
      have f2 := hB2.frozen
      have c0 := (hB2.cell (k * 3)).trans HE0.out
      have c1 := (hB2.cell (k * 3 + 1)).trans HE1.out
      have c2 := (hB2.cell (k * 3 + 2)).trans HE2.out
      have HB2 := Lib.hid hB2
      clear hB2
      go_wp2
      go_roundw
      case rel =>
        have hz2 := b2.size
        have hz := hb.size
        have hbel := below_step b2 hz hb
        have hst := HW.out.step HS.out hlt HQ.out
        have hsz := RowTo.size (k := k) (n := ps.length) (a := .int .i64 t) (b := .int .i64 x) (c := .int .i64 y) HS.out
        have hbl := ((HB2.out.set_ (k * 3) (.int .i64 t)).set_ (k * 3 + 1) (.int .i64 x)).set_ (k * 3 + 2) (.int .i64 y)
        exact ⟨k + 1, by omega, by go_num, ((hbel.setCell (Nat.le_refl _) _).setCell (Nat.le_refl _) _).setCell (Nat.le_refl _) _, _, hbl, hsz, hst⟩
      case measure => simp [intOf]; omega
    · have hkk : k = ps.length := by omega
      subst hkk
      have HB := Lib.hid hB
      clear hB hs
      go_wp2
      go_ret
      refine ⟨_, rfl, ⟨_, _, rfl, Nat.le_refl _, by unfold maxLen; omega, fun hp => ⟨_, _, rfl, fun i p hp => ?_⟩⟩, hb⟩
      have hi : i < ps.length := (List.getElem?_eq_some_iff.1 hp).1
      obtain ⟨a, b, c⟩ := HW.out i p hi hp
      simp only [Nat.zero_add]
      exact ⟨(HB.out.cell _).trans a, (HB.out.cell _).trans b, (HB.out.cell _).trans c⟩
end Go.Proofs.Ytekppknakegadaa
