/-
  How each kind of argument is opened into the walks' own words. Written by an AI agent.
-/
import Derived.Test.YticekjagmcphbaaDoorKit
import Derived.ProofKit
import Derived.OpenShut
import Derived.ShutString
import Derived.ChangeOld
import Derived.Below
import Derived.Lib.SmallJoins
namespace Go.Proofs.YticekjagmcphbaaDoor
open Go.ChangeShapes Go.WideShapes Go.ChangeAt Go.RowKit

/-- Every int of the list fits an int64. -/
def Wf (xs : List Int) : Prop := ∀ n ∈ xs, -9223372036854775808 ≤ n ∧ n ≤ 9223372036854775807

theorem wf_bounds {n : Int} (h : (Lit.int .i64 n).wf = true) : -9223372036854775808 ≤ n ∧ n ≤ 9223372036854775807 := by
  exact Go.bounds_i64 h

section
variable {H : Type} {enc : TypeId × Value → H} {P : Program} {w : World}

theorem ints_sl {t e : TypeId} {spare : Nat → Bool} {held : Bool} {fuel : Nat} {cs : List Value} {x : DataW H × List MemPlace} (ht : P.underlying t = some (.slice e)) (he : P.underlying e = some (.int .i64)) (hc : P.cellsOf e = 1)
    (h : DataW.trod enc P w 0 spare held fuel t cs = some x) : ∃ v xs, cs = [v] ∧ Sl w v xs ∧ Wf xs := by
  rcases open_ints ht he hc h with ⟨rfl, _⟩ | ⟨a, len, cap, zs, rfl, _, hl, hm, hz, _, hcell, hwz⟩
  · exact ⟨_, [], rfl, ⟨none, 0, rfl, by simp, by simp [maxLen], fun h => by simp at h⟩, fun n hn => by cases hn⟩
  · have hzl : len ≤ zs.length := by rw [hz]; split <;> omega
    have hlen : (zs.take len).length = len := by rw [List.length_take]; omega
    refine ⟨_, zs.take len, rfl, ⟨some a, cap, by rw [hlen], by omega, hm, fun hp => ?_⟩, fun n hn => wf_bounds (hwz n (List.mem_of_mem_take hn))⟩
    obtain ⟨b, off, spot⟩ := a
    have hc0 := hcell 0 (by omega)
    have hspot : spot = none := by simpa [Addr.add] using World.cell?_spot hc0
    subst hspot
    refine ⟨b, off, rfl, fun i d hd => ?_⟩
    have hi : i < len := by
      have := (List.getElem?_eq_some_iff.1 hd).1
      omega
    have hci := hcell i (by omega)
    have hadd : (⟨b, off, none⟩ : Addr).add i = ⟨b, off + i, none⟩ := by unfold Addr.add; split <;> simp_all
    rw [hadd] at hci
    rw [hci, List.getElem?_take, if_pos hi] at *
    rw [List.getD_eq_getElem?_getD, hd]
    rfl

theorem open_intsL {t e : TypeId} {r : Reach} {base : Nat} {spare : Nat → Bool} {held : Bool} {v : Value} {d : DataW H} {p : List MemPlace} (ht : P.underlying t = some (.slice e)) (he : P.underlying e = some (.int .i64)) (hc : P.cellsOf e = 1)
    (hv : Value.okWide P w r base t v) (h : DataW.Trod enc P w 0 spare held t v d p) : ∃ xs, Sl w v xs ∧ Wf xs := by
  obtain ⟨a, len, cap, rfl⟩ := okWide_slice ht hv
  obtain ⟨fuel, hf⟩ := h
  obtain ⟨v', xs, hcs, h1, h2⟩ := ints_sl ht he hc hf
  simp [Value.cells] at hcs
  subst hcs
  exact ⟨xs, h1, h2⟩
theorem open_intL {t : TypeId} {r : Reach} {base : Nat} {spare : Nat → Bool} {held : Bool} {v : Value} {d : DataW H} {p : List MemPlace} (ht : P.underlying t = some (.int .i64))
    (hv : Value.okWide P w r base t v) (h : DataW.Trod enc P w 0 spare held t v d p) : ∃ a : Int, v = .int .i64 a ∧ -9223372036854775808 ≤ a ∧ a ≤ 9223372036854775807 := by
  obtain ⟨a, rfl, _, _, wa⟩ := open_int ht hv h
  exact ⟨a, rfl, wf_bounds wa⟩
theorem open_strL {t : TypeId} {r : Reach} {base : Nat} {spare : Nat → Bool} {held : Bool} {v : Value} {d : DataW H} {p : List MemPlace} (ht : P.underlying t = some .string)
    (hv : Value.okWide P w r base t v) (h : DataW.Trod enc P w 0 spare held t v d p) : ∃ s : ByteArray, v = .string s ∧ s.size ≤ maxLen := by
  obtain ⟨a, rfl, _, _, wa⟩ := Go.ChangeMaps.open_string ht hv h
  exact ⟨a, rfl, wa⟩
theorem open_poseL {t ti : TypeId} {f0 f1 f2 : Field} {r : Reach} {base : Nat} {spare : Nat → Bool} {held : Bool} {v : Value} {d : DataW H} {p : List MemPlace} (hs : P.underlying t = some (.struct #[f0, f1, f2]))
    (hone : Go.Deep.oneCellFields P #[f0, f1, f2] = true) (hC : P.cellsOf t = 3) (e0 : f0.type = ti) (e1 : f1.type = ti) (e2 : f2.type = ti) (hi : P.underlying ti = some (.int .i64))
    (hv : Value.okWide P w r base t v) (h : DataW.Trod enc P w 0 spare held t v d p) : ∃ a b c : Int, v = .agg #[.int .i64 a, .int .i64 b, .int .i64 c] ∧ Wf [a, b, c] := by
  obtain ⟨v0, v1, v2, y0, y1, y2, n, rfl, _, _, h0, h1, h2⟩ := Go.Joins.open_agg3 hs hone hC hv h
  rw [e0] at h0
  rw [e1] at h1
  rw [e2] at h2
  obtain ⟨a, c0, _, w0⟩ := DataW.trod_int hi h0
  obtain ⟨b, c1, _, w1⟩ := DataW.trod_int hi h1
  obtain ⟨c, c2, _, w2⟩ := DataW.trod_int hi h2
  simp at c0 c1 c2
  subst c0 c1 c2
  exact ⟨a, b, c, rfl, fun n hn => by
    simp at hn
    rcases hn with rfl | rfl | rfl <;> apply wf_bounds <;> assumption⟩
theorem open_bigL {t tb ts te : TypeId} {f0 f1 : Field} {r : Reach} {base : Nat} {spare : Nat → Bool} {held : Bool} {v : Value} {d : DataW H} {p : List MemPlace} (hs : P.underlying t = some (.struct #[f0, f1]))
    (hone : Go.Deep.oneCellFields P #[f0, f1] = true) (hC : P.cellsOf t = 2) (e0 : f0.type = tb) (e1 : f1.type = ts) (hb : P.underlying tb = some .bool) (hsl : P.underlying ts = some (.slice te)) (hi : P.underlying te = some (.int .i64)) (hc : P.cellsOf te = 1)
    (hv : Value.okWide P w r base t v) (h : DataW.Trod enc P w 0 spare held t v d p) : ∃ neg u xs, v = .agg #[.bool neg, u] ∧ Sl w u xs ∧ Wf xs := by
  obtain ⟨v0, v1, y0, y1, n, rfl, _, _, h0, h1⟩ := Go.Joins.open_agg2 hs hone hC hv h
  rw [e0] at h0
  rw [e1] at h1
  obtain ⟨a, c0, _⟩ := DataW.trod_bool hb h0
  obtain ⟨u, xs, c1, k1, k2⟩ := ints_sl hsl hi hc h1
  simp at c0 c1
  subst c0 c1
  exact ⟨a, _, xs, rfl, k1, k2⟩
theorem open_ratL {t tn tb ts te : TypeId} {g0 g1 f0 f1 : Field} {r : Reach} {base : Nat} {spare : Nat → Bool} {held : Bool} {v : Value} {d : DataW H} {p : List MemPlace} (hs : P.underlying t = some (.struct #[g0, g1])) (hC : P.cellsOf t = 3)
    (eg0 : g0.type = tn) (eo0 : g0.offset = 0) (eg1 : g1.type = ts) (eo1 : g1.offset = 2) (cts : P.cellsOf ts = 1)
    (hn : P.underlying tn = some (.struct #[f0, f1])) (hCn : P.cellsOf tn = 2) (e0 : f0.type = tb) (o0 : f0.offset = 0) (e1 : f1.type = ts) (o1 : f1.offset = 1) (ctb : P.cellsOf tb = 1)
    (hb : P.underlying tb = some .bool) (hsl : P.underlying ts = some (.slice te)) (hi : P.underlying te = some (.int .i64)) (hc : P.cellsOf te = 1)
    (hv : Value.okWide P w r base t v) (h : DataW.Trod enc P w 0 spare held t v d p) : ∃ neg u xs s ys, v = .agg #[.bool neg, u, s] ∧ Sl w u xs ∧ Wf xs ∧ Sl w s ys ∧ Wf ys := by
  obtain ⟨cs, rfl, hsz⟩ := okWide_struct hs hv
  obtain ⟨c0, c1, c2, rfl⟩ := Go.Joins.array3 (hsz.trans hC)
  obtain ⟨fuel, hf⟩ := h
  obtain ⟨y0, y1, n, _, _, h0, h1⟩ := trod_struct2 hs hf
  rw [eg0, eo0, hCn] at h0
  rw [eg1, eo1, cts] at h1
  simp [Value.cells] at h0 h1
  obtain ⟨z0, z1, m, _, _, k0, k1⟩ := trod_struct2 hn h0
  rw [e0, o0, ctb] at k0
  rw [e1, o1, cts] at k1
  simp at k0 k1
  obtain ⟨neg, q0, _⟩ := DataW.trod_bool hb k0
  obtain ⟨u, xs, q1, s1, s2⟩ := ints_sl hsl hi hc k1
  obtain ⟨s, ys, q2, s3, s4⟩ := ints_sl hsl hi hc h1
  simp at q0 q1 q2
  subst q0 q1 q2
  exact ⟨neg, _, xs, _, ys, rfl, s1, s2, s3, s4⟩
end
end Go.Proofs.YticekjagmcphbaaDoor
