/-
  How a list of poses that came in is opened. Written by an AI agent.
-/
import Derived.Test.YtekppknakegadaaPoseS
import Derived.Test.YtekppknakegadaaOpen
import Derived.Deep.Slices
namespace Go.Proofs.Ytekppknakegadaa
open Go.ChangeShapes Go.WideShapes Go.ChangeAt Go.RowKit

instance : Inhabited P3 := ⟨P3.zero⟩

section
variable {H : Type} {enc : TypeId × Value → H} {P : Program} {w : World}

theorem pose_cells {t ti : TypeId} {f0 f1 f2 : Field} {base n : Nat} {spare : Nat → Bool} {held : Bool} {cs : List Value} {y : DataW H × List MemPlace} (hs : P.underlying t = some (.struct #[f0, f1, f2]))
    (hone : Go.Deep.oneCellFields P #[f0, f1, f2] = true) (e0 : f0.type = ti) (e1 : f1.type = ti) (e2 : f2.type = ti) (hi : P.underlying ti = some (.int .i64)) (hl : cs.length = 3)
    (h : DataW.trod enc P w base spare held n t cs = some y) : ∃ p : P3, cs = [.int .i64 p.t, .int .i64 p.x, .int .i64 p.y] := by
  obtain ⟨y0, y1, y2, m, _, _, h0, h1, h2⟩ := Go.Deep.trod_struct3 hs h
  obtain ⟨o0, k0⟩ := Go.Deep.hone_of hone 0 f0 rfl
  obtain ⟨o1, k1⟩ := Go.Deep.hone_of hone 1 f1 rfl
  obtain ⟨o2, k2⟩ := Go.Deep.hone_of hone 2 f2 rfl
  rw [o0, k0, e0] at h0
  rw [o1, k1, e1] at h1
  rw [o2, k2, e2] at h2
  match cs, hl with
  | [v0, v1, v2], _ =>
    simp at h0 h1 h2
    obtain ⟨a, c0, _, _⟩ := DataW.trod_int hi h0
    obtain ⟨b, c1, _, _⟩ := DataW.trod_int hi h1
    obtain ⟨c, c2, _, _⟩ := DataW.trod_int hi h2
    simp at c0 c1 c2
    subst c0 c1 c2
    exact ⟨⟨a, b, c⟩, rfl⟩

theorem open_posesL {t te ti : TypeId} {f0 f1 f2 : Field} {r : Reach} {base : Nat} {spare : Nat → Bool} {held : Bool} {v : Value} {d : DataW H} {p : List MemPlace} (ht : P.underlying t = some (.slice te)) (hs : P.underlying te = some (.struct #[f0, f1, f2]))
    (hone : Go.Deep.oneCellFields P #[f0, f1, f2] = true) (e0 : f0.type = ti) (e1 : f1.type = ti) (e2 : f2.type = ti) (hC : P.cellsOf te = 3) (hi : P.underlying ti = some (.int .i64))
    (hv : Value.okWide P w r base t v) (h : DataW.Trod enc P w 0 spare held t v d p) : ∃ ps, SlP w v ps := by
  obtain ⟨a, len, cap, rfl⟩ := okWide_slice ht hv
  obtain ⟨fuel, hf⟩ := h
  rcases Go.Deep.open_slice ht hf with ⟨hcs, _⟩ | ⟨a', len', cap', m, n, D, Pl, hcs, _, hl, hm, hmm, _, hx⟩
  · simp [Value.cells] at hcs
    obtain ⟨rfl, rfl, rfl⟩ := hcs
    exact ⟨[], none, 0, rfl, by simp, by simp [maxLen], fun h => by simp at h⟩
  · simp [Value.cells] at hcs
    obtain ⟨rfl, rfl, rfl⟩ := hcs
    have hlm : len ≤ m := by rw [hmm]; split <;> omega
    rw [hC] at hx
    obtain ⟨b, off, spot⟩ := a'
    obtain ⟨F, hF⟩ := Go.Deep.choose_lt (α := P3) (n := len) (p := fun i q => w.cells? 0 ((⟨b, off, spot⟩ : Addr).add (i * 3)) 3 = some [.int .i64 q.t, .int .i64 q.x, .int .i64 q.y]) (fun i hi' => by
      obtain ⟨cs', h1, h2⟩ := hx i (by omega)
      obtain ⟨_, hlen, _⟩ := World.cells?_some h1
      obtain ⟨q, rfl⟩ := pose_cells hs hone e0 e1 e2 hi hlen h2
      exact ⟨q, h1⟩)
    refine ⟨(List.range len).map F, some ⟨b, off, spot⟩, cap, by simp, by simpa using hl, hm, fun hp => ?_⟩
    have hp' : 0 < len := by simpa using hp
    have hspot : spot = none := by
      obtain ⟨_, _, hc⟩ := World.cells?_some (hF 0 hp')
      have := hc 0 (by omega)
      simpa [Addr.add] using World.cell?_spot this
    subst hspot
    refine ⟨b, off, rfl, fun i q hq => ?_⟩
    have hi' : i < len := by have := (List.getElem?_eq_some_iff.1 hq).1; simpa using this
    have hq' : q = F i := by
      rw [List.getElem?_map, List.getElem?_range hi'] at hq
      simpa using hq.symm
    subst hq'
    obtain ⟨_, _, hc⟩ := World.cells?_some (hF i hi')
    have hadd : ∀ j, ((⟨b, off, none⟩ : Addr).add (i * 3)).add j = ⟨b, off + i * 3 + j, none⟩ := by
      intro j
      unfold Addr.add
      by_cases hz : i * 3 = 0 <;> by_cases hj : j = 0 <;> simp [hz, hj]
    have c0 := hc 0 (by omega)
    have c1 := hc 1 (by omega)
    have c2 := hc 2 (by omega)
    rw [hadd] at c0 c1 c2
    exact ⟨by simpa using c0, by simpa using c1, by simpa using c2⟩
end
end Go.Proofs.Ytekppknakegadaa
