/-
  Appending to a new empty list, also inside a statement whose order is drawn. Written by an AI agent.
-/
import Derived.Test.YticekjagmcphbaaGreatDoorApp2
import Derived.Test.YticekjagmcphbaaGreatDoorOwn2
import Derived.Test.YticekjagmcphbaaGreatDoorRat
import Derived.Maps.AppendAt
namespace Go.Proofs.YticekjagmcphbaaGreatDoor
open Go.RowKit

theorem own_blk {w : World} {g base e : Nat} (hB : Blk w g e #[]) (hb : base ≤ g) : Own w base e (.slice (some ⟨g, 0, none⟩) 0 0) [] :=
  ⟨by simp, .inr ⟨g, 0, #[], rfl, hb, hB, Nat.le_refl _, by simp [maxLen], by simp, rfl⟩⟩
theorem Blk.only {w w' : World} {g e lo hi : Nat} {cs : Array Value} (h : Blk w g e cs) (ho : Only lo hi w w') (hd : g < lo ∨ hi ≤ g) : Blk w' g e cs := (ho.block g h.lt hd).trans h
theorem Only.frozen {w w' : World} {lo hi b o : Nat} (ho : Only lo hi w w') (h : b < w.heap.size) (hd : b < lo ∨ hi ≤ b) : w'.frozen? ⟨b, o, none⟩ = w.frozen? ⟨b, o, none⟩ := World.frozen?_of_block (w := w) (ho.block b h hd)
/-- What an append to the empty list in block g leaves: the new list, in block g or in a new one; all other blocks are as they were. -/
def Grew (w : World) (g e : Nat) (v : Value) (ys : List Int) (w' : World) : Prop :=
  ∃ D cd lo hi, v = .slice D ys.length cd ∧ OwnR w' lo hi e (.slice D ys.length cd) ys ∧ (lo = g ∧ hi = g + 1 ∨ lo = w.heap.size ∧ hi = w'.heap.size) ∧ hi ≤ w'.heap.size ∧ w.heap.size ≤ w'.heap.size ∧ Only g (g + 1) w w' ∧ Below g w w'
theorem run_app0 {P : Program} (w : World) {t e : TypeId} (ty : TypeId) (hP : IntP P t e) {g : Nat} {sv : Value} {ys : List Int} (hB : Blk w g e #[]) (hsl : Sl w sv ys) (hlen : ys.length ≤ 1099511627776) :
    ∃ v' w', (Builtin.append_ #[t, t] ty #[.slice (some ⟨g, 0, none⟩) 0 0, sv]).run P w = .ok v' w' ∧ Grew w g e v' ys w' := by
  obtain ⟨ht, i, hi, hz, hz1, hz2⟩ := hP
  have hown := own_blk hB (Nat.le_refl g)
  have hgl := hB.lt
  have hR : OwnR w g (g + 1) e (.slice (some ⟨g, 0, none⟩) 0 0) [] := ⟨hown, fun k hk => by cases hk; exact Nat.lt_succ_self g⟩
  obtain ⟨A, c, rfl, h1, h2, h3⟩ := hsl
  rcases A with _ | ad
  · have hy : ys = [] := by
      rcases Nat.eq_zero_or_pos ys.length with h0 | h0
      · exact List.eq_nil_of_length_eq_zero h0
      · obtain ⟨b, off, he, _⟩ := h3 h0
        cases he
    subst hy
    exact ⟨_, w, run_append_nil_any (P := P) w g t ty e i 1 ht hi _ 0 [] hown c, _, _, g, g + 1, rfl, hR, .inl ⟨rfl, rfl⟩, hgl, Nat.le_refl _, Only.refl _ _ _, Below.refl _ _⟩
  · obtain ⟨v', w', hr, ho, hg, _, h5⟩ := run_append_own_at (P := P) w g t ty e i (.int .i64 0) 1 8 ht hi hz hz1 hz2 rfl (by decide) _ 0 [] hown ad ys.length c (ys.map (Value.int .i64)) (by simp) (by
        intro j u hu
        rw [List.getElem?_map] at hu
        cases hj : ys[j]? with
        | none => rw [hj] at hu; cases hu
        | some d =>
          rw [hj] at hu
          cases hu
          have hjl := (List.getElem?_eq_some_iff.1 hj).1
          obtain ⟨b, off, he, hc⟩ := h3 (by omega)
          cases he
          have hadd : (⟨b, off, none⟩ : Addr).add j = ⟨b, off + j, none⟩ := by unfold Addr.add; split <;> simp_all
          rw [hadd]
          exact hc j d hj) (by
        intro u hu
        rw [List.mem_map] at hu
        obtain ⟨d, _, rfl⟩ := hu
        rfl) (by unfold maxLen; omega) (by omega) (Nat.le_of_lt hgl)
    have ho' : Own w' g e v' ys := by
      unfold Own
      simpa using ho
    have hO := Only.of_grown hR hg
    obtain ⟨D, cd, rfl, e1, e2, e3⟩ := ho'.form
    rcases h5 with h5 | h5
    · exact ⟨_, w', hr, D, cd, g, g + 1, rfl, ⟨ho', fun k hk => by rw [hk] at h5; cases h5; exact Nat.lt_succ_self g⟩, .inl ⟨rfl, rfl⟩, Nat.lt_of_lt_of_le hgl hO.size, hO.size, hO, hO.below (Nat.le_of_lt hgl)⟩
    · refine ⟨_, w', hr, D, cd, w.heap.size, w'.heap.size, rfl, ⟨⟨ho'.1, ?_⟩, fun k hk => (ho'.lt k hk).2⟩, .inr ⟨rfl, rfl⟩, Nat.le_refl _, hO.size, hO, hO.below (Nat.le_of_lt hgl)⟩
      rcases ho'.2 with ⟨hn, h0⟩ | ⟨g', cap, cur, hv, hb, r⟩
      · rw [hn] at h5
        cases h5
      · rw [hv] at h5
        cases h5
        exact .inr ⟨_, cap, cur, hv, Nat.le_refl _, r⟩
theorem step_app0 {P : Program} {w : World} {ops : Array Oper} {o : Oper} {a : Act} {K : Act → World → Prop} {Q : Exit → Act → World → Prop} {E : Prop} (hgd : o.guard = none) (s x : Operand) {t e : TypeId}
    (ho : o.op = .call { callee := .builtin .append, args := #[s, x], argTypes := #[t, t] }) (hP : IntP P t e) {g : Nat} {sv : Value} {ys : List Int} (hs : a.eval s = .slice (some ⟨g, 0, none⟩) 0 0) (hx : a.eval x = sv)
    (hB : Blk w g e #[]) (hsl : Sl w sv ys) (hlen : ys.length ≤ 1099511627776) (h : ∀ v' w', Grew w g e v' ys w' → K (a.put o.dst v') w') :
    if Region.wanted o (yielded ops a.tmps) = true then Oper.wp P o a w K Q else E := by
  have hw : Region.wanted o (yielded ops a.tmps) = true := by simp [Region.wanted, hgd]
  rw [if_pos hw]
  obtain ⟨v', w', hr, hg⟩ := run_app0 (P := P) w o.type hP hB hsl hlen
  unfold Oper.wp execOp
  simp only [ho, resolve, invoke, builtin, Sem.run_bind, Sem.run_pure, Result.andThen_ok, List.map_toArray, List.map_cons, List.map_nil, hs, hx, hr]
  exact h v' w' hg
end Go.Proofs.YticekjagmcphbaaGreatDoor
