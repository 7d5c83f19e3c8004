/-
  How an argument that is a slice of bytes is opened.
-/
import Derived.Test.YtoiomgofbohmoaaLi
import Derived.Test.YtoiomgofbohmoaaRx
import Derived.ChangeSlices
set_option linter.unusedVariables false
namespace Go.Proofs.Ytoiomgofbohmoaa
open Go.RowKit Go.ChangeShapes
theorem open_byterow {H : Type} {enc : TypeId × Value → H} {P : Program} {w : World} {base : Nat} {spare : Nat → Bool} {held : Bool} {t e : TypeId} {fuel : Nat} {v : Value} {d : DataW H} {ps : List MemPlace} (ht : P.underlying t = some (.slice e)) (he : P.underlying e = some (.int .u8)) (hc : P.cellsOf e = 1)
    (h : DataW.trod enc P w base spare held fuel t [v] = some (d, ps)) (hz : w.noneFrozen ps) : ∃ n l, RowAt w v 1 n (bl l) ∧ ∀ x ∈ l, x < 256 := by
  rcases open_ints ht he hc h with ⟨hv, _⟩ | ⟨a, len, cap, zs, hv, hb, hlc, hmx, hzl, hx, hcell, hwf⟩
  · simp only [List.cons.injEq, and_true] at hv
    subst hv
    exact ⟨0, [], ⟨by simp [bl], Nat.zero_le _, none, 0, rfl, .inl rfl⟩, fun x hx => by simp at hx⟩
  simp only [List.cons.injEq, and_true] at hv
  subst hv
  have hlm : len ≤ zs.length := by rw [hzl]; split <;> omega
  have hr : ∀ z ∈ zs, 0 ≤ z ∧ z ≤ 255 := by
    intro z hz
    have h1 := hwf z hz
    simp only [Lit.wf, Bool.and_eq_true, decide_eq_true_eq] at h1
    exact ⟨h1.1, h1.2⟩
  have hgz : ∀ j, j < zs.length → zs.getD j 0 ∈ zs := by
    intro j hj
    rw [List.getD_eq_getElem?_getD, List.getElem?_eq_getElem hj]
    exact List.getElem_mem hj
  refine ⟨len, (zs.take len).map Int.toNat, ⟨by rw [bl_length]; simp; omega, by omega, some a, cap, rfl, ?_⟩, ?_⟩
  · rcases Nat.eq_zero_or_pos len with h0 | h0
    · exact .inl h0
    · right
      have hu0 := hcell 0 (by omega)
      have ha : a = ⟨a.block, a.off, none⟩ := by
        obtain ⟨b, off, spot⟩ := a
        have hspot : spot = none := by simpa [Addr.add] using World.cell?_spot hu0
        subst hspot
        rfl
      refine ⟨a.block, a.off, by rw [← ha], ?_, fun j u hj => ?_⟩
      · have := World.block_lt_of_cell? w _ hu0
        rw [ha] at this
        simpa [Addr.add] using this
      · have hjl : j < len := by
          have := (List.getElem?_eq_some_iff.1 hj).1
          rw [bl_length] at this
          simp at this
          omega
        have h1 := hcell j (by omega)
        have h2 := hr _ (hgz j (by omega))
        have hju : u = .int .u8 (zs.getD j 0) := by
          rw [bl_get (by simp; omega)] at hj
          rw [← Option.some.inj hj]
          congr 1
          rw [List.getD_eq_getElem?_getD, List.getElem?_map, List.getElem?_take, if_pos hjl, List.getElem?_eq_getElem (by omega)]
          rw [List.getD_eq_getElem?_getD, List.getElem?_eq_getElem (by omega)] at h2 ⊢
          simp only [Option.map_some, Option.getD_some] at h2 ⊢
          omega
        subst hju
        refine ⟨?_, ?_⟩
        · rw [ha, Addr.add_lit] at h1
          exact h1
        · refine hz _ _ ?_
          have hx2 : ps = MemPlace.row a zs.length := (Prod.ext_iff.1 hx).2
          rw [hx2]
          unfold MemPlace.row
          rw [List.mem_map]
          refine ⟨j, List.mem_range.2 (by omega), rfl⟩
  · intro x hx
    obtain ⟨z, hz1, rfl⟩ := List.mem_map.1 hx
    have := hr z (List.mem_of_mem_take hz1)
    omega
end Go.Proofs.Ytoiomgofbohmoaa
