/-
  How an argument that is a struct of float32 fields is opened: its value, cell by cell.
-/
import Derived.Test.YtoiomgofbohmoaaFl
import Derived.ProofKit
import Derived.Laws.Cover2
set_option linter.unusedVariables false
namespace Go.Proofs.Ytoiomgofbohmoaa
open Go.RowKit

theorem cell_float {P : Program} {w : World} {r : Reach} {b0 : Nat} {u : TypeId} {v : Value} (hu : P.underlying u = some (.float .f32)) (h : Cell.okWide P w r b0 u v) : ∃ b, v = .float .f32 b ∧ b < 4294967296 := by
  simp only [Cell.okWide, hu] at h
  cases v <;> simp [Cell.ok, hu] at h
  rename_i k b
  cases k <;> simp [FloatKind.has] at h
  exact ⟨b, rfl, h⟩

/-- A STRUCT OF n float32 CELLS, OPENED. -/
theorem open_floats {P : Program} {w : World} {r : Reach} {b0 : Nat} {t e : TypeId} {n : Nat} {v : Value} (hs : ∃ fs, P.underlying t = some (.struct fs)) (hC : P.cellsOf t = n)
    (hT : P.cellTypes P.depth t = some (List.replicate n e)) (hu : P.underlying e = some (.float .f32)) (hv : Value.okWide P w r b0 t v) :
    ∃ l : List Nat, l.length = n ∧ (∀ b ∈ l, b < 4294967296) ∧ v = .agg (l.map (Value.float .f32)).toArray := by
  obtain ⟨fs, hs⟩ := hs
  simp only [Value.okWide, hs] at hv
  obtain ⟨cs, rfl, hsz, ts, hts, _, hc⟩ := hv
  rw [hT] at hts
  cases hts
  rw [hC] at hsz
  have hcell : ∀ i, (hi : i < cs.toList.length) → ∃ b, cs.toList[i] = .float .f32 b ∧ b < 4294967296 := by
    intro i hi
    have hi' : i < cs.size := by simpa using hi
    obtain ⟨u, hu1, hu2⟩ := hc i cs[i] (by simp [hi'])
    have hn : 0 < n := by omega
    rw [List.length_replicate, List.getElem?_replicate, if_pos (Nat.mod_lt _ hn)] at hu1
    cases hu1
    exact cell_float hu hu2
  have key : ∀ (L : List Value), (∀ i, (hi : i < L.length) → ∃ b, L[i] = .float .f32 b ∧ b < 4294967296) → ∃ l : List Nat, l.length = L.length ∧ (∀ b ∈ l, b < 4294967296) ∧ L = l.map (Value.float .f32) := by
    intro L
    induction L with
    | nil => intro _; exact ⟨[], rfl, by simp, rfl⟩
    | cons x L ih =>
      intro hL
      obtain ⟨b, hb, hlt⟩ := hL 0 (by simp)
      obtain ⟨l, h1, h2, h3⟩ := ih (fun i hi => hL (i + 1) (Nat.succ_lt_succ hi))
      refine ⟨b :: l, by simp [h1], ?_, ?_⟩
      · intro c hc
        rcases List.mem_cons.1 hc with rfl | hc
        · exact hlt
        · exact h2 c hc
      · simp at hb
        simp [hb, h3]
  obtain ⟨l, h1, h2, h3⟩ := key cs.toList hcell
  refine ⟨l, by rw [h1]; simpa using hsz, h2, ?_⟩
  rw [← h3]

theorem list2 {l : List Nat} (h : l.length = 2) : ∃ a b, l = [a, b] := by
  match l, h with | [a, b], _ => exact ⟨a, b, rfl⟩
theorem list3 {l : List Nat} (h : l.length = 3) : ∃ a b c, l = [a, b, c] := by
  match l, h with | [a, b, c], _ => exact ⟨a, b, c, rfl⟩
theorem list4 {l : List Nat} (h : l.length = 4) : ∃ a b c d, l = [a, b, c, d] := by
  match l, h with | [a, b, c, d], _ => exact ⟨a, b, c, d, rfl⟩
theorem list5 {l : List Nat} (h : l.length = 5) : ∃ a b c d e, l = [a, b, c, d, e] := by
  match l, h with | [a, b, c, d, e], _ => exact ⟨a, b, c, d, e, rfl⟩
theorem list10 {l : List Nat} (h : l.length = 10) : ∃ a b c d e f g i j k, l = [a, b, c, d, e, f, g, i, j, k] := by
  match l, h with | [a, b, c, d, e, f, g, i, j, k], _ => exact ⟨a, b, c, d, e, f, g, i, j, k, rfl⟩

end Go.Proofs.Ytoiomgofbohmoaa
