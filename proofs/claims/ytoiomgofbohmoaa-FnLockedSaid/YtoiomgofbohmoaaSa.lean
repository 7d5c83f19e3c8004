/-
  Slices whose elements are some cells each: what they hold, in words that calls keep; no program in sight.
-/
import Derived.Test.YtoiomgofbohmoaaFx
import Derived.WalkKit
import Derived.OwnWalk
import Derived.Laws.OwnMore
set_option linter.unusedVariables false
set_option linter.unusedSimpArgs false
namespace Go.Proofs.Ytoiomgofbohmoaa
open Go.RowKit

/-- A slice of 'n' elements of 'c' cells each: its cells hold 'xs', none of them frozen; of an empty one no address is known. -/
def RowAt (w : World) (v : Value) (c n : Nat) (xs : List Value) : Prop :=
  xs.length = n * c ∧ n ≤ maxLen ∧ ∃ ao cap, v = .slice ao n cap ∧ (n = 0 ∨ ∃ b o, ao = some ⟨b, o, none⟩ ∧ b < w.heap.size ∧
    ∀ j u, xs[j]? = some u → w.cell? ⟨b, o + j, none⟩ = some u ∧ w.frozen? ⟨b, o + j, none⟩ = false)

theorem RowAt.below {w w' : World} {v : Value} {c n : Nat} {xs : List Value} (h : RowAt w v c n xs) (hb : Below w.heap.size w w') : RowAt w' v c n xs := by
  obtain ⟨h1, h2, ao, cap, h3, h4⟩ := h
  refine ⟨h1, h2, ao, cap, h3, h4.imp_right ?_⟩
  rintro ⟨b, o, e, hlt, hc⟩
  refine ⟨b, o, e, Nat.lt_of_lt_of_le hlt hb.size, fun j u hj => ?_⟩
  rw [hb.cell (p := ⟨b, o + j, none⟩) hlt, hb.frozen (p := ⟨b, o + j, none⟩) hlt]
  exact hc j u hj

section
variable {w w' : World} {base : Nat} {e : TypeId} {c n : Nat} {v : Value} {xs : List Value}
theorem ownsRow_base {base' : Nat} (hb : base' ≤ base) (h : w.ownsRow base e c v n xs) : w.ownsRow base' e c v n xs := by
  obtain ⟨h1, h2⟩ := h
  refine ⟨h1, h2.imp_right ?_⟩
  rintro ⟨g, cap, cur, a1, a2, a3⟩
  exact ⟨g, cap, cur, a1, Nat.le_trans hb a2, a3⟩
theorem ownsRow_below (h : w.ownsRow base e c v n xs) (hb : Below w.heap.size w w') : w'.ownsRow base e c v n xs := by
  obtain ⟨h1, h2⟩ := h
  refine ⟨h1, h2.imp_right ?_⟩
  rintro ⟨g, cap, cur, a1, a2, a3, a4⟩
  refine ⟨g, cap, cur, a1, a2, ?_, a4⟩
  rw [hb.block g (Array.getElem?_eq_some_iff.1 a3).1]
  exact a3
theorem ownsRow_rowAt (h : w.ownsRow base e c v n xs) : RowAt w v c n xs := by
  have h0 := h
  obtain ⟨h1, h2⟩ := h
  rcases h2 with ⟨rfl, rfl⟩ | ⟨g, cap, cur, rfl, a2, a3, a4, a5, a6, a7⟩
  · exact ⟨h1, Nat.zero_le _, none, 0, rfl, .inl rfl⟩
  · refine ⟨h1, by omega, _, cap, rfl, .inr ⟨g, 0, rfl, (Array.getElem?_eq_some_iff.1 a3).1, fun j u hj => ?_⟩⟩
    have hj' : j < n * c := by
      have := (List.getElem?_eq_some_iff.1 hj).1
      omega
    rw [Nat.zero_add]
    exact ⟨(h0.cellAt j hj').trans hj, h0.frozenAt j⟩
theorem ownsRow_drewN (h : w.ownsRow base e c v n xs) (k : Nat) : (w.drewN k).ownsRow base e c v n xs := h
theorem ownsRow_grown {row : Option Nat} (h : w.ownsRow base e c v n xs) (hg : w.grownBy w' row) (hne : v.ownBlock = none ∨ v.ownBlock ≠ row) : w'.ownsRow base e c v n xs := h.kept hg hne
end

theorem cell_some {w : World} {base : Nat} {e : TypeId} {c n g cap : Nat} {xs : List Value} (h : w.ownsRow base e c (.slice (some ⟨g, 0, none⟩) n cap) n xs) (j : Nat) (hj : j < n * c) : ∃ u, w.cell? ⟨g, j, none⟩ = some u := by
  refine ⟨_, (h.cellAt j hj).trans (List.getElem?_eq_getElem (by rw [h.1]; exact hj))⟩

/-- But for some blocks all that was there is as it was. -/
structure Kept (w w' : World) (rows : List (Option Nat)) : Prop where
  os : w'.os = w.os
  tape : w'.tape = w.tape
  output : w'.output = w.output
  size : w.heap.size ≤ w'.heap.size
  block : ∀ k, k < w.heap.size → some k ∉ rows → w'.heap[k]? = w.heap[k]?
theorem Kept.of_grown {w w' : World} {row : Option Nat} (h : w.grownBy w' row) : Kept w w' [row] :=
  ⟨h.os, h.tape, h.output, h.size, fun k hk hne => h.block k hk (fun e => hne (by rw [e]; exact List.mem_singleton.2 rfl))⟩
theorem Kept.of_below {w w' : World} (h : Below w.heap.size w w') : Kept w w' [] := ⟨h.os, h.tape, h.output, h.size, fun k hk _ => h.block k hk⟩
theorem Kept.trans {a b c : World} {r s : List (Option Nat)} (h : Kept a b r) (k : Kept b c s) : Kept a c (r ++ s) :=
  ⟨k.os.trans h.os, k.tape.trans h.tape, k.output.trans h.output, Nat.le_trans h.size k.size, fun i hi hne =>
    (k.block i (Nat.lt_of_lt_of_le hi h.size) (fun hm => hne (List.mem_append_right _ hm))).trans (h.block i hi (fun hm => hne (List.mem_append_left _ hm)))⟩
theorem Kept.below {B : Nat} {a b c : World} {r : List (Option Nat)} (h : Below B a b) (k : Kept b c r) (hB : B ≤ b.heap.size) (hr : ∀ i, some i ∈ r → B ≤ i) : Below B a c :=
  h.trans ⟨k.os, k.tape, k.output, k.size, fun i hi => k.block i (by omega) (fun hm => by have := hr i hm; omega)⟩
theorem ownsRow_kept {w w' : World} {base : Nat} {e : TypeId} {c n : Nat} {v : Value} {xs : List Value} {r : List (Option Nat)} (h : w.ownsRow base e c v n xs) (k : Kept w w' r) (hne : ∀ i, v.ownBlock = some i → some i ∉ r) : w'.ownsRow base e c v n xs := by
  obtain ⟨h1, h2⟩ := h
  refine ⟨h1, h2.imp_right ?_⟩
  rintro ⟨g, cap, cur, rfl, a2, a3, a4⟩
  refine ⟨g, cap, cur, rfl, a2, ?_, a4⟩
  rw [k.block g (Array.getElem?_eq_some_iff.1 a3).1 (hne g rfl)]
  exact a3
theorem Held_kept {w w' : World} {r : List (Option Nat)} (k : Kept w w' r) : ∀ {l : List (Addr × Value)}, (∀ q ∈ l, some q.1.block ∉ r) → Held l w → Held l w'
  | [], _, _ => trivial
  | p :: l, hne, h => by
    have hb : w'.heap[p.1.block]? = w.heap[p.1.block]? := k.block p.1.block h.1.1 (hne p (by simp))
    exact ⟨⟨Nat.lt_of_lt_of_le h.1.1 k.size, (World.cell?_of_block hb).trans h.1.2.1, (World.frozen?_of_block hb).trans h.1.2.2⟩, Held_kept k (fun q hq => hne q (by simp [hq])) h.2⟩

/-! ### Lists of floats -/

def fl (l : List Nat) : List Value := l.map (Value.float .f32)
def il (l : List Int) : List Value := l.map (Value.int .i64)
theorem fl_length (l : List Nat) : (fl l).length = l.length := List.length_map ..
theorem il_length (l : List Int) : (il l).length = l.length := List.length_map ..
theorem fl_get {l : List Nat} {j : Nat} (h : j < l.length) : (fl l)[j]? = some (.float .f32 (l.getD j 0)) := by
  unfold fl
  rw [List.getElem?_map, List.getElem?_eq_getElem h, List.getD_eq_getElem?_getD, List.getElem?_eq_getElem h]
  rfl
theorem fl_some {l : List Nat} {j : Nat} (h : j < l.length) : ∃ x, (fl l)[j]? = some (.float .f32 x) := ⟨_, fl_get h⟩
theorem il_some {l : List Int} {j : Nat} (h : j < l.length) : ∃ x, (il l)[j]? = some (.int .i64 x) := by unfold il; rw [List.getElem?_map, List.getElem?_eq_getElem h]; exact ⟨_, rfl⟩
theorem il_get {l : List Int} {j : Nat} (h : j < l.length) : (il l)[j]? = some (.int .i64 (l.getD j 0)) := by
  unfold il
  rw [List.getElem?_map, List.getElem?_eq_getElem h, List.getD_eq_getElem?_getD, List.getElem?_eq_getElem h]
  rfl
theorem fl_append (l m : List Nat) : fl (l ++ m) = fl l ++ fl m := List.map_append ..
theorem il_append (l m : List Int) : il (l ++ m) = il l ++ il m := List.map_append ..

theorem cn_at {l m : List Nat} {j x y : Nat} (h : l.map (cn .f32) = m.map (cn .f32)) (hx : (fl l)[j]? = some (.float .f32 x)) (hy : (fl m)[j]? = some (.float .f32 y)) : cn .f32 x = cn .f32 y := by
  unfold fl at hx hy
  rw [List.getElem?_map] at hx hy
  obtain ⟨a, ha, hx⟩ := Option.map_eq_some_iff.1 hx
  obtain ⟨b, hb, hy⟩ := Option.map_eq_some_iff.1 hy
  cases hx
  cases hy
  have h2 := congrArg (fun l => l[j]?) h
  simp only [List.getElem?_map, ha, hb, Option.map_some, Option.some.injEq] at h2
  exact h2
theorem grownBy_trans {a b c : World} {row : Option Nat} (h1 : a.grownBy b row) (h2 : b.grownBy c row) : a.grownBy c row :=
  ⟨h2.os.trans h1.os, h2.tape.trans h1.tape, h2.output.trans h1.output, Nat.le_trans h1.size h2.size, fun k hk hne => (h2.block k (Nat.lt_of_lt_of_le hk h1.size) hne).trans (h1.block k hk hne)⟩

/-- Cells in threes: two integers and a float. -/
def RodL (xs : List Value) : Prop := ∀ k, k * 3 + 2 < xs.length → ∃ p q x, xs[k * 3]? = some (.int .i64 p) ∧ xs[k * 3 + 1]? = some (.int .i64 q) ∧ xs[k * 3 + 2]? = some (.float .f32 x)

/-! ### A row that is filled cell by cell -/

/-- The first 'j' cells are 'xs'', the others are still 'zs''. -/
def part (xs zs : List Value) (j : Nat) : List Value := xs.take j ++ zs.drop j
theorem part_zero (xs zs : List Value) : part xs zs 0 = zs := by simp [part]
theorem part_full {xs zs : List Value} (h : xs.length = zs.length) : part xs zs xs.length = xs := by
  unfold part
  rw [List.take_length, h, List.drop_length, List.append_nil]
theorem part_get {xs zs : List Value} {j : Nat} (hl : xs.length = zs.length) (i : Nat) : (part xs zs j)[i]? = if i < j then xs[i]? else zs[i]? := by
  unfold part
  rw [List.getElem?_append, List.length_take]
  by_cases hi : i < min j xs.length
  · rw [if_pos hi, List.getElem?_take, if_pos (by omega), if_pos (by omega)]
  · rw [if_neg hi, List.getElem?_drop]
    by_cases hij : i < j
    · rw [if_pos hij, List.getElem?_eq_none (by omega), List.getElem?_eq_none (by omega)]
    · rw [if_neg hij]
      by_cases hx : j ≤ xs.length
      · congr 1; omega
      · rw [List.getElem?_eq_none (by omega), List.getElem?_eq_none (by omega)]
theorem part_set {xs zs : List Value} {j : Nat} {x : Value} (hl : xs.length = zs.length) (hx : xs[j]? = some x) : (part xs zs j).set j x = part xs zs (j + 1) := by
  have hj := (List.getElem?_eq_some_iff.1 hx).1
  apply List.ext_getElem?
  intro i
  rw [List.getElem?_set, part_get hl, part_get hl]
  have hlen : j < (part xs zs j).length := by unfold part; simp; omega
  by_cases hij : j = i
  · subst hij
    simp [hx, hlen]
  · rw [if_neg hij]
    by_cases h : i < j
    · rw [if_pos h, if_pos (by omega)]
    · rw [if_neg h, if_neg (by omega)]
theorem part_here {xs zs : List Value} {j : Nat} (hl : xs.length = zs.length) (hj : j < zs.length) : (part xs zs j)[j]? = some (zs.getD j undef) := by
  rw [part_get hl, if_neg (by omega), List.getD_eq_getElem?_getD, List.getElem?_eq_getElem hj]
  rfl

/-! ### Marks -/

def marks (k m : Nat) : List Value := (List.range m).map fun i => .float .f32 (floatOfInt .f32 ((k + i : Nat) : Int))
def imarks (k m : Nat) : List Value := (List.range m).map fun i => .int .i64 ((k + i : Nat) : Int)
theorem marks_length (k m : Nat) : (marks k m).length = m := by simp [marks]
theorem imarks_length (k m : Nat) : (imarks k m).length = m := by simp [imarks]
theorem marks_get {k m i : Nat} (h : i < m) : (marks k m)[i]? = some (.float .f32 (floatOfInt .f32 ((k + i : Nat) : Int))) := by simp [marks, h]
theorem imarks_get {k m i : Nat} (h : i < m) : (imarks k m)[i]? = some (.int .i64 ((k + i : Nat) : Int)) := by simp [imarks, h]

theorem int_num (k : FloatKind) (z : Int) : isN k (floatOfInt k z) = false := write_not_nan k.format (.number (z < 0) z.natAbs 0) rfl
theorem eqF_int (z : Int) : eqF .f32 (floatOfInt .f32 z) (floatOfInt .f32 z) = true := by rw [eqF_self, int_num]; rfl

end Go.Proofs.Ytoiomgofbohmoaa
