/-
  Results in memory: what a call gives back and owns, in words that marks and later calls keep; no program in sight.
-/
import Derived.Test.YtoiomgofbohmoaaSa
import Derived.Maps.AppendAt
set_option linter.unusedVariables false
set_option linter.unusedSimpArgs false
namespace Go.Proofs.Ytoiomgofbohmoaa
open Go.RowKit

theorem RowAt_kept {w w' : World} {v : Value} {c n : Nat} {xs : List Value} {r : List (Option Nat)} (h : RowAt w v c n xs) (k : Kept w w' r) (hne : ∀ i, v.ownBlock = some i → some i ∉ r) : RowAt w' v c n xs := by
  obtain ⟨h1, h2, ao, cap, rfl, h4⟩ := h
  refine ⟨h1, h2, ao, cap, rfl, h4.imp_right ?_⟩
  rintro ⟨b, o, rfl, hlt, hc⟩
  refine ⟨b, o, rfl, Nat.lt_of_lt_of_le hlt k.size, fun j u hj => ?_⟩
  have hb : w'.heap[b]? = w.heap[b]? := k.block b hlt (hne b rfl)
  exact ⟨(World.cell?_of_block hb).trans (hc j u hj).1, (World.frozen?_of_block hb).trans (hc j u hj).2⟩

theorem Kept.of_alloc {w w' : World} {r : List (Option Nat)} {o : Obj} (k : Kept (w.alloc o) w' r) : Kept w w' r :=
  ⟨k.os, k.tape, k.output, Nat.le_trans (by rw [World.size_alloc]; exact Nat.le_succ _) k.size, fun i hi hne => (k.block i (by rw [World.size_alloc]; exact Nat.lt_succ_of_lt hi) hne).trans (Below.heap_alloc w o i hi)⟩
theorem ownsRow_nil' {w : World} {base : Nat} {e : TypeId} {c : Nat} : w.ownsRow base e c (.slice none 0 0) 0 [] := ⟨(Nat.zero_mul _).symm, .inl ⟨rfl, rfl⟩⟩
theorem ownsRow_lt {w : World} {base : Nat} {e : TypeId} {c n : Nat} {v : Value} {xs : List Value} (h : w.ownsRow base e c v n xs) : ∀ i, v.ownBlock = some i → base ≤ i ∧ i < w.heap.size := by
  obtain ⟨h1, h2⟩ := h
  rcases h2 with ⟨rfl, rfl⟩ | ⟨g, cap, cur, rfl, a2, a3, a4⟩
  · intro i hi; cases hi
  · intro i hi
    cases hi
    exact ⟨a2, (Array.getElem?_eq_some_iff.1 a3).1⟩

/-- What a mark of new blocks leaves: all below. -/
theorem Kept.toBelow {B : Nat} {w w' : World} {r : List (Option Nat)} (k : Kept w w' r) (hB : B ≤ w.heap.size) (hr : ∀ i, some i ∈ r → B ≤ i) : Below B w w' :=
  ⟨k.os, k.tape, k.output, k.size, fun i hi => k.block i (by omega) (fun hm => by have := hr i hm; omega)⟩

/-- A slice of floats given back, and a word. -/
def GivesL (e : TypeId) (n : Nat) (l : List Nat) (b : Bool) (w : World) (x : Ending) (w' : World) : Prop :=
  ∃ v, x = .returned (.tuple #[v, .bool b]) ∧ w'.ownsRow w.heap.size e 1 v n (fl l) ∧ Below w.heap.size w w'
/-- Clocks given back, and a word. -/
def GivesC (e e' : TypeId) (n : Nat) (l : List Nat) (m : Nat) (lk : List Nat) (b : Bool) (w : World) (x : Ending) (w' : World) : Prop :=
  ∃ v0 v1, x = .returned (.tuple #[.agg #[v0, v1], .bool b]) ∧ w'.ownsRow w.heap.size e 2 v0 n (fl l) ∧ w'.ownsRow w.heap.size e' 1 v1 m (fl lk) ∧ (∀ i, v0.ownBlock = some i → v1.ownBlock ≠ some i) ∧ Below w.heap.size w w'
theorem GivesL.mono_world {e : TypeId} {n : Nat} {l : List Nat} {b : Bool} {w w0 : World} {x : Ending} {w' : World} (h : GivesL e n l b w x w') (h0 : Below w0.heap.size w0 w) : GivesL e n l b w0 x w' := by
  obtain ⟨v, h1, h2, h3⟩ := h
  exact ⟨v, h1, ownsRow_base h0.size h2, h0.trans (h3.mono h0.size)⟩

section
variable {P : Program} {ops : Array Oper} {Q : Exit → Act → World → Prop} {a : Act} {w : World} {rest : List Oper} {o : Oper}
/-- 'float64(x)' of a float32, under a guard. -/
theorem wpList_widen_g {src dst : TypeId} {x : Operand} {b : Nat} (hop : o.op = Op.convert src dst x) (hx : a.eval x = .float .f32 b)
    (hd : P.underlying dst = some (.float .f64)) (hs : P.underlying src = some (.float .f32)) (hw : Region.wanted o (yielded ops a.tmps) = true)
    (hK : ∀ r n, Hid (cn .f64 r = fconv .f32 .f64 (cn .f32 b)) → wpList P ops Q rest (a.put o.dst (.float .f64 r)) (w.drewN n)) : wpList P ops Q (o :: rest) a w := by
  refine wpList_step fun K hK' => ?_
  rw [if_pos hw]
  obtain ⟨r, n, hrun, hr⟩ := run_conv_any (P := P) w src dst .f32 .f64 b (by rw [hs]; rfl) hd (by decide)
  unfold Oper.wp
  simp [execOp, hop, hx, hrun, Result.andThen]
  exact hK' _ _ (hK r n (hr (widen_ok _)))
end

/-! Marks of blocks in a range. -/
section
variable {w w' : World} {r : List (Option Nat)} {lo hi : Nat}
theorem Held_range (k : Kept w w' r) (hr : ∀ i, some i ∈ r → lo ≤ i ∧ i < hi) {l : List (Addr × Value)} (hl : ∀ q ∈ l, ¬ (lo ≤ q.1.block ∧ q.1.block < hi)) (h : Held l w) : Held l w' := Held_kept k (fun q hq hm => hl q hq (hr _ hm)) h
theorem RowAt_range {v : Value} {c n : Nat} {xs : List Value} (k : Kept w w' r) (hr : ∀ i, some i ∈ r → lo ≤ i ∧ i < hi) (hv : ∀ i, v.ownBlock = some i → ¬ (lo ≤ i ∧ i < hi)) (h : RowAt w v c n xs) : RowAt w' v c n xs := RowAt_kept h k (fun i hi hm => hv i hi (hr i hm))
theorem ownsRow_range {base : Nat} {e : TypeId} {v : Value} {c n : Nat} {xs : List Value} (k : Kept w w' r) (hr : ∀ i, some i ∈ r → lo ≤ i ∧ i < hi) (hv : ∀ i, v.ownBlock = some i → ¬ (lo ≤ i ∧ i < hi)) (h : w.ownsRow base e c v n xs) : w'.ownsRow base e c v n xs := ownsRow_kept h k (fun i hi hm => hv i hi (hr i hm))
theorem Below_range {B : Nat} (k : Kept w w' r) (hr : ∀ i, some i ∈ r → lo ≤ i ∧ i < hi) (h1 : B ≤ lo) (h2 : B ≤ w.heap.size) : Below B w w' := k.toBelow h2 (fun i hi => Nat.le_trans h1 (hr i hi).1)
end
theorem range_one {lo hi : Nat} {u : Value} (h : ∀ i, u.ownBlock = some i → lo ≤ i ∧ i < hi) : ∀ i, some i ∈ [u.ownBlock] → lo ≤ i ∧ i < hi := by
  intro i hi
  simp only [List.mem_cons, List.not_mem_nil, or_false] at hi
  exact h i hi.symm
theorem range_two {lo hi : Nat} {u v : Value} (h : ∀ i, u.ownBlock = some i → lo ≤ i ∧ i < hi) (h' : ∀ i, v.ownBlock = some i → lo ≤ i ∧ i < hi) : ∀ i, some i ∈ [u.ownBlock, v.ownBlock] → lo ≤ i ∧ i < hi := by
  intro i hi
  simp only [List.mem_cons, List.not_mem_nil, or_false] at hi
  rcases hi with e | e
  · exact h i e.symm
  · exact h' i e.symm
theorem own_some {g n c i : Nat} (h : (Value.slice (some ⟨g, 0, none⟩) n c).ownBlock = some i) : i = g := by
  have : some g = some i := h
  exact (Option.some.inj this).symm
end Go.Proofs.Ytoiomgofbohmoaa
