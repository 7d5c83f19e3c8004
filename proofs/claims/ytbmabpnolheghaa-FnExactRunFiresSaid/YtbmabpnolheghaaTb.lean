/-
  Clocks that are given other turns: plain facts.
-/
import Derived.Test.YtbmabpnolheghaaTw
import Derived.Test.YtbmabpnolheghaaSg
set_option linter.unusedVariables false
set_option linter.unusedSimpArgs false
namespace Go.Proofs.Ytbmabpnolheghaa
open Go.RowKit

/-- A turn as it is laid: wrapped, or 0. -/
def turnQ (x : Nat) : Nat := if finB .f32 x then wrapQ x else 0
/-- The first 'i' clocks have the turns 'Q'. -/
def turned (l : List Nat) (Q : Nat → Nat) : Nat → List Nat
  | 0 => l
  | i + 1 => (turned l Q i).set (i * 2) (turnQ (Q i))
theorem turned_length (l : List Nat) (Q : Nat → Nat) : ∀ i, (turned l Q i).length = l.length
  | 0 => rfl
  | i + 1 => by show ((turned l Q i).set _ _).length = _; rw [List.length_set, turned_length l Q i]
theorem wq_cn (x : Nat) : wq (cn .f32 x) = wq x := by unfold wq; rw [cn_cn]
theorem wrapQ_cn (x : Nat) : wrapQ (cn .f32 x) = wrapQ x := by unfold wrapQ; rw [wq_cn]
theorem turnQ_cn (x : Nat) : turnQ (cn .f32 x) = turnQ x := by unfold turnQ; rw [finB_cn, wrapQ_cn]
theorem turnQ_keep (x : Nat) : keepB (turnQ x) = true := by
  unfold turnQ
  split
  · exact wrap_keep ‹_›
  · decide +kernel
theorem getD_set (l : List Nat) (i j x : Nat) : (l.set i x).getD j 0 = if i = j ∧ j < l.length then x else l.getD j 0 := by
  rw [List.getD_eq_getElem?_getD, List.getElem?_set]
  by_cases h : i = j
  · subst h
    by_cases h2 : i < l.length
    · simp [h2]
    · simp [h2, List.getD_eq_getElem?_getD, List.getElem?_eq_none (Nat.le_of_not_lt h2)]
  · simp [h, List.getD_eq_getElem?_getD]
/-- An odd cell stays. -/
theorem turned_odd (l : List Nat) (Q : Nat → Nat) (k : Nat) : ∀ i, (turned l Q i).getD (k * 2 + 1) 0 = l.getD (k * 2 + 1) 0
  | 0 => rfl
  | i + 1 => by
    show ((turned l Q i).set _ _).getD _ _ = _
    rw [getD_set, if_neg (by omega), turned_odd l Q k i]
theorem turned_even (l : List Nat) (Q : Nat → Nat) (k : Nat) (hk : k * 2 < l.length) : ∀ i, (turned l Q i).getD (k * 2) 0 = if k < i then turnQ (Q k) else l.getD (k * 2) 0
  | 0 => rfl
  | i + 1 => by
    show ((turned l Q i).set _ _).getD _ _ = _
    rw [getD_set, turned_length]
    by_cases h : i * 2 = k * 2 ∧ k * 2 < l.length
    · rw [if_pos h, if_pos (by omega), show k = i by omega]
    · rw [if_neg h, turned_even l Q k hk i]
      by_cases h2 : k < i
      · rw [if_pos h2, if_pos (by omega)]
      · rw [if_neg h2, if_neg (by omega)]
theorem turned_here (l : List Nat) (Q : Nat → Nat) (i : Nat) (hi : i * 2 < l.length) : (turned l Q i).getD (i * 2) 0 = l.getD (i * 2) 0 := by rw [turned_even l Q i hi i, if_neg (Nat.lt_irrefl _)]
theorem upto_at {p : Nat → Bool} {n k : Nat} (h : upto p n = true) (hk : k < n) : p k = true := List.all_eq_true.1 h k (List.mem_range.2 hk)
theorem upto_congr {p q : Nat → Bool} : ∀ {n : Nat}, (∀ k, k < n → p k = q k) → upto p n = upto q n := by
  intro n h
  cases hq : upto q n
  · cases hp : upto p n
    · rfl
    · exfalso
      have : upto q n = true := upto_true fun j hj => by rw [← h j hj]; exact upto_at hp hj
      rw [this] at hq
      cases hq
  · exact upto_true fun j hj => by rw [h j hj]; exact upto_at hq hj
theorem clocks_parts {n m : Nat} {l lk : List Nat} (h : clocksB n l m lk = true) : 1 ≤ n ∧ n ≤ 12 ∧ upto (okClock l) n = true ∧ m = n * n ∧ allFin lk = true := by
  unfold clocksB inR at h
  simp only [Bool.and_eq_true, decide_eq_true_eq] at h
  obtain ⟨⟨⟨⟨h1, h2⟩, h3⟩, h4⟩, h5⟩ := h
  exact ⟨h1, h2, h3, h4, h5⟩
theorem clocks_mk {n m : Nat} {l lk : List Nat} (h1 : 1 ≤ n) (h2 : n ≤ 12) (h3 : upto (okClock l) n = true) (h4 : m = n * n) (h5 : allFin lk = true) : clocksB n l m lk = true := by
  unfold clocksB inR
  simp only [Bool.and_eq_true, decide_eq_true_eq]
  exact ⟨⟨⟨⟨h1, h2⟩, h3⟩, h4⟩, h5⟩
/-- Turned clocks are right clocks. -/
theorem turned_clocks {n m : Nat} {l lk : List Nat} (Q : Nat → Nat) (h : clocksB n l m lk = true) (hl : l.length = n * 2) : clocksB n (turned l Q n) m lk = true := by
  obtain ⟨h1, h2, h3, h4, h5⟩ := clocks_parts h
  refine clocks_mk h1 h2 (upto_true fun k hk => ?_) h4 h5
  have h6 := upto_at h3 hk
  unfold okClock clockB at h6 ⊢
  rw [turned_odd, turned_even l Q k (by omega), if_pos hk, turnQ_keep]
  simp only [Bool.and_eq_true] at h6
  rw [h6.2]; rfl
/-- Numbers that are picked by a word, or none. -/
def cN (b : Bool) (n : Nat) : Nat := if b then n else 0
def cL (b : Bool) (l : List Nat) : List Nat := if b then l else []
end Go.Proofs.Ytbmabpnolheghaa
