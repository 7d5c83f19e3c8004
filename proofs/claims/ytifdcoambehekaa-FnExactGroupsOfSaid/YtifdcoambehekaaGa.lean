/-
  Groups of clocks that are near to one another: the search as a plain function.
-/
import Derived.Test.YtifdcoambehekaaTq
import Derived.Test.YtifdcoambehekaaWo
set_option linter.unusedVariables false
set_option linter.unusedSimpArgs false
namespace Go.Proofs.Ytifdcoambehekaa
open Go.RowKit

/-- One clock is looked at: what is free and near comes to the group, and to the list. -/
def scan1 (P : Nat → Bool) (g : Int) (s : List Int × List Nat) (j : Nat) : List Int × List Nat :=
  if decide (s.1.getD j 0 < 0) && P j then (s.1.set j g, s.2 ++ [j]) else s
def scan (P : Nat → Bool) (g : Int) (s : List Int × List Nat) : Nat → List Int × List Nat
  | 0 => s
  | j + 1 => scan1 P g (scan P g s j) j
/-- The list is gone through, from place 'k' on. -/
def bfs (P : Nat → Nat → Bool) (g : Int) (n : Nat) : Nat → Nat → List Int × List Nat → List Int × List Nat
  | 0, _, s => s
  | f + 1, k, s => if k < s.2.length then bfs P g n f (k + 1) (scan (P (s.2.getD k 0)) g s n) else s
def grp (P : Nat → Nat → Bool) (n : Nat) (t : List Int × Nat) (i : Nat) : List Int × Nat :=
  if decide (t.1.getD i 0 < 0) then ((bfs P (t.2 : Int) n n 0 (t.1.set i (t.2 : Int), [i])).1, t.2 + 1) else t
def grps (P : Nat → Nat → Bool) (n : Nat) : Nat → List Int × Nat
  | 0 => (List.replicate n (-1), 0)
  | i + 1 => grp P n (grps P n i) i

def negs : List Int → Nat
  | [] => 0
  | x :: l => (if x < 0 then 1 else 0) + negs l
theorem negs_le : ∀ l : List Int, negs l ≤ l.length
  | [] => Nat.le_refl _
  | x :: l => by
    have := negs_le l
    simp only [negs, List.length_cons]
    split <;> omega
theorem negs_set : ∀ (l : List Int) (j : Nat) (g : Int), j < l.length → l.getD j 0 < 0 → 0 ≤ g → negs (l.set j g) + 1 = negs l
  | [], j, g, h, _, _ => absurd h (Nat.not_lt_zero _)
  | x :: l, 0, g, _, h, hg => by
    have hx : x < 0 := by simpa using h
    simp only [List.set_cons_zero, negs]
    rw [if_neg (by omega), if_pos hx]
    omega
  | x :: l, j + 1, g, h, h2, hg => by
    have ih := negs_set l j g (by simpa using h) (by simpa using h2) hg
    simp only [List.set_cons_succ, negs]
    omega
/-- What holds of the search: the groups' length, the list no longer than there are clocks, its indices in bounds. -/
def Fits (n : Nat) (s : List Int × List Nat) : Prop := s.1.length = n ∧ s.2.length + negs s.1 ≤ n ∧ ∀ a ∈ s.2, a < n
theorem Fits.len {n : Nat} {s : List Int × List Nat} (h : Fits n s) : s.2.length ≤ n := by have := h.2.1; omega
theorem scan1_fits {P : Nat → Bool} {g : Int} {n j : Nat} {s : List Int × List Nat} (h : Fits n s) (hg : 0 ≤ g) (hj : j < n) : Fits n (scan1 P g s j) := by
  unfold scan1
  split
  · next hc =>
    simp only [Bool.and_eq_true, decide_eq_true_eq] at hc
    obtain ⟨h1, h2, h3⟩ := h
    have h4 := negs_set s.1 j g (by omega) hc.1 hg
    refine ⟨by simpa using h1, ?_, ?_⟩
    · simp only [List.length_append, List.length_cons, List.length_nil]
      omega
    · intro a ha
      simp only [List.mem_append, List.mem_singleton] at ha
      rcases ha with ha | rfl
      · exact h3 a ha
      · exact hj
  · exact h
theorem scan_fits {P : Nat → Bool} {g : Int} {n : Nat} {s : List Int × List Nat} (h : Fits n s) (hg : 0 ≤ g) : ∀ j, j ≤ n → Fits n (scan P g s j)
  | 0, _ => h
  | j + 1, hj => scan1_fits (scan_fits h hg j (by omega)) hg (by omega)
theorem start_fits {n i : Nat} {os : List Int} {g : Int} (h : os.length = n) (hi : i < n) (hn : os.getD i 0 < 0) (hg : 0 ≤ g) : Fits n (os.set i g, [i]) := by
  have h1 := negs_set os i g (by omega) hn hg
  have h2 := negs_le os
  refine ⟨by simpa using h, ?_, ?_⟩
  · simp only [List.length_cons, List.length_nil]; omega
  · intro a ha
    rw [List.mem_singleton.1 ha]
    exact hi
theorem bfs_fits {P : Nat → Nat → Bool} {g : Int} {n : Nat} (hg : 0 ≤ g) : ∀ f k (s : List Int × List Nat), Fits n s → Fits n (bfs P g n f k s)
  | 0, _, s, h => h
  | f + 1, k, s, h => by
    unfold bfs
    split
    · exact bfs_fits hg f (k + 1) _ (scan_fits h hg n (Nat.le_refl _))
    · exact h
theorem bfs_step {P : Nat → Nat → Bool} {g : Int} {n k : Nat} {s : List Int × List Nat} (hk : k < s.2.length) (hn : s.2.length ≤ n) : bfs P g n (n - k) k s = bfs P g n (n - (k + 1)) (k + 1) (scan (P (s.2.getD k 0)) g s n) := by
  obtain ⟨f, hf⟩ : ∃ f, n - k = f + 1 := ⟨n - k - 1, by omega⟩
  rw [hf, show n - (k + 1) = f by omega, bfs, if_pos hk]
theorem bfs_done {P : Nat → Nat → Bool} {g : Int} {n k f : Nat} {s : List Int × List Nat} (hk : ¬ k < s.2.length) : bfs P g n f k s = s := by
  cases f with
  | zero => rfl
  | succ f => rw [bfs, if_neg hk]
theorem grps_fits {P : Nat → Nat → Bool} {n : Nat} : ∀ i, i ≤ n → (grps P n i).1.length = n ∧ (grps P n i).2 ≤ i
  | 0, _ => ⟨by simp [grps], Nat.le_refl _⟩
  | i + 1, hi => by
    obtain ⟨h1, h2⟩ := grps_fits (P := P) (n := n) i (by omega)
    show (grp P n (grps P n i) i).1.length = n ∧ (grp P n (grps P n i) i).2 ≤ i + 1
    unfold grp
    split
    · next hc =>
      have hc' := of_decide_eq_true hc
      have := bfs_fits (P := P) (g := ((grps P n i).2 : Int)) (n := n) (Int.natCast_nonneg _) n 0 _ (start_fits (g := ((grps P n i).2 : Int)) h1 hi hc' (Int.natCast_nonneg _))
      exact ⟨this.1, by dsimp only; omega⟩
    · exact ⟨h1, by omega⟩
/-- Clocks 'a' and 'j' are near. -/
def nearQ (l : List Nat) (y a j : Nat) : Bool := leF .f32 (apartQ (l.getD (a * 2) 0) (l.getD (j * 2) 0)) y && leF .f32 (Op.negFloat .f32 (apartQ (l.getD (a * 2) 0) (l.getD (j * 2) 0))) y
theorem apart_lt (a b : Nat) : apartQ a b < 4294967296 := by
  have e : width2 .f32 = 4294967296 := by decide +kernel
  unfold apartQ dq
  split
  · exact e ▸ fbin_lt _ _ _ _
  · split
    · exact e ▸ fbin_lt _ _ _ _
    · exact e ▸ fbin_lt _ _ _ _
theorem near_abs (l : List Nat) (y a j : Nat) : leF .f32 (apartQ (l.getD (a * 2) 0) (l.getD (j * 2) 0) % 2147483648) y = nearQ l y a j := abs_le32 _ _ (apart_lt _ _)
def groupsOf (l : List Nat) (y n : Nat) : List Int × Nat := grps (nearQ l y) n n

theorem scan_set {P : Nat → Bool} {g : Int} {s : List Int × List Nat} {j : Nat} (h : (scan P g s j).1.getD j 0 < 0) (hp : P j = true) : scan P g s (j + 1) = ((scan P g s j).1.set j g, (scan P g s j).2 ++ [j]) := by
  show scan1 P g (scan P g s j) j = _
  unfold scan1
  rw [if_pos (by rw [hp, decide_eq_true h]; rfl)]
theorem scan_far {P : Nat → Bool} {g : Int} {s : List Int × List Nat} {j : Nat} (hp : P j = false) : scan P g s (j + 1) = scan P g s j := by
  show scan1 P g (scan P g s j) j = _
  unfold scan1
  rw [if_neg (by rw [hp, Bool.and_false]; decide)]
theorem scan_had {P : Nat → Bool} {g : Int} {s : List Int × List Nat} {j : Nat} (h : ¬ (scan P g s j).1.getD j 0 < 0) : scan P g s (j + 1) = scan P g s j := by
  show scan1 P g (scan P g s j) j = _
  unfold scan1
  rw [if_neg (by rw [decide_eq_false h]; simp)]
theorem il_set (l : List Int) (j : Nat) (x : Int) : (il l).set j (.int .i64 x) = il (l.set j x) := by unfold il; rw [List.map_set]
theorem il_replicate (m : Nat) (x : Int) : List.replicate m (Value.int .i64 x) = il (List.replicate m x) := by unfold il; rw [List.map_replicate]
theorem okClock_fin {n m : Nat} {l lk : List Nat} (h : clocksB n l m lk = true) {k : Nat} (hk : k < n) : finB .f32 (l.getD (k * 2) 0) = true := by
  have h1 := upto_at (clocks_parts h).2.2.1 hk
  unfold okClock clockB at h1
  simp only [Bool.and_eq_true] at h1
  exact keep_fin h1.1
theorem scan_pre {P : Nat → Bool} {g : Int} {s : List Int × List Nat} {k : Nat} (hk : k < s.2.length) : ∀ j, k < (scan P g s j).2.length ∧ (scan P g s j).2.getD k 0 = s.2.getD k 0
  | 0 => ⟨hk, rfl⟩
  | j + 1 => by
    obtain ⟨h1, h2⟩ := scan_pre hk j (P := P) (g := g)
    show k < (scan1 P g (scan P g s j) j).2.length ∧ (scan1 P g (scan P g s j) j).2.getD k 0 = _
    unfold scan1
    split
    · refine ⟨by simp only [List.length_append]; omega, ?_⟩
      rw [← h2]
      simp only [List.getD_eq_getElem?_getD]
      rw [List.getElem?_append_left h1]
    · exact ⟨h1, h2⟩
theorem apart_eq {a b r : Nat} (h : cn .f32 r = apartQ a b) (ha : finB .f32 a = true) (hb : finB .f32 b = true) : r = apartQ a b := exact_of h (apart_sm ha hb).not_nan
theorem il_rep_snoc (k : Nat) (x : Int) : il (List.replicate (k + 1) x) = il (List.replicate k x) ++ [.int .i64 x] := by
  rw [List.replicate_succ']
  exact il_append _ _
theorem ownsRow_len {w : World} {base : Nat} {e : TypeId} {c n : Nat} {v : Value} {xs : List Value} (h : w.ownsRow base e c v n xs) : ∃ ao d, v = .slice ao n d := by
  obtain ⟨_, h2⟩ := h
  rcases h2 with ⟨rfl, rfl⟩ | ⟨g, cap, cur, rfl, _⟩
  · exact ⟨_, _, rfl⟩
  · exact ⟨_, _, rfl⟩
theorem grps_had {P : Nat → Nat → Bool} {n i : Nat} (h : ¬ (grps P n i).1.getD i 0 < 0) : grps P n (i + 1) = grps P n i := by
  show grp P n (grps P n i) i = _
  unfold grp
  rw [if_neg (by rw [decide_eq_false h]; simp)]
theorem grps_new {P : Nat → Nat → Bool} {n i : Nat} {t : List Int × Nat} (h0 : grps P n i = t) (h : t.1.getD i 0 < 0) : grps P n (i + 1) = ((bfs P (t.2 : Int) n n 0 (t.1.set i (t.2 : Int), [i])).1, t.2 + 1) := by
  show grp P n (grps P n i) i = _
  unfold grp
  rw [h0, if_pos (decide_eq_true h)]
theorem own_new {w : World} {base g : Nat} {e : TypeId} {x : Value} (hg : g = w.heap.size) (hb : base ≤ g) : (w.alloc (.cells #[x] e)).ownsRow base e 1 (.slice (some ⟨g, 0, none⟩) 1 1) 1 [x] := by
  subst hg
  exact ⟨rfl, .inr ⟨w.heap.size, 1, #[x], rfl, hb, heap_alloc_new _ _, Nat.le_refl _, by decide, rfl, rfl⟩⟩
theorem cell_one_at {w : World} {g : Nat} (x : Value) (t : TypeId) (hg : g = w.heap.size) : ∀ j u, [x][j]? = some u → (w.alloc (.cells #[x] t)).cell? ((⟨g, 0, none⟩ : Addr).add j) = some u := by
  subst hg
  exact cell_one_new _ _ _
theorem idx_one (i : Nat) : idx [i] = [.int .i64 (i : Int)] := rfl
def cZ (b : Bool) (l : List Int) : List Int := if b then l else []
/-- Numbers given back, their many, and a word. -/
def GiveI (n : Nat) (os : List Int) (k : Int) (b : Bool) (w : World) (e : Ending) (w' : World) : Prop :=
  ∃ v0, e = .returned (.tuple #[v0, .int .i64 k, .bool b]) ∧ w'.ownsRow w.heap.size 2 1 v0 n (il os) ∧ Below w.heap.size w w'
end Go.Proofs.Ytifdcoambehekaa
