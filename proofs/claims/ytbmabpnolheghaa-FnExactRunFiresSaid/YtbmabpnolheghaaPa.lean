/-
  Clocks that fire: the fire as a plain function of the clocks' numbers.
-/
import Derived.Test.YtbmabpnolheghaaTi
set_option linter.unusedVariables false
set_option linter.unusedSimpArgs false
namespace Go.Proofs.Ytbmabpnolheghaa
open Go.RowKit

theorem plen_le : ∀ {l r : List Nat}, l.Nodup → (∀ x ∈ l, x ∈ r) → l.length ≤ r.length
  | [], _, _, _ => Nat.zero_le _
  | a :: t, r, hn, hs => by
    have ha : a ∈ r := hs a List.mem_cons_self
    rw [List.nodup_cons] at hn
    have h1 := plen_le (r := r.erase a) hn.2 (fun x hx => (List.mem_erase_of_ne (by rintro rfl; exact hn.1 hx)).2 (hs x (List.mem_cons_of_mem _ hx)))
    rw [List.length_erase_of_mem ha] at h1
    have := List.length_pos_of_mem ha
    rw [List.length_cons]
    omega
/-- A number that is no NaN and a finite one: their sum is known. -/
theorem add_some {x y : Nat} (hx : isN .f32 x = false) (hy : finB .f32 y = true) : floatBits .add .f32 x y = some (fbin .add .f32 x y) := by
  have h : (floatBits .add .f32 x y).isSome = true := by
    unfold isN at hx
    unfold finB finD at hy
    show (FloatKind.f32.format.add x y).isSome = true
    show (((FloatKind.f32.decode x).sum (FloatKind.f32.decode y)).map FloatKind.f32.format.write).isSome = true
    cases hd : FloatKind.f32.decode x <;> rw [hd] at hx <;> cases he : FloatKind.f32.decode y <;> rw [he] at hy <;> simp_all [Ieee.Datum.sum, Ieee.Datum.isNaN]
  unfold fbin
  obtain ⟨r, hr⟩ := Option.isSome_iff_exists.1 h
  rw [hr]
  rfl
theorem add_some' {x y : Nat} (hx : finB .f32 x = true) (hy : isN .f32 y = false) : floatBits .add .f32 x y = some (fbin .add .f32 x y) := by
  have h : (floatBits .add .f32 x y).isSome = true := by
    unfold isN at hy
    unfold finB finD at hx
    show (((FloatKind.f32.decode x).sum (FloatKind.f32.decode y)).map FloatKind.f32.format.write).isSome = true
    cases hd : FloatKind.f32.decode x <;> rw [hd] at hx <;> cases he : FloatKind.f32.decode y <;> rw [he] at hy <;> simp_all [Ieee.Datum.sum, Ieee.Datum.isNaN]
  unfold fbin
  obtain ⟨r, hr⟩ := Option.isSome_iff_exists.1 h
  rw [hr]
  rfl
theorem sub_some {x y : Nat} (hx : finB .f32 x = true) (hy : finB .f32 y = true) : floatBits .sub .f32 x y = some (fbin .sub .f32 x y) := by
  have h : (floatBits .sub .f32 x y).isSome = true := by
    unfold finB finD at hx hy
    show (((FloatKind.f32.decode x).sum (FloatKind.f32.decode y).opposite).map FloatKind.f32.format.write).isSome = true
    cases hd : FloatKind.f32.decode x <;> rw [hd] at hx <;> cases he : FloatKind.f32.decode y <;> rw [he] at hy <;> simp_all [Ieee.Datum.sum, Ieee.Datum.opposite]
  unfold fbin
  obtain ⟨r, hr⟩ := Option.isSome_iff_exists.1 h
  rw [hr]
  rfl
theorem some_not_nan {op : BinOp} {x y : Nat} (h : floatBits op .f32 x y = some (fbin op .f32 x y)) : isN .f32 (fbin op .f32 x y) = false := floatBits_not_nan h

def turnAt (l : List Nat) (i : Nat) : Nat := l.getD (i * 2) 0
def mostQ (l : List Nat) : Nat → Nat
  | 0 => 0
  | i + 1 => if gtF .f32 (turnAt l i) (mostQ l i) then turnAt l i else mostQ l i
def timeQ (l : List Nat) (n : Nat) : Nat := fbin .sub .f32 1065353216 (mostQ l n)
def addAt (l : List Nat) (i t : Nat) : List Nat := l.set (i * 2) (fbin .add .f32 (turnAt l i) t)
/-- All turns go on by the time; who is foremost fires. -/
def startF (l : List Nat) (M T : Nat) : Nat → List Nat × List Nat
  | 0 => (l, [])
  | i + 1 => (addAt (startF l M T i).1 i T, if eqF .f32 (turnAt (startF l M T i).1 i) M then (startF l M T i).2 ++ [i] else (startF l M T i).2)
/-- Who has not fired is pushed; who comes round by that fires. -/
def pushF (J : Nat) (s : List Nat × List Nat) : Nat → List Nat × List Nat
  | 0 => s
  | i + 1 => if decide (i ∈ (pushF J s i).2) then pushF J s i else (addAt (pushF J s i).1 i J, if geF .f32 (turnAt (addAt (pushF J s i).1 i J) i) 1065353216 then (pushF J s i).2 ++ [i] else (pushF J s i).2)
def roundsF (J n : Nat) : Nat → Nat → List Nat × List Nat → List Nat × List Nat
  | 0, _, s => s
  | f + 1, k, s => if k < s.2.length then roundsF J n f (k + 1) (pushF J s n) else s
def zeroF (l ks : List Nat) : Nat → List Nat
  | 0 => l
  | j + 1 => (zeroF l ks j).set (ks.getD j 0 * 2) 0
def firedF (l : List Nat) (n J : Nat) : List Nat × List Nat := roundsF J n n 0 (startF l (mostQ l n) (timeQ l n) n)
def fireL (l : List Nat) (n J : Nat) : List Nat := zeroF (firedF l n J).1 (firedF l n J).2 (firedF l n J).2.length

theorem addAt_len (l : List Nat) (i t : Nat) : (addAt l i t).length = l.length := List.length_set
theorem turn_addAt (l : List Nat) (i t j : Nat) (hi : i * 2 < l.length) : turnAt (addAt l i t) j = if i = j then fbin .add .f32 (turnAt l i) t else turnAt l j := by
  unfold turnAt addAt
  rw [getD_set]
  by_cases h : i = j
  · subst h
    rw [if_pos ⟨rfl, hi⟩, if_pos rfl]
    rfl
  · rw [if_neg (by omega), if_neg h]
theorem most_fin {l : List Nat} {n : Nat} (h : ∀ i, i < n → finB .f32 (turnAt l i) = true) : ∀ i, i ≤ n → finB .f32 (mostQ l i) = true
  | 0, _ => by show finB .f32 0 = true; decide +kernel
  | i + 1, hi => by
    unfold mostQ
    split
    · exact h i (by omega)
    · exact most_fin h i (by omega)
/-- Numbers that hold of a fire on its way. -/
def FitF (n : Nat) (s : List Nat × List Nat) : Prop := s.1.length = n * 2 ∧ (∀ i, i < n → isN .f32 (turnAt s.1 i) = false) ∧ s.2.Nodup ∧ ∀ k ∈ s.2, k < n
theorem FitF.len {n : Nat} {s : List Nat × List Nat} (h : FitF n s) : s.2.length ≤ n := by
  have := plen_le (r := List.range n) h.2.2.1 (fun x hx => List.mem_range.2 (h.2.2.2 x hx))
  rwa [List.length_range] at this
theorem FitF.snoc {n i : Nat} {l : List Nat} {ks : List Nat} {l' : List Nat} (h : FitF n (l, ks)) (hl : l'.length = n * 2) (ht : ∀ j, j < n → isN .f32 (turnAt l' j) = false) (hi : i < n) (hn : i ∉ ks) : FitF n (l', ks ++ [i]) := by
  refine ⟨hl, ht, ?_, ?_⟩
  · show (ks ++ [i]).Nodup
    rw [List.nodup_append]
    refine ⟨h.2.2.1, List.nodup_cons.2 ⟨by simp, List.nodup_nil⟩, ?_⟩
    intro a ha b hb e
    rw [List.mem_singleton.1 hb] at e
    exact hn (e ▸ ha)
  · intro k hk
    rcases List.mem_append.1 hk with h1 | h1
    · exact h.2.2.2 k h1
    · rw [List.mem_singleton.1 h1]; exact hi
theorem start_parts {l : List Nat} {n M T : Nat} (hl : l.length = n * 2) (hf : ∀ i, i < n → finB .f32 (turnAt l i) = true) (hT : isN .f32 T = false) : ∀ i, i ≤ n → FitF n (startF l M T i) ∧ (∀ j, i ≤ j → turnAt (startF l M T i).1 j = turnAt l j) ∧ ∀ k ∈ (startF l M T i).2, k < i
  | 0, _ => ⟨⟨hl, fun i hi => isN_of_fin (hf i hi), List.nodup_nil, fun k hk => absurd hk (by simp [startF])⟩, fun _ _ => rfl, fun k hk => absurd hk (by simp [startF])⟩
  | i + 1, hi => by
    obtain ⟨h1, h2, h3⟩ := start_parts hl hf hT i (by omega) (M := M)
    have hlen : i * 2 < (startF l M T i).1.length := by rw [h1.1]; omega
    have ht : ∀ j, j < n → isN .f32 (turnAt (addAt (startF l M T i).1 i T) j) = false := by
      intro j hj
      rw [turn_addAt _ _ _ _ hlen]
      split
      · rw [h2 i (Nat.le_refl _)]
        exact some_not_nan (add_some' (hf i (by omega)) hT)
      · exact h1.2.1 j hj
    have hl2 : (addAt (startF l M T i).1 i T).length = n * 2 := by rw [addAt_len]; exact h1.1
    refine ⟨?_, ?_, ?_⟩
    · show FitF n (addAt (startF l M T i).1 i T, if eqF .f32 (turnAt (startF l M T i).1 i) M then (startF l M T i).2 ++ [i] else (startF l M T i).2)
      split
      · exact FitF.snoc (l := (startF l M T i).1) h1 hl2 ht (by omega) (fun hm => Nat.lt_irrefl _ (h3 i hm))
      · exact ⟨hl2, ht, h1.2.2⟩
    · intro j hj
      show turnAt (addAt (startF l M T i).1 i T) j = _
      rw [turn_addAt _ _ _ _ hlen, if_neg (by omega)]
      exact h2 j (by omega)
    · intro k hk
      have hk' : k ∈ (if eqF .f32 (turnAt (startF l M T i).1 i) M then (startF l M T i).2 ++ [i] else (startF l M T i).2) := hk
      split at hk'
      · rcases List.mem_append.1 hk' with h4 | h4
        · have := h3 k h4; omega
        · rw [List.mem_singleton.1 h4]; omega
      · have := h3 k hk'; omega
theorem push_parts {n J : Nat} {s : List Nat × List Nat} (hs : FitF n s) (hJ : finB .f32 J = true) : ∀ i, i ≤ n → FitF n (pushF J s i) ∧ ∃ m : List Nat, (pushF J s i).2 = s.2 ++ m ∧ ∀ k ∈ m, k < i
  | 0, _ => ⟨hs, [], (List.append_nil _).symm, fun k hk => absurd hk (by simp)⟩
  | i + 1, hi => by
    obtain ⟨h1, m, h2, h3⟩ := push_parts hs hJ i (by omega)
    have hlen : i * 2 < (pushF J s i).1.length := by rw [h1.1]; omega
    have ht : ∀ j, j < n → isN .f32 (turnAt (addAt (pushF J s i).1 i J) j) = false := by
      intro j hj
      rw [turn_addAt _ _ _ _ hlen]
      split
      · exact some_not_nan (add_some (h1.2.1 i (by omega)) hJ)
      · exact h1.2.1 j hj
    have hl2 : (addAt (pushF J s i).1 i J).length = n * 2 := by rw [addAt_len]; exact h1.1
    unfold pushF
    split
    · exact ⟨h1, m, h2, fun k hk => Nat.lt_succ_of_lt (h3 k hk)⟩
    · next hd =>
      have hni : i ∉ (pushF J s i).2 := by simpa using hd
      split
      · refine ⟨FitF.snoc (l := (pushF J s i).1) h1 hl2 ht (by omega) hni, m ++ [i], ?_, ?_⟩
        · show (pushF J s i).2 ++ [i] = _
          rw [h2, List.append_assoc]
        · intro k hk
          rcases List.mem_append.1 hk with h4 | h4
          · have := h3 k h4; omega
          · rw [List.mem_singleton.1 h4]; omega
      · exact ⟨⟨hl2, ht, h1.2.2⟩, m, h2, fun k hk => Nat.lt_succ_of_lt (h3 k hk)⟩
/-- Whether 'i' has fired: the list at the pass's start says it, too. -/
theorem push_has {n J i : Nat} {s : List Nat × List Nat} (hs : FitF n s) (hJ : finB .f32 J = true) (hi : i < n) : decide (i ∈ (pushF J s i).2) = decide (i ∈ s.2) := by
  obtain ⟨_, m, h2, h3⟩ := push_parts hs hJ i (Nat.le_of_lt hi)
  rw [h2]
  apply decide_eq_decide.2
  rw [List.mem_append]
  exact ⟨fun h => h.elim id (fun h4 => absurd (h3 i h4) (Nat.lt_irrefl _)), .inl⟩
theorem rounds_step {J n k : Nat} {s : List Nat × List Nat} (hk : k < s.2.length) (hn : s.2.length ≤ n) : roundsF J n (n - k) k s = roundsF J n (n - (k + 1)) (k + 1) (pushF J s n) := by
  obtain ⟨f, hf⟩ : ∃ f, n - k = f + 1 := ⟨n - k - 1, by omega⟩
  rw [hf, show n - (k + 1) = f by omega, roundsF, if_pos hk]
theorem rounds_done {J n k f : Nat} {s : List Nat × List Nat} (hk : ¬ k < s.2.length) : roundsF J n f k s = s := by
  cases f with
  | zero => rfl
  | succ f => rw [roundsF, if_neg hk]
theorem rounds_fits {J n : Nat} (hJ : finB .f32 J = true) : ∀ f k (s : List Nat × List Nat), FitF n s → FitF n (roundsF J n f k s)
  | 0, _, s, h => h
  | f + 1, k, s, h => by
    unfold roundsF
    split
    · exact rounds_fits hJ f (k + 1) _ (push_parts h hJ n (Nat.le_refl _)).1
    · exact h
theorem time_some {l : List Nat} {n : Nat} (h : ∀ i, i < n → finB .f32 (turnAt l i) = true) : floatBits .sub .f32 1065353216 (mostQ l n) = some (timeQ l n) := sub_some (by decide +kernel) (most_fin h n (Nat.le_refl _))
theorem fired_fits {l : List Nat} {n J : Nat} (hl : l.length = n * 2) (hf : ∀ i, i < n → finB .f32 (turnAt l i) = true) (hJ : finB .f32 J = true) : FitF n (firedF l n J) :=
  rounds_fits hJ _ _ _ (start_parts hl hf (some_not_nan (time_some hf)) n (Nat.le_refl _)).1
theorem zero_len (l ks : List Nat) : ∀ j, (zeroF l ks j).length = l.length
  | 0 => rfl
  | j + 1 => by unfold zeroF; rw [List.length_set]; exact zero_len l ks j
/-- A number is put into a set that rises. -/
def putI (n : Int) : List Int → List Int
  | [] => [n]
  | x :: l => if x < n then x :: putI n l else if x = n then x :: l else n :: x :: l
def setF (ks : List Int) : List Int := ks.foldl (fun l n => putI n l) []
end Go.Proofs.Ytbmabpnolheghaa
