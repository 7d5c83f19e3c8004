/-
  The walks of sets of numbers: l00Put, l05Set.
-/
import Derived.Test.YtbmabpnolheghaaPb
set_option linter.unusedVariables false
set_option linter.unusedSimpArgs false
namespace Go.Proofs.Ytbmabpnolheghaa
open Go.RowKit

def putS (k : Int) (s : List Int × Bool) (x : Int) : List Int × Bool :=
  if s.2 then (s.1 ++ [x], true) else if x < k then (s.1 ++ [x], false) else if k < x then (s.1 ++ [k] ++ [x], true) else (s.1 ++ [x], true)
def putP (k : Int) (os : List Int) : List Int × Bool := os.foldl (putS k) ([], false)
theorem putS_done (k : Int) : ∀ (os o : List Int), os.foldl (putS k) (o, true) = (o ++ os, true)
  | [], o => by simp
  | x :: os, o => by
    rw [List.foldl_cons]
    show os.foldl (putS k) (o ++ [x], true) = _
    rw [putS_done k os]
    simp
theorem putS_lt {k x : Int} {o : List Int} (h : x < k) : putS k (o, false) x = (o ++ [x], false) := by unfold putS; simp [h]
theorem putS_gt {k x : Int} {o : List Int} (h : k < x) : putS k (o, false) x = (o ++ [k] ++ [x], true) := by
  unfold putS
  simp only [Bool.false_eq_true, if_false]
  rw [if_neg (show ¬ x < k by omega), if_pos h]
theorem putS_eq {k x : Int} {o : List Int} (h : x = k) : putS k (o, false) x = (o ++ [x], true) := by
  unfold putS
  simp only [Bool.false_eq_true, if_false]
  rw [if_neg (show ¬ x < k by omega), if_neg (show ¬ k < x by omega)]
theorem putS_t {k x : Int} {o : List Int} : putS k (o, true) x = (o ++ [x], true) := rfl
theorem putP_eq (k : Int) : ∀ (os o : List Int), (if (os.foldl (putS k) (o, false)).2 then (os.foldl (putS k) (o, false)).1 else (os.foldl (putS k) (o, false)).1 ++ [k]) = o ++ putI k os
  | [], o => rfl
  | x :: os, o => by
    rw [List.foldl_cons]
    unfold putI
    by_cases h1 : x < k
    · rw [putS_lt h1, putP_eq k os, if_pos h1]
      simp
    · by_cases h2 : k < x
      · rw [putS_gt h2, putS_done, if_neg h1, if_neg (show ¬ x = k by omega)]
        simp
      · rw [putS_eq (show x = k by omega), putS_done, if_neg h1, if_pos (show x = k by omega)]
        simp
theorem putP_end (k : Int) (os : List Int) : (if (putP k os).2 then (putP k os).1 else (putP k os).1 ++ [k]) = putI k os := by
  have h := putP_eq k os []
  rw [List.nil_append] at h
  exact h
theorem putP_snoc (k : Int) (os : List Int) {j : Nat} (h : j < os.length) : putP k (os.take (j + 1)) = putS k (putP k (os.take j)) (os.getD j 0) := by
  unfold putP
  rw [List.take_add_one, List.getElem?_eq_getElem h, List.foldl_append, List.getD_eq_getElem?_getD, List.getElem?_eq_getElem h]
  rfl
theorem putS_len (k : Int) (s : List Int × Bool) (x : Int) : (putS k s x).1.length + (if (putS k s x).2 then 0 else 1) ≤ s.1.length + (if s.2 then 0 else 1) + 1 := by
  unfold putS
  obtain ⟨o, d⟩ := s
  cases d
  · dsimp only
    by_cases h1 : x < k
    · simp [h1]
    · by_cases h2 : k < x
      · simp [h1, h2]
      · simp [h1, h2]
  · simp
theorem putP_len (k : Int) (os : List Int) : ∀ j, (putP k (os.take j)).1.length + (if (putP k (os.take j)).2 then 0 else 1) ≤ j + 1
  | 0 => by simp [putP]
  | j + 1 => by
    have ih := putP_len k os j
    rcases Nat.lt_or_ge j os.length with h | h
    · rw [putP_snoc k os h]
      have := putS_len k (putP k (os.take j)) (os.getD j 0)
      omega
    · rw [List.take_of_length_le (by omega)]
      rw [List.take_of_length_le (by omega)] at ih
      omega
theorem putI_len (k : Int) : ∀ os : List Int, (putI k os).length ≤ os.length + 1
  | [] => Nat.le_refl _
  | x :: os => by
    have := putI_len k os
    unfold putI
    split
    · simp only [List.length_cons]; omega
    · split <;> simp only [List.length_cons] <;> omega
theorem setF_snoc (os : List Int) {j : Nat} (h : j < os.length) : setF (os.take (j + 1)) = putI (os.getD j 0) (setF (os.take j)) := by
  unfold setF
  rw [List.take_add_one, List.getElem?_eq_getElem h, List.foldl_append, List.getD_eq_getElem?_getD, List.getElem?_eq_getElem h]
  rfl
theorem setF_len (os : List Int) : ∀ j, (setF (os.take j)).length ≤ j
  | 0 => by simp [setF]
  | j + 1 => by
    have ih := setF_len os j
    rcases Nat.lt_or_ge j os.length with h | h
    · rw [setF_snoc os h]
      have := putI_len (os.getD j 0) (setF (os.take j))
      omega
    · rw [List.take_of_length_le (by omega)]
      rw [List.take_of_length_le (by omega)] at ih
      omega
theorem il_snoc (l : List Int) (x : Int) : il (l ++ [x]) = il l ++ [.int .i64 x] := il_append _ _

set_option maxRecDepth 100000 in
set_option maxHeartbeats 8000000 in
theorem l00Put_any (u : Value) (n : Nat) (os : List Int) (k : Int) (w : World) (h : RowAt w u 1 n (il os)) (hn : n ≤ 100) : Calls Try.prog 157 #[u, .int .i64 k] w fun e w' => ∃ v', e = .returned v' ∧ w'.ownsRow w.heap.size 2 1 v' (putI k os).length (il (putI k os)) ∧ Below w.heap.size w w' := by
  have H := Lib.hid h
  obtain ⟨h1, h2, ao, cap, rfl, h3⟩ := h
  rw [il_length, Nat.mul_one] at h1
  have HL : Hid (os.length = n) := h1
  have H3 := Lib.hid h3
  have hlen := putP_len k os
  have HLEN := Lib.hid hlen
  obtain ⟨i0, hi0, hz0, hz1, hz2⟩ := info_parts info_Int64
  clear h3 h1 h2 hlen
  go_enter Try.func157, Try.ntmps157
  go_wp2_with fail
  go_loopw [7, 5, 6] (fun iv uv dv wr => ∃ (j : Nat) (s1 : List Int) (s2 : Bool), j ≤ n ∧ iv = .int .i64 (j : Int) ∧ dv = .bool s2 ∧ putP k (os.take j) = (s1, s2) ∧ wr.ownsRow w.heap.size 2 1 uv s1.length (il s1) ∧ Below w.heap.size w wr) (fun iv _ _ _ => n - (intOf iv).toNat)
  case atStart => exact ⟨0, [], false, Nat.zero_le _, rfl, rfl, rfl, own_empty _ _ _ _ rfl (Nat.le_refl _), by (repeat (first | assumption | (with_reducible exact Below.refl _ _) | (with_reducible refine Below.drewN ?_ _) | (with_reducible refine Below.drew ?_) | (with_reducible refine Below.allocS ?_ _) | ((with_reducible refine Below.setCell ?_ ?_ _); rotate_left; focus (first | omega | (simp; done) | (simp; omega))) | (with_reducible refine Below.step ?_ (by assumption))))⟩
  case round =>
    obtain ⟨j, s1, s2, hj, rfl, rfl, hs, ho, hBr⟩ := hrel
    have hle := HLEN.out j
    rw [hs] at hle
    have HS := Lib.hid hs
    obtain ⟨K, hK⟩ : ∃ K, K = s1.length := ⟨_, rfl⟩
    dsimp only at hle
    rw [← hK] at ho hle
    obtain ⟨ua, uc, rfl⟩ := ownsRow_len ho
    have OI := Lib.hid ho
    have HK := Lib.hid hK
    have hzr := hBr.size
    clear hs ho hK
    by_cases hlt : j < n
    · have d1 : decide ((j : Int) < (n : Int)) = true := decide_eq_true (by omega)
      obtain ⟨b, o, rfl, hbl, hcell⟩ := H3.out.resolve_left (by omega)
      obtain ⟨x, hx⟩ : ∃ x, Hid (os.getD j 0 = x) := ⟨_, rfl⟩
      have f0 := hcell j (.int .i64 x) (by rw [← hx.out]; exact il_get (by rw [HL.out]; exact hlt))
      have hc := Held.below hBr (l := [(⟨b, o + j, none⟩, .int .i64 x)]) ⟨⟨hbl, f0⟩, trivial⟩
      have HCC := Lib.hid hc
      simp only [Held, and_true] at hc
      have hsn := putP_snoc k os (j := j) (by rw [HL.out]; exact hlt)
      rw [HS.out, hx.out] at hsn
      have HCELL := Lib.hid hcell
      clear hcell f0
      cases s2
      · by_cases hx1 : x < k
        · have d2 : decide (k ≤ x) = false := decide_eq_false (by omega)
          rw [putS_lt hx1] at hsn
          have HSN := Lib.hid hsn
          clear hsn
          go_wp2_with (first | (at_builtin; refine wpList_append_own_at _ rfl _ _ 80 rfl w.heap.size 2 i0 (.int .i64 0) 1 8 Try.underlying80 hi0 hz0 hz1 hz2 rfl (by decide) _ K (il s1) rfl (by have h9 := OI.out; (repeat (first | (with_reducible refine World.ownsRow.alloc ?_ _) | (with_reducible refine ownsRow_drewN ?_ _) | ((with_reducible refine ownsRow_setCell_below ?_ ?_ _); rotate_left; focus (first | omega | (simp; done) | (simp; omega))))); exact h9) ⟨_, 0, none⟩ 1 1 [.int .i64 x] rfl rfl (cell_one_at _ _ (by simp)) (int_one _) (by simp only [maxLen]; omega) (by omega) (by first | omega | (simp; omega)) ?_))
          intro v8 w8 ho8 hg8 _ _
          have O8 : Hid (w8.ownsRow w.heap.size 2 1 v8 (K + 1) (il (s1 ++ [x]))) := by
            show World.ownsRow _ _ _ _ _ _ _
            rw [il_snoc]
            exact ho8
          have hB8 : Below w.heap.size w w8 := by
            refine grown_below (w := w) ?_ hg8 (base := w.heap.size) (e := 2) (c := 1) (n := K) (xs := il (s1)) (by have h9 := OI.out; (repeat (first | (with_reducible refine World.ownsRow.alloc ?_ _) | (with_reducible refine ownsRow_drewN ?_ _) | ((with_reducible refine ownsRow_setCell_below ?_ ?_ _); rotate_left; focus (first | omega | (simp; done) | (simp; omega))))); exact h9) (Nat.le_refl _) (by first | omega | (simp; omega))
            (repeat (first | assumption | (with_reducible exact Below.refl _ _) | (with_reducible refine Below.drewN ?_ _) | (with_reducible refine Below.drew ?_) | (with_reducible refine Below.allocS ?_ _) | ((with_reducible refine Below.setCell ?_ ?_ _); rotate_left; focus (first | omega | (simp; done) | (simp; omega))) | (with_reducible refine Below.step ?_ (by assumption))))
          have hz8 := hB8.size
          clear ho8 hg8
          go_wp2_with fail
          go_roundw
          case rel => exact ⟨j + 1, s1 ++ [x], false, hlt, by go_num, rfl, HSN.out, by have h9 := O8.out; rw [List.length_append, ← HK.out]; exact h9, hB8⟩
          case measure => simp [intOf]; omega
        · have d2 : decide (k ≤ x) = true := decide_eq_true (by omega)
          by_cases hx2 : k < x
          · have d3 : decide (k < x) = true := decide_eq_true hx2
            rw [putS_gt hx2] at hsn
            have HSN := Lib.hid hsn
            clear hsn
            go_wp2_with (first | (at_builtin; refine wpList_append_own_at _ rfl _ _ 80 rfl w.heap.size 2 i0 (.int .i64 0) 1 8 Try.underlying80 hi0 hz0 hz1 hz2 rfl (by decide) _ K (il s1) rfl (by have h9 := OI.out; (repeat (first | (with_reducible refine World.ownsRow.alloc ?_ _) | (with_reducible refine ownsRow_drewN ?_ _) | ((with_reducible refine ownsRow_setCell_below ?_ ?_ _); rotate_left; focus (first | omega | (simp; done) | (simp; omega))))); exact h9) ⟨_, 0, none⟩ 1 1 [.int .i64 k] rfl rfl (cell_one_at _ _ (by simp)) (int_one _) (by simp only [maxLen]; omega) (by omega) (by first | omega | (simp; omega)) ?_))
            intro v8 w8 ho8 hg8 _ _
            have O8 : Hid (w8.ownsRow w.heap.size 2 1 v8 (K + 1) (il (s1 ++ [k]))) := by
              show World.ownsRow _ _ _ _ _ _ _
              rw [il_snoc]
              exact ho8
            have hB8 : Below w.heap.size w w8 := by
              refine grown_below (w := w) ?_ hg8 (base := w.heap.size) (e := 2) (c := 1) (n := K) (xs := il (s1)) (by have h9 := OI.out; (repeat (first | (with_reducible refine World.ownsRow.alloc ?_ _) | (with_reducible refine ownsRow_drewN ?_ _) | ((with_reducible refine ownsRow_setCell_below ?_ ?_ _); rotate_left; focus (first | omega | (simp; done) | (simp; omega))))); exact h9) (Nat.le_refl _) (by first | omega | (simp; omega))
              (repeat (first | assumption | (with_reducible exact Below.refl _ _) | (with_reducible refine Below.drewN ?_ _) | (with_reducible refine Below.drew ?_) | (with_reducible refine Below.allocS ?_ _) | ((with_reducible refine Below.setCell ?_ ?_ _); rotate_left; focus (first | omega | (simp; done) | (simp; omega))) | (with_reducible refine Below.step ?_ (by assumption))))
            have hz8 := hB8.size
            clear ho8 hg8
            have hc8 := Held.below (l := [(⟨b, o + j, none⟩, .int .i64 x)]) hB8 ⟨⟨hbl, (HCELL.out j (.int .i64 x) (by rw [← hx.out]; exact il_get (by rw [HL.out]; exact hlt)))⟩, trivial⟩
            simp only [Held, and_true] at hc8
            obtain ⟨va, vc, rfl⟩ := ownsRow_len O8.out
            go_wp2_with (first | (at_builtin; refine wpList_append_own_at _ rfl _ _ 80 rfl w.heap.size 2 i0 (.int .i64 0) 1 8 Try.underlying80 hi0 hz0 hz1 hz2 rfl (by decide) _ (K + 1) (il (s1 ++ [k])) rfl (by have h9 := O8.out; (repeat (first | (with_reducible refine World.ownsRow.alloc ?_ _) | (with_reducible refine ownsRow_drewN ?_ _) | ((with_reducible refine ownsRow_setCell_below ?_ ?_ _); rotate_left; focus (first | omega | (simp; done) | (simp; omega))))); exact h9) ⟨_, 0, none⟩ 1 1 [.int .i64 x] rfl rfl (cell_one_at _ _ (by simp)) (int_one _) (by simp only [maxLen]; omega) (by omega) (by first | omega | (simp; omega)) ?_))
            intro v7 w7 ho7 hg7 _ _
            have O7 : Hid (w7.ownsRow w.heap.size 2 1 v7 ((K + 1) + 1) (il (s1 ++ [k] ++ [x]))) := by
              show World.ownsRow _ _ _ _ _ _ _
              rw [il_snoc]
              exact ho7
            have hB7 : Below w.heap.size w w7 := by
              refine grown_below (w := w) ?_ hg7 (base := w.heap.size) (e := 2) (c := 1) (n := (K + 1)) (xs := il (s1 ++ [k])) (by have h9 := O8.out; (repeat (first | (with_reducible refine World.ownsRow.alloc ?_ _) | (with_reducible refine ownsRow_drewN ?_ _) | ((with_reducible refine ownsRow_setCell_below ?_ ?_ _); rotate_left; focus (first | omega | (simp; done) | (simp; omega))))); exact h9) (Nat.le_refl _) (by first | omega | (simp; omega))
              (repeat (first | assumption | (with_reducible exact Below.refl _ _) | (with_reducible refine Below.drewN ?_ _) | (with_reducible refine Below.drew ?_) | (with_reducible refine Below.allocS ?_ _) | ((with_reducible refine Below.setCell ?_ ?_ _); rotate_left; focus (first | omega | (simp; done) | (simp; omega))) | (with_reducible refine Below.step ?_ (by assumption))))
            have hz7 := hB7.size
            clear ho7 hg7
            go_wp2_with fail
            go_roundw
            case rel => exact ⟨j + 1, s1 ++ [k] ++ [x], true, hlt, by go_num, rfl, HSN.out, by have h9 := O7.out; rw [List.length_append, List.length_append, ← HK.out]; exact h9, hB7⟩
            case measure => simp [intOf]; omega
          · have d3 : decide (k < x) = false := decide_eq_false hx2
            rw [putS_eq (show x = k by omega)] at hsn
            have HSN := Lib.hid hsn
            clear hsn
            go_wp2_with (first | (at_builtin; refine wpList_append_own_at _ rfl _ _ 80 rfl w.heap.size 2 i0 (.int .i64 0) 1 8 Try.underlying80 hi0 hz0 hz1 hz2 rfl (by decide) _ K (il s1) rfl (by have h9 := OI.out; (repeat (first | (with_reducible refine World.ownsRow.alloc ?_ _) | (with_reducible refine ownsRow_drewN ?_ _) | ((with_reducible refine ownsRow_setCell_below ?_ ?_ _); rotate_left; focus (first | omega | (simp; done) | (simp; omega))))); exact h9) ⟨_, 0, none⟩ 1 1 [.int .i64 x] rfl rfl (cell_one_at _ _ (by simp)) (int_one _) (by simp only [maxLen]; omega) (by omega) (by first | omega | (simp; omega)) ?_))
            intro v8 w8 ho8 hg8 _ _
            have O8 : Hid (w8.ownsRow w.heap.size 2 1 v8 (K + 1) (il (s1 ++ [x]))) := by
              show World.ownsRow _ _ _ _ _ _ _
              rw [il_snoc]
              exact ho8
            have hB8 : Below w.heap.size w w8 := by
              refine grown_below (w := w) ?_ hg8 (base := w.heap.size) (e := 2) (c := 1) (n := K) (xs := il (s1)) (by have h9 := OI.out; (repeat (first | (with_reducible refine World.ownsRow.alloc ?_ _) | (with_reducible refine ownsRow_drewN ?_ _) | ((with_reducible refine ownsRow_setCell_below ?_ ?_ _); rotate_left; focus (first | omega | (simp; done) | (simp; omega))))); exact h9) (Nat.le_refl _) (by first | omega | (simp; omega))
              (repeat (first | assumption | (with_reducible exact Below.refl _ _) | (with_reducible refine Below.drewN ?_ _) | (with_reducible refine Below.drew ?_) | (with_reducible refine Below.allocS ?_ _) | ((with_reducible refine Below.setCell ?_ ?_ _); rotate_left; focus (first | omega | (simp; done) | (simp; omega))) | (with_reducible refine Below.step ?_ (by assumption))))
            have hz8 := hB8.size
            clear ho8 hg8
            go_wp2_with fail
            go_roundw
            case rel => exact ⟨j + 1, s1 ++ [x], true, hlt, by go_num, rfl, HSN.out, by have h9 := O8.out; rw [List.length_append, ← HK.out]; exact h9, hB8⟩
            case measure => simp [intOf]; omega
      · rw [putS_t] at hsn
        have HSN := Lib.hid hsn
        clear hsn
        go_wp2_with (first | (at_builtin; refine wpList_append_own_at _ rfl _ _ 80 rfl w.heap.size 2 i0 (.int .i64 0) 1 8 Try.underlying80 hi0 hz0 hz1 hz2 rfl (by decide) _ K (il s1) rfl (by have h9 := OI.out; (repeat (first | (with_reducible refine World.ownsRow.alloc ?_ _) | (with_reducible refine ownsRow_drewN ?_ _) | ((with_reducible refine ownsRow_setCell_below ?_ ?_ _); rotate_left; focus (first | omega | (simp; done) | (simp; omega))))); exact h9) ⟨_, 0, none⟩ 1 1 [.int .i64 x] rfl rfl (cell_one_at _ _ (by simp)) (int_one _) (by simp only [maxLen]; omega) (by omega) (by first | omega | (simp; omega)) ?_))
        intro v8 w8 ho8 hg8 _ _
        have O8 : Hid (w8.ownsRow w.heap.size 2 1 v8 (K + 1) (il (s1 ++ [x]))) := by
          show World.ownsRow _ _ _ _ _ _ _
          rw [il_snoc]
          exact ho8
        have hB8 : Below w.heap.size w w8 := by
          refine grown_below (w := w) ?_ hg8 (base := w.heap.size) (e := 2) (c := 1) (n := K) (xs := il (s1)) (by have h9 := OI.out; (repeat (first | (with_reducible refine World.ownsRow.alloc ?_ _) | (with_reducible refine ownsRow_drewN ?_ _) | ((with_reducible refine ownsRow_setCell_below ?_ ?_ _); rotate_left; focus (first | omega | (simp; done) | (simp; omega))))); exact h9) (Nat.le_refl _) (by first | omega | (simp; omega))
          (repeat (first | assumption | (with_reducible exact Below.refl _ _) | (with_reducible refine Below.drewN ?_ _) | (with_reducible refine Below.drew ?_) | (with_reducible refine Below.allocS ?_ _) | ((with_reducible refine Below.setCell ?_ ?_ _); rotate_left; focus (first | omega | (simp; done) | (simp; omega))) | (with_reducible refine Below.step ?_ (by assumption))))
        have hz8 := hB8.size
        clear ho8 hg8
        go_wp2_with fail
        go_roundw
        case rel => exact ⟨j + 1, s1 ++ [x], true, hlt, by go_num, rfl, HSN.out, by have h9 := O8.out; rw [List.length_append, ← HK.out]; exact h9, hB8⟩
        case measure => simp [intOf]; omega
    · obtain rfl : n = j := by omega
      have d1 : decide ((n : Int) < (n : Int)) = false := decide_eq_false (by omega)
      have he := putP_end k os
      have hs9 := HS.out
      rw [← HL.out, List.take_length] at hs9
      rw [hs9] at he
      dsimp only at he
      cases s2
      · have HE : Hid (s1 ++ [k] = putI k os) := he
        clear he hs9
        go_wp2_with (first | (at_builtin; refine wpList_append_own_at _ rfl _ _ 80 rfl w.heap.size 2 i0 (.int .i64 0) 1 8 Try.underlying80 hi0 hz0 hz1 hz2 rfl (by decide) _ K (il s1) rfl (by have h9 := OI.out; (repeat (first | (with_reducible refine World.ownsRow.alloc ?_ _) | (with_reducible refine ownsRow_drewN ?_ _) | ((with_reducible refine ownsRow_setCell_below ?_ ?_ _); rotate_left; focus (first | omega | (simp; done) | (simp; omega))))); exact h9) ⟨_, 0, none⟩ 1 1 [.int .i64 k] rfl rfl (cell_one_at _ _ (by simp)) (int_one _) (by simp only [maxLen]; omega) (by omega) (by first | omega | (simp; omega)) ?_))
        intro v8 w8 ho8 hg8 _ _
        have O8 : Hid (w8.ownsRow w.heap.size 2 1 v8 (K + 1) (il (s1 ++ [k]))) := by
          show World.ownsRow _ _ _ _ _ _ _
          rw [il_snoc]
          exact ho8
        have hB8 : Below w.heap.size w w8 := by
          refine grown_below (w := w) ?_ hg8 (base := w.heap.size) (e := 2) (c := 1) (n := K) (xs := il (s1)) (by have h9 := OI.out; (repeat (first | (with_reducible refine World.ownsRow.alloc ?_ _) | (with_reducible refine ownsRow_drewN ?_ _) | ((with_reducible refine ownsRow_setCell_below ?_ ?_ _); rotate_left; focus (first | omega | (simp; done) | (simp; omega))))); exact h9) (Nat.le_refl _) (by first | omega | (simp; omega))
          (repeat (first | assumption | (with_reducible exact Below.refl _ _) | (with_reducible refine Below.drewN ?_ _) | (with_reducible refine Below.drew ?_) | (with_reducible refine Below.allocS ?_ _) | ((with_reducible refine Below.setCell ?_ ?_ _); rotate_left; focus (first | omega | (simp; done) | (simp; omega))) | (with_reducible refine Below.step ?_ (by assumption))))
        have hz8 := hB8.size
        clear ho8 hg8
        go_wp2_with fail
        refine bodyPost_ret (v := ?_) (by first | (simp [results, Try.results157, go_sem, *]; rfl) | (simp [results, Try.results157, go_sem, *]; done)) rfl ?_
        refine ⟨_, rfl, ?_, hB8⟩
        rw [← HE.out, List.length_append, ← HK.out]
        exact O8.out
      · have HE : Hid (s1 = putI k os) := he
        clear he hs9
        go_wp2_with fail
        refine bodyPost_ret (v := ?_) (by first | (simp [results, Try.results157, go_sem, *]; rfl) | (simp [results, Try.results157, go_sem, *]; done)) rfl ?_
        refine ⟨_, rfl, ?_, hBr⟩
        rw [← HE.out, ← HK.out]
        exact OI.out

set_option maxRecDepth 100000 in
set_option maxHeartbeats 8000000 in
theorem l05Set_any (u : Value) (n : Nat) (os : List Int) (w : World) (h : RowAt w u 1 n (il os)) (hn : n ≤ 50) : Calls Try.prog 112 #[u] w fun e w' => ∃ v', e = .returned v' ∧ w'.ownsRow w.heap.size 2 1 v' (setF os).length (il (setF os)) ∧ Below w.heap.size w w' := by
  obtain ⟨h1, h2, ao, cap, rfl, h3⟩ := h
  rw [il_length, Nat.mul_one] at h1
  have HL : Hid (os.length = n) := h1
  have H3 := Lib.hid h3
  have HLEN := Lib.hid (setF_len os)
  clear h3 h1 h2
  go_enter Try.func112, Try.ntmps112
  go_wp2_with fail
  go_loopw [8, 3] (fun iv uv wr => ∃ (j : Nat), j ≤ n ∧ iv = .int .i64 (j : Int) ∧ wr.ownsRow w.heap.size 2 1 uv (setF (os.take j)).length (il (setF (os.take j))) ∧ Below w.heap.size w wr) (fun iv _ _ => n - (intOf iv).toNat)
  case atStart => exact ⟨0, Nat.zero_le _, rfl, own_empty _ _ _ _ rfl (Nat.le_refl _), by (repeat (first | assumption | (with_reducible exact Below.refl _ _) | (with_reducible refine Below.drewN ?_ _) | (with_reducible refine Below.drew ?_) | (with_reducible refine Below.allocS ?_ _) | ((with_reducible refine Below.setCell ?_ ?_ _); rotate_left; focus (first | omega | (simp; done) | (simp; omega))) | (with_reducible refine Below.step ?_ (by assumption))))⟩
  case round =>
    obtain ⟨j, hj, rfl, ho, hBr⟩ := hrel
    have hle := HLEN.out j
    have OI := Lib.hid ho
    have hzr := hBr.size
    obtain ⟨ua, uc, rfl⟩ := ownsRow_len ho
    clear ho
    by_cases hlt : j < n
    · have d1 : decide ((j : Int) < (n : Int)) = true := decide_eq_true (by omega)
      obtain ⟨b, o, rfl, hbl, hcell⟩ := H3.out.resolve_left (by omega)
      obtain ⟨x, hx⟩ : ∃ x, Hid (os.getD j 0 = x) := ⟨_, rfl⟩
      have f0 := hcell j (.int .i64 x) (by rw [← hx.out]; exact il_get (by rw [HL.out]; exact hlt))
      have hc := Held.below hBr (l := [(⟨b, o + j, none⟩, .int .i64 x)]) ⟨⟨hbl, f0⟩, trivial⟩
      simp only [Held, and_true] at hc
      have hsn := setF_snoc os (j := j) (by rw [HL.out]; exact hlt)
      rw [hx.out] at hsn
      have HSN := Lib.hid hsn
      clear hcell f0 hsn
      go_wp2_with (first | (go_at_call 157; refine (l00Put_any _ _ _ x _ (ownsRow_rowAt OI.out) (by omega)).mono ?_; rintro e w8 ⟨v8, rfl, ho8, hb8⟩))
      have O8 : Hid (w8.ownsRow w.heap.size 2 1 v8 (putI x (setF (os.take j))).length (il (putI x (setF (os.take j))))) := ownsRow_base hzr ho8
      have hB8 : Below w.heap.size w w8 := hBr.trans (hb8.mono hzr)
      clear ho8
      go_roundw
      case rel => exact ⟨j + 1, hlt, by go_num, by rw [HSN.out]; exact O8.out, hB8⟩
      case measure => simp [intOf]; omega
    · obtain rfl : n = j := by omega
      have d1 : decide ((n : Int) < (n : Int)) = false := decide_eq_false (by omega)
      have h9 := OI.out
      have he : os.take n = os := by rw [← HL.out]; exact List.take_length
      rw [he] at h9 ⊢
      have H9 := Lib.hid h9
      clear h9 he OI hle
      go_wp2_with fail
      refine bodyPost_ret (v := ?_) (by first | (simp [results, Try.results112, go_sem, *]; rfl) | (simp [results, Try.results112, go_sem, *]; done)) rfl ?_
      exact ⟨_, rfl, H9.out, hBr⟩

end Go.Proofs.Ytbmabpnolheghaa
