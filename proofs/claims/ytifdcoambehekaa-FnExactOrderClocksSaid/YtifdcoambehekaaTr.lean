/-
  Clocks that are put into another order: the plain law, the reference's walk.
-/
import Derived.Test.YtifdcoambehekaaTq
set_option linter.unusedVariables false
set_option linter.unusedSimpArgs false
namespace Go.Proofs.Ytifdcoambehekaa
open Go.RowKit

theorem len_le : ∀ {l r : List Int}, l.Nodup → (∀ x ∈ l, x ∈ r) → l.length ≤ r.length
  | [], _, _, _ => Nat.zero_le _
  | a :: t, r, hn, hs => by
    have ha : a ∈ r := hs a List.mem_cons_self
    rw [List.nodup_cons] at hn
    have h1 := len_le (r := r.erase a) hn.2 (fun x hx => (List.mem_erase_of_ne (by rintro rfl; exact hn.1 hx)).2 (hs x (List.mem_cons_of_mem _ hx)))
    rw [List.length_erase_of_mem ha] at h1
    have := List.length_pos_of_mem ha
    rw [List.length_cons]
    omega
theorem nodup_of : ∀ {l : List Int}, (∀ a ∈ l, a ∉ l.erase a) → l.Nodup
  | [], _ => List.nodup_nil
  | a :: t, h => by
    rw [List.nodup_cons]
    have h1 := h a List.mem_cons_self
    rw [List.erase_cons_head] at h1
    refine ⟨h1, nodup_of fun b hb hb2 => ?_⟩
    have h2 := h b (List.mem_cons_of_mem _ hb)
    have hne : a ≠ b := by rintro rfl; exact h1 hb
    rw [List.erase_cons_tail (by simpa using hne)] at h2
    exact h2 (List.mem_cons_of_mem _ hb2)
def rng (n : Nat) : List Int := (List.range n).map Int.ofNat
theorem rng_len (n : Nat) : (rng n).length = n := by unfold rng; rw [List.length_map, List.length_range]
theorem rng_mem {n : Nat} {x : Int} : x ∈ rng n ↔ 0 ≤ x ∧ x < n := by
  unfold rng
  rw [List.mem_map]
  constructor
  · rintro ⟨k, hk, rfl⟩
    rw [List.mem_range] at hk
    exact ⟨Int.natCast_nonneg k, by show (k : Int) < n; omega⟩
  · rintro ⟨h1, h2⟩
    exact ⟨x.toNat, List.mem_range.2 (by omega), by show ((x.toNat : Nat) : Int) = x; omega⟩
theorem rng_nodup : ∀ n, (rng n).Nodup := by
  intro n
  unfold rng
  rw [List.nodup_iff_pairwise_ne, List.pairwise_map]
  refine List.Pairwise.imp ?_ (List.nodup_iff_pairwise_ne.1 (List.nodup_range (n := n)))
  intro a b h e
  exact h (Int.ofNat.inj e)
/-- An order is told: right length, no clock is missing. -/
def ordB (n : Nat) (os : List Int) : Bool := decide (os.length = n) && upto (fun k => decide ((k : Int) ∈ os)) n
/-- No index that is none, and none twice. -/
def goodB (n : Nat) (os : List Int) : Bool := os.all (fun x => inZ x 0 ((n : Int) - 1)) && decide os.Nodup
theorem ord_all {n : Nat} {os : List Int} (h : ordB n os = true) : os.length = n ∧ ∀ x ∈ rng n, x ∈ os := by
  unfold ordB at h
  simp only [Bool.and_eq_true, decide_eq_true_eq] at h
  refine ⟨h.1, fun x hx => ?_⟩
  rw [rng_mem] at hx
  have h1 := upto_at h.2 (show x.toNat < n by omega)
  have h2 := of_decide_eq_true h1
  rwa [show ((x.toNat : Nat) : Int) = x by omega] at h2
theorem ord_range {n : Nat} {os : List Int} (h : ordB n os = true) : ∀ x ∈ os, 0 ≤ x ∧ x < n := by
  obtain ⟨h1, h2⟩ := ord_all h
  intro x hx
  rw [← rng_mem]
  by_cases hm : x ∈ rng n
  · exact hm
  · exfalso
    have h3 := len_le (rng_nodup n) (r := os.erase x) (fun y hy => (List.mem_erase_of_ne (by rintro rfl; exact hm hy)).2 (h2 y hy))
    rw [List.length_erase_of_mem hx, rng_len] at h3
    have := List.length_pos_of_mem hx
    omega
theorem ord_nodup {n : Nat} {os : List Int} (h : ordB n os = true) : os.Nodup := by
  obtain ⟨h1, h2⟩ := ord_all h
  refine nodup_of fun a ha hb => ?_
  have h3 := len_le (rng_nodup n) (r := os.erase a) (fun y hy => by
    by_cases e : y = a
    · subst e; exact hb
    · exact (List.mem_erase_of_ne e).2 (h2 y hy))
  rw [List.length_erase_of_mem ha, rng_len] at h3
  have := List.length_pos_of_mem ha
  omega
theorem inZ_iff {x : Int} {n : Nat} : inZ x 0 ((n : Int) - 1) = true ↔ 0 ≤ x ∧ x < n := by
  unfold inZ
  simp
  omega
theorem good_range {n : Nat} {os : List Int} (h : goodB n os = true) : ∀ x ∈ os, 0 ≤ x ∧ x < n := by
  unfold goodB at h
  simp only [Bool.and_eq_true, List.all_eq_true] at h
  exact fun x hx => inZ_iff.1 (h.1 x hx)
theorem good_nodup {n : Nat} {os : List Int} (h : goodB n os = true) : os.Nodup := by
  unfold goodB at h
  simp only [Bool.and_eq_true] at h
  exact of_decide_eq_true h.2
theorem good_len {n : Nat} {os : List Int} (h : goodB n os = true) : os.length ≤ n := by
  have h1 := len_le (good_nodup h) (r := rng n) (fun x hx => rng_mem.2 (good_range h x hx))
  rwa [rng_len] at h1
theorem ord_good (n : Nat) (os : List Int) : ordB n os = (goodB n os && decide (os.length = n)) := by
  cases h : ordB n os
  · cases hg : goodB n os
    · rfl
    · by_cases hl : os.length = n
      · exfalso
        have h9 : ordB n os = true := by
          unfold ordB
          rw [decide_eq_true hl, Bool.true_and]
          refine upto_true fun k hk => decide_eq_true ?_
          by_cases hm : ((k : Int)) ∈ os
          · exact hm
          · exfalso
            have hkr : (k : Int) ∈ rng n := rng_mem.2 ⟨by omega, by omega⟩
            have h1 := len_le (good_nodup hg) (r := (rng n).erase (k : Int)) (fun x hx => (List.mem_erase_of_ne (by rintro rfl; exact hm hx)).2 (rng_mem.2 (good_range hg x hx)))
            rw [List.length_erase_of_mem hkr, rng_len] at h1
            omega
        rw [h] at h9
        cases h9
      · rw [decide_eq_false hl]; rfl
  · have h1 : goodB n os = true := by
      unfold goodB
      rw [decide_eq_true (ord_nodup h), Bool.and_true, List.all_eq_true]
      exact fun x hx => inZ_iff.2 (ord_range h x hx)
    rw [h1, decide_eq_true (ord_all h).1]
    rfl
/-- The order's indices. -/
def toN (os : List Int) : List Nat := os.map Int.toNat
theorem toN_len (os : List Int) : (toN os).length = os.length := List.length_map ..
theorem toN_lt {n : Nat} {os : List Int} (h : ∀ x ∈ os, 0 ≤ x ∧ x < n) : ∀ k ∈ toN os, k < n := by
  unfold toN
  intro k hk
  obtain ⟨x, hx, rfl⟩ := List.mem_map.1 hk
  have := h x hx
  omega
theorem toN_idx : ∀ {os : List Int} {n : Nat}, (∀ x ∈ os, 0 ≤ x ∧ x < (n : Int)) → idx (toN os) = il os
  | [], _, _ => rfl
  | x :: t, n, h => by
    have h1 := h x List.mem_cons_self
    have h2 := toN_idx (os := t) (n := n) (fun y hy => h y (List.mem_cons_of_mem _ hy))
    have h3 : idx (toN (x :: t)) = .int .i64 ((x.toNat : Nat) : Int) :: idx (toN t) := rfl
    rw [h3, h2, show ((x.toNat : Nat) : Int) = x by omega]
    rfl
theorem pickL_get (l : List Nat) : ∀ (ks : List Nat) (k : Nat), k < ks.length → (pickL l ks).getD (k * 2) 0 = l.getD (ks.getD k 0 * 2) 0 ∧ (pickL l ks).getD (k * 2 + 1) 0 = l.getD (ks.getD k 0 * 2 + 1) 0
  | [], k, h => absurd h (Nat.not_lt_zero _)
  | i :: t, 0, h => ⟨rfl, rfl⟩
  | i :: t, k + 1, h => by
    have h1 := pickL_get l t k (by simpa using h)
    have h2 : pickL l (i :: t) = l.getD (i * 2) 0 :: l.getD (i * 2 + 1) 0 :: pickL l t := rfl
    rw [h2, show (k + 1) * 2 = k * 2 + 1 + 1 by omega]
    simp only [List.getD_cons_succ]
    exact h1
theorem fin_getD {lk : List Nat} (h : allFin lk = true) (k : Nat) : finB .f32 (lk.getD k 0) = true := by
  unfold allFin at h
  rw [List.all_eq_true] at h
  by_cases hk : k < lk.length
  · refine h _ ?_
    rw [List.getD_eq_getElem?_getD, List.getElem?_eq_getElem hk]
    exact List.getElem_mem hk
  · rw [List.getD_eq_getElem?_getD, List.getElem?_eq_none (by omega)]
    decide +kernel
theorem picked_clocks {n m : Nat} {l lk ks : List Nat} (h : clocksB n l m lk = true) (hk : ks.length = n) (hr : ∀ k ∈ ks, k < n) : clocksB n (pickL l ks) (n * n) (pickK lk n ks) = true := by
  obtain ⟨h1, h2, h3, h4, h5⟩ := clocks_parts h
  refine clocks_mk h1 h2 (upto_true fun k hkn => ?_) rfl ?_
  · have h6 := pickL_get l ks k (by omega)
    have h7 := upto_at h3 (hr _ (getD_mem ks (by omega : k < ks.length)))
    unfold okClock at h7 ⊢
    rw [h6.1, h6.2]
    exact h7
  · unfold allFin
    rw [List.all_eq_true]
    intro x hx
    unfold pickK at hx
    obtain ⟨i, hi, hx⟩ := List.mem_flatMap.1 hx
    unfold pickR at hx
    obtain ⟨j, hj, rfl⟩ := List.mem_map.1 hx
    exact fin_getD h5 _
theorem take_has (os : List Int) (k : Int) {j : Nat} (h : j < os.length) : decide (k ∈ os.take (j + 1)) = (decide (k ∈ os.take j) || os.getD j 0 == k) := by
  have e : os.take (j + 1) = os.take j ++ [os.getD j 0] := by
    rw [List.take_add_one, List.getElem?_eq_getElem h, List.getD_eq_getElem?_getD, List.getElem?_eq_getElem h]
    rfl
  have h2 : k ∈ os.take j ++ [os.getD j 0] ↔ (k ∈ os.take j ∨ os.getD j 0 = k) := by
    rw [List.mem_append, List.mem_singleton]
    exact or_congr Iff.rfl eq_comm
  rw [e, Bool.eq_iff_iff]
  simp only [decide_eq_true_eq, Bool.or_eq_true, beq_iff_eq]
  exact h2

set_option maxRecDepth 100000 in
set_option maxHeartbeats 8000000 in
theorem l00Has_any (u : Value) (n : Nat) (os : List Int) (k : Int) (w : World) (h : RowAt w u 1 n (il os)) : Calls Try.prog 78 #[u, .int .i64 k] w fun e w' => e = .returned (.bool (decide (k ∈ os))) ∧ w' = w := by
  obtain ⟨h1, h2, ao, cap, rfl, h3⟩ := h
  rw [il_length] at h1
  have h63 : n ≤ 9223372036854775807 := h2
  have HL : Hid (os.length = n) := by show _ = _; omega
  have H3 := Lib.hid h3
  clear h3 h1
  go_enter Try.func78, Try.ntmps78
  go_wp2_with fail
  go_loopw [5] (fun jv wr => ∃ j : Nat, j ≤ n ∧ jv = .int .i64 (j : Int) ∧ decide (k ∈ os.take j) = false ∧ wr = w) (fun jv _ => n - (intOf jv).toNat)
  case atStart => exact ⟨0, Nat.zero_le _, rfl, by simp, rfl⟩
  case round =>
    obtain ⟨j, hj, rfl, hn, e9⟩ := hrel
    subst wr
    have HN := Lib.hid hn
    clear hn
    by_cases hlt : j < n
    · have d1 : decide ((j : Int) < (n : Int)) = true := decide_eq_true (by omega)
      obtain ⟨b, o, rfl, hbl, hcell⟩ := H3.out.resolve_left (by omega)
      obtain ⟨x, hx⟩ : ∃ x, Hid (os.getD j 0 = x) := ⟨_, rfl⟩
      have f0 := hcell j (.int .i64 x) (by rw [← hx.out]; exact il_get (by rw [HL.out]; exact hlt))
      have HC := Lib.hid hcell
      clear hcell
      have hs := take_has os k (j := j) (by rw [HL.out]; exact hlt)
      rw [HN.out, hx.out, Bool.false_or] at hs
      cases e2 : (x == k)
      · rw [e2] at hs
        have HS := Lib.hid hs
        clear hs
        go_wp2_with fail
        go_roundw
        case rel => exact ⟨j + 1, hlt, by go_num, HS.out, by first | rfl | trivial⟩
        case measure => simp [intOf]; omega
      · rw [e2] at hs
        have HS : Hid (decide (k ∈ os) = true) := decide_eq_true (List.mem_of_mem_take (of_decide_eq_true hs))
        clear hs
        go_wp2_with fail
        go_ret
        exact ⟨ret_bool HS.out.symm, rfl⟩
    · obtain rfl : j = n := by omega
      have d1 : decide ((j : Int) < (j : Int)) = false := decide_eq_false (by omega)
      have hs := HN.out
      rw [← HL.out, List.take_length] at hs
      have HS := Lib.hid hs
      clear hs
      go_wp2_with fail
      go_ret
      exact ⟨ret_bool HS.out.symm, rfl⟩

set_option maxRecDepth 100000 in
set_option maxHeartbeats 8000000 in
theorem specOrderClocks_any (v v' u : Value) (n m : Nat) (l lk : List Nat) (os : List Int) (K : Nat) (w : World) (h : RowAt w v 2 n (fl l)) (h' : RowAt w v' 1 m (fl lk)) (hu : RowAt w u 1 K (il os)) : Calls Try.prog 29 #[.agg #[v, v'], u] w (GiveC (cN (clocksB n l m lk && ordB n os) n) (cL (clocksB n l m lk && ordB n os) (pickL l (toN os))) (cN (clocksB n l m lk && ordB n os) (n * n)) (cL (clocksB n l m lk && ordB n os) (pickK lk n (toN os))) (clocksB n l m lk && ordB n os) w) := by
  have H := Lib.hid h
  have H' := Lib.hid h'
  have U := Lib.hid hu
  clear h h' hu
  obtain ⟨u1, u2, uo, ucap, rfl, u3⟩ := U.out
  rw [il_length] at u1
  have hKL : os.length = K := by omega
  have HKL := Lib.hid hKL
  have h63u : K ≤ 9223372036854775807 := u2
  clear u3 u1 hKL
  obtain ⟨h1, h2, ao, cap, rfl, h3⟩ := H.out
  have h63 : n ≤ 9223372036854775807 := h2
  clear h3 h1
  cases hc : clocksB n l m lk
  · have HCB := Lib.hid hc
    clear hc
    rw [Bool.false_and]
    go_enter Try.func29, Try.ntmps29
    go_wp2_with (first | (go_at_call 77; refine (l05Is_any (.slice ao n cap) v' n m l lk _ _ ?_ ?_ ?_).mono ?_; (focus (refine RowAt.below H.out ?_; (repeat (first | assumption | (with_reducible exact Below.refl _ _) | (with_reducible refine Below.drewN ?_ _) | (with_reducible refine Below.drew ?_) | (with_reducible refine Below.allocS ?_ _) | ((with_reducible refine Below.setCell ?_ ?_ _); rotate_left; focus (first | omega | (simp; done) | (simp; omega))) | (with_reducible refine Below.step ?_ (by assumption)))); done)); (focus (refine RowAt.below H'.out ?_; (repeat (first | assumption | (with_reducible exact Below.refl _ _) | (with_reducible refine Below.drewN ?_ _) | (with_reducible refine Below.drew ?_) | (with_reducible refine Below.allocS ?_ _) | ((with_reducible refine Below.setCell ?_ ?_ _); rotate_left; focus (first | omega | (simp; done) | (simp; omega))) | (with_reducible refine Below.step ?_ (by assumption)))); done)); (focus (simp [Held, go_sem]; done)); rintro e w1 ⟨c9, rfl, rfl⟩; rw [HCB.out]))
    refine bodyPost_ret (v := ?_) (by first | (simp [results, Try.results29, go_sem, *]; rfl) | (simp [results, Try.results29, go_sem, *]; done)) rfl ?_
    refine ⟨_, _, rfl, ownsRow_nil', ownsRow_nil', (fun i hi => by cases hi), ?_⟩
    (repeat (first | assumption | (with_reducible exact Below.refl _ _) | (with_reducible refine Below.drewN ?_ _) | (with_reducible refine Below.drew ?_) | (with_reducible refine Below.allocS ?_ _) | ((with_reducible refine Below.setCell ?_ ?_ _); rotate_left; focus (first | omega | (simp; done) | (simp; omega))) | (with_reducible refine Below.step ?_ (by assumption))))
  have HCB := Lib.hid hc
  clear hc
  rw [Bool.true_and]
  by_cases hl : K = n
  case neg =>
    have d3 : ((K : Int) == (n : Int)) = false := by simp; omega
    have d4 : ((K : Int) != (n : Int)) = true := by simp only [bne, d3, Bool.not_false]
    have hO : ordB n os = false := by
      unfold ordB
      rw [decide_eq_false (by rw [HKL.out]; exact hl)]
      rfl
    rw [hO]
    go_enter Try.func29, Try.ntmps29
    go_wp2_with (first | (go_at_call 77; refine (l05Is_any (.slice ao n cap) v' n m l lk _ _ ?_ ?_ ?_).mono ?_; (focus (refine RowAt.below H.out ?_; (repeat (first | assumption | (with_reducible exact Below.refl _ _) | (with_reducible refine Below.drewN ?_ _) | (with_reducible refine Below.drew ?_) | (with_reducible refine Below.allocS ?_ _) | ((with_reducible refine Below.setCell ?_ ?_ _); rotate_left; focus (first | omega | (simp; done) | (simp; omega))) | (with_reducible refine Below.step ?_ (by assumption)))); done)); (focus (refine RowAt.below H'.out ?_; (repeat (first | assumption | (with_reducible exact Below.refl _ _) | (with_reducible refine Below.drewN ?_ _) | (with_reducible refine Below.drew ?_) | (with_reducible refine Below.allocS ?_ _) | ((with_reducible refine Below.setCell ?_ ?_ _); rotate_left; focus (first | omega | (simp; done) | (simp; omega))) | (with_reducible refine Below.step ?_ (by assumption)))); done)); (focus (simp [Held, go_sem]; done)); rintro e w1 ⟨c9, rfl, rfl⟩; rw [HCB.out]))
    refine bodyPost_ret (v := ?_) (by first | (simp [results, Try.results29, go_sem, *]; rfl) | (simp [results, Try.results29, go_sem, *]; done)) rfl ?_
    refine ⟨_, _, rfl, ownsRow_nil', ownsRow_nil', (fun i hi => by cases hi), ?_⟩
    (repeat (first | assumption | (with_reducible exact Below.refl _ _) | (with_reducible refine Below.drewN ?_ _) | (with_reducible refine Below.drew ?_) | (with_reducible refine Below.allocS ?_ _) | ((with_reducible refine Below.setCell ?_ ?_ _); rotate_left; focus (first | omega | (simp; done) | (simp; omega))) | (with_reducible refine Below.step ?_ (by assumption))))
  subst hl
  have d3 : ((K : Int) == (K : Int)) = true := by simp
  have d4 : ((K : Int) != (K : Int)) = false := by simp
  go_enter Try.func29, Try.ntmps29
  go_wp2_with (first | (go_at_call 77; refine (l05Is_any (.slice ao K cap) v' K m l lk _ _ ?_ ?_ ?_).mono ?_; (focus (refine RowAt.below H.out ?_; (repeat (first | assumption | (with_reducible exact Below.refl _ _) | (with_reducible refine Below.drewN ?_ _) | (with_reducible refine Below.drew ?_) | (with_reducible refine Below.allocS ?_ _) | ((with_reducible refine Below.setCell ?_ ?_ _); rotate_left; focus (first | omega | (simp; done) | (simp; omega))) | (with_reducible refine Below.step ?_ (by assumption)))); done)); (focus (refine RowAt.below H'.out ?_; (repeat (first | assumption | (with_reducible exact Below.refl _ _) | (with_reducible refine Below.drewN ?_ _) | (with_reducible refine Below.drew ?_) | (with_reducible refine Below.allocS ?_ _) | ((with_reducible refine Below.setCell ?_ ?_ _); rotate_left; focus (first | omega | (simp; done) | (simp; omega))) | (with_reducible refine Below.step ?_ (by assumption)))); done)); (focus (simp [Held, go_sem]; done)); rintro e w1 ⟨c9, rfl, rfl⟩; rw [HCB.out]))
  go_loopw [21] (fun jv wr => ∃ k : Nat, k ≤ K ∧ jv = .int .i64 (k : Int) ∧ upto (fun q => decide ((q : Int) ∈ os)) k = true ∧ Below w.heap.size w wr ∧ Held [(⟨w.heap.size, 0, none⟩, .slice ao K cap), (⟨w.heap.size, 1, none⟩, v'), (⟨w.heap.size + 1, 0, none⟩, .slice none 0 0), (⟨w.heap.size + 1, 1, none⟩, .slice none 0 0)] wr) (fun jv _ => K - (intOf jv).toNat)
  case atStart => exact ⟨0, Nat.zero_le _, rfl, rfl, by (repeat (first | assumption | (with_reducible exact Below.refl _ _) | (with_reducible refine Below.drewN ?_ _) | (with_reducible refine Below.drew ?_) | (with_reducible refine Below.allocS ?_ _) | ((with_reducible refine Below.setCell ?_ ?_ _); rotate_left; focus (first | omega | (simp; done) | (simp; omega))) | (with_reducible refine Below.step ?_ (by assumption)))), by simp [Held, go_sem]⟩
  case round =>
    obtain ⟨k, hk, rfl, hup, hBr, hH⟩ := hrel
    have UP := Lib.hid hup
    have HR2 := Lib.hid hH
    have hzr := hBr.size
    simp only [Held, and_true] at hH
    clear hup
    by_cases hlt : k < K
    · have d1 : decide ((k : Int) < (K : Int)) = true := decide_eq_true (by omega)
      cases e1 : decide ((k : Int) ∈ os)
      · have E1 := Lib.hid e1
        clear e1
        have hO : Hid (ordB K os = false) := by
          show _ = _
          unfold ordB
          rw [upto_false hlt E1.out, Bool.and_false]
        go_wp2_with (first | (go_at_call 78; refine (l00Has_any (.slice uo K ucap) K os _ _ (U.out.below ?_)).mono ?_; (focus ((repeat (first | assumption | (with_reducible exact Below.refl _ _) | (with_reducible refine Below.drewN ?_ _) | (with_reducible refine Below.drew ?_) | (with_reducible refine Below.allocS ?_ _) | ((with_reducible refine Below.setCell ?_ ?_ _); rotate_left; focus (first | omega | (simp; done) | (simp; omega))) | (with_reducible refine Below.step ?_ (by assumption)))); done)); rintro e w' ⟨rfl, e9⟩; subst w'; rw [E1.out]))
        refine bodyPost_ret (v := ?_) (by first | (simp [results, Try.results29, go_sem, *]; rfl) | (simp [results, Try.results29, go_sem, *]; done)) rfl ?_
        rw [hO.out]
        refine ⟨_, _, rfl, ownsRow_nil', ownsRow_nil', (fun i hi => by cases hi), ?_⟩
        (repeat (first | assumption | (with_reducible exact Below.refl _ _) | (with_reducible refine Below.drewN ?_ _) | (with_reducible refine Below.drew ?_) | (with_reducible refine Below.allocS ?_ _) | ((with_reducible refine Below.setCell ?_ ?_ _); rotate_left; focus (first | omega | (simp; done) | (simp; omega))) | (with_reducible refine Below.step ?_ (by assumption))))
      · have E1 := Lib.hid e1
        clear e1
        go_wp2_with (first | (go_at_call 78; refine (l00Has_any (.slice uo K ucap) K os _ _ (U.out.below ?_)).mono ?_; (focus ((repeat (first | assumption | (with_reducible exact Below.refl _ _) | (with_reducible refine Below.drewN ?_ _) | (with_reducible refine Below.drew ?_) | (with_reducible refine Below.allocS ?_ _) | ((with_reducible refine Below.setCell ?_ ?_ _); rotate_left; focus (first | omega | (simp; done) | (simp; omega))) | (with_reducible refine Below.step ?_ (by assumption)))); done)); rintro e w' ⟨rfl, e9⟩; subst w'; rw [E1.out]))
        go_roundw
        case rel => exact ⟨k + 1, hlt, by go_num, by rw [upto_succ, UP.out, E1.out]; rfl, hBr, HR2.out⟩
        case measure => simp [intOf]; omega
    · obtain rfl : k = K := by omega
      have d1 : decide ((k : Int) < (k : Int)) = false := decide_eq_false (by omega)
      have hO : ordB k os = true := by
        unfold ordB
        rw [UP.out, decide_eq_true HKL.out]
        rfl
      have HO := Lib.hid hO
      obtain ⟨c1, c2, c3, c4, c5⟩ := clocks_parts HCB.out
      have hkl : (toN os).length = k := (toN_len os).trans HKL.out
      have C4 := Lib.hid c4
      have HKL2 := Lib.hid hkl
      clear hO c3 c4 c5 hkl
      go_wp2_with fail
      refine (l05Picked_any (.slice ao k cap) v' (.slice uo k ucap) k m l lk (toN os) _ _ ?_ ?_ ?_ ?_ (toN_lt (ord_range HO.out)) (by rw [HKL2.out]; exact c2) (by omega) c2 C4.out).mono ?_
      · refine RowAt.below H.out ?_
        (repeat (first | assumption | (with_reducible exact Below.refl _ _) | (with_reducible refine Below.drewN ?_ _) | (with_reducible refine Below.drew ?_) | (with_reducible refine Below.allocS ?_ _) | ((with_reducible refine Below.setCell ?_ ?_ _); rotate_left; focus (first | omega | (simp; done) | (simp; omega))) | (with_reducible refine Below.step ?_ (by assumption))))
      · refine RowAt.below H'.out ?_
        (repeat (first | assumption | (with_reducible exact Below.refl _ _) | (with_reducible refine Below.drewN ?_ _) | (with_reducible refine Below.drew ?_) | (with_reducible refine Below.allocS ?_ _) | ((with_reducible refine Below.setCell ?_ ?_ _); rotate_left; focus (first | omega | (simp; done) | (simp; omega))) | (with_reducible refine Below.step ?_ (by assumption))))
      · rw [toN_idx (ord_range HO.out), HKL2.out]
        refine RowAt.below U.out ?_
        (repeat (first | assumption | (with_reducible exact Below.refl _ _) | (with_reducible refine Below.drewN ?_ _) | (with_reducible refine Below.drew ?_) | (with_reducible refine Below.allocS ?_ _) | ((with_reducible refine Below.setCell ?_ ?_ _); rotate_left; focus (first | omega | (simp; done) | (simp; omega))) | (with_reducible refine Below.step ?_ (by assumption))))
      · exact ⟨hH.1, hH.2.1, trivial⟩
      rintro e w6 ⟨v0, v1, rfl, ou0, ou1, hb6⟩
      rw [HKL2.out] at ou0 ou1
      have hk6 := Held.below hb6 (l := [(⟨w.heap.size + 1, 0, none⟩, .slice none 0 0), (⟨w.heap.size + 1, 1, none⟩, .slice none 0 0)]) ⟨hH.2.2.1, hH.2.2.2, trivial⟩
      simp only [Held, and_true] at hk6
      have hz6 := hb6.size
      have hbx : w.heap.size + 1 + 1 ≤ wr.heap.size := hH.2.2.2.1
      have Y0 := Lib.hid (ownsRow_base (base' := w.heap.size + 1 + 1) hbx ou0)
      have Y1 := Lib.hid (ownsRow_base (base' := w.heap.size + 1 + 1) hbx ou1)
      have hne := ownsRow_ne Y0.out Y1.out tc_ne
      obtain ⟨a0, k0, d0, rfl⟩ := ownsRow_shape ou0
      obtain ⟨a1, k1, d1', rfl⟩ := ownsRow_shape ou1
      have hB6 : Below w.heap.size w w6 := hBr.trans (hb6.mono (by omega))
      clear ou0 ou1 hH
      go_wp2_with fail
      refine bodyPost_ret (v := ?_) (by first | (simp [results, Try.results29, go_sem, *]; rfl) | (simp [results, Try.results29, go_sem, *]; done)) rfl ?_
      rw [HO.out]
      refine ⟨_, _, rfl, ?_, ?_, hne, ?_⟩
      · refine ownsRow_base (base := w.heap.size + 1 + 1) (by omega) ?_
        have := Y0.out
        (repeat (first | (with_reducible refine World.ownsRow.alloc ?_ _) | (with_reducible refine ownsRow_drewN ?_ _) | ((with_reducible refine ownsRow_setCell_below ?_ ?_ _); rotate_left; focus (first | omega | (simp; done) | (simp; omega)))))
        exact this
      · refine ownsRow_base (base := w.heap.size + 1 + 1) (by omega) ?_
        have := Y1.out
        (repeat (first | (with_reducible refine World.ownsRow.alloc ?_ _) | (with_reducible refine ownsRow_drewN ?_ _) | ((with_reducible refine ownsRow_setCell_below ?_ ?_ _); rotate_left; focus (first | omega | (simp; done) | (simp; omega)))))
        exact this
      · (repeat (first | assumption | (with_reducible exact Below.refl _ _) | (with_reducible refine Below.drewN ?_ _) | (with_reducible refine Below.drew ?_) | (with_reducible refine Below.allocS ?_ _) | ((with_reducible refine Below.setCell ?_ ?_ _); rotate_left; focus (first | omega | (simp; done) | (simp; omega))) | (with_reducible refine Below.step ?_ (by assumption))))

end Go.Proofs.Ytifdcoambehekaa
