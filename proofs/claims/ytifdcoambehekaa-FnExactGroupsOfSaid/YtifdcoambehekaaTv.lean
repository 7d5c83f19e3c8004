/-
  The walks of clocks that lie evenly: EvenClocks.
-/
import Derived.Test.YtifdcoambehekaaTu
import Derived.Test.YtifdcoambehekaaTp
import Derived.Test.YtifdcoambehekaaTk
set_option linter.unusedVariables false
set_option linter.unusedSimpArgs false
namespace Go.Proofs.Ytifdcoambehekaa
open Go.RowKit

/-- 'k / n' in single precision. -/
def quoN (k n : Nat) : Nat := fbin .quo .f32 (floatOfInt .f32 (k : Int)) (floatOfInt .f32 (n : Int))
def evenL (n f k : Nat) : List Nat := (List.range k).flatMap fun i => [quoN i n, f]
def evenX (x k j : Nat) : Nat := if j = k then 0 else x
def evenT (x k j : Nat) : List Nat := (List.range j).map (evenX x k)
def evenR (n x k : Nat) : List Nat := (List.range k).flatMap fun i => evenT x i n
def evenS (n x : Nat) : Nat → List Nat
  | 0 => List.replicate (n * n) x
  | k + 1 => (evenS n x k).set (k * n + k) 0
def evenB (i : Int) (f x : Nat) : Bool := inZ i 1 12 && clocksB i.toNat (evenL i.toNat f i.toNat) (i.toNat * i.toNat) (evenR i.toNat x i.toNat)
theorem evenL_snoc (n f k : Nat) : evenL n f (k + 1) = evenL n f k ++ [quoN k n, f] := by
  unfold evenL
  rw [List.range_succ, List.flatMap_append, List.flatMap_cons, List.flatMap_nil, List.append_nil]
theorem evenR_snoc (n x k : Nat) : evenR n x (k + 1) = evenR n x k ++ evenT x k n := by
  unfold evenR
  rw [List.range_succ, List.flatMap_append, List.flatMap_cons, List.flatMap_nil, List.append_nil]
theorem evenT_snoc (x k j : Nat) : evenT x k (j + 1) = evenT x k j ++ [evenX x k j] := by
  unfold evenT
  rw [List.range_succ, List.map_append]
  rfl
theorem evenS_length (n x : Nat) : ∀ k, (evenS n x k).length = n * n
  | 0 => List.length_replicate
  | k + 1 => by rw [evenS, List.length_set]; exact evenS_length n x k
theorem evenS_all (x : Nat) : ∀ n, n ≤ 12 → evenS n x n = evenR n x n
  | 0, _ => rfl
  | 1, _ => rfl
  | 2, _ => rfl
  | 3, _ => rfl
  | 4, _ => by kernel_rfl
  | 5, _ => by kernel_rfl
  | 6, _ => by kernel_rfl
  | 7, _ => by kernel_rfl
  | 8, _ => by kernel_rfl
  | 9, _ => by kernel_rfl
  | 10, _ => by kernel_rfl
  | 11, _ => by kernel_rfl
  | 12, _ => by kernel_rfl
  | n + 13, h => by omega
theorem quo_some {k n : Nat} (hk : k < n) (hn : n ≤ 12) : floatBits .quo .f32 (floatOfInt .f32 (k : Int)) (floatOfInt .f32 (n : Int)) = some (quoN k n) := by
  have key : ∀ n : Nat, n < 13 → ∀ k : Nat, k < n → (floatBits .quo .f32 (floatOfInt .f32 (k : Int)) (floatOfInt .f32 (n : Int))).isSome = true := by decide +kernel
  have h := key n (by omega) k hk
  unfold quoN fbin
  obtain ⟨r, hr⟩ := Option.isSome_iff_exists.1 h
  rw [hr]
  rfl

section
variable {P : Program} {ops : Array Oper} {Q : Exit → Act → World → Prop} {a : Act} {w : World} {rest : List Oper} {o : Oper}
/-- '/' and the like on floats whose answer is known: no draw. -/
theorem wpList_fsome {op : BinOp} {t t' : TypeId} {x y : Operand} {k : FloatKind} {bx by' r : Nat} (hop : o.op = Op.binOp op t x y t') (hx : a.eval x = .float k bx) (hy : a.eval y = .float k by')
    (ho : arithOp op = true) (hg : o.guard = none) (hr : floatBits op k bx by' = some r)
    (hK : wpList P ops Q rest (a.put o.dst (.float k r)) w) : wpList P ops Q (o :: rest) a w := by
  refine wpList_plain hg fun K hK' => ?_
  unfold Oper.wp
  have hgd : eqGuard op t x y (.float k bx) (.float k by') = pure () := by cases op <;> simp_all [arithOp, eqGuard] <;> rfl
  simp [execOp, hop, hx, hy, hgd, run_float_arith w op t k bx by' _ hr, Result.andThen]
  exact hK' _ _ hK
end
theorem cell_two_new (w : World) (x y : Value) (t : TypeId) : ∀ j u, [x, y][j]? = some u → (w.alloc (.cells #[x, y] t)).cell? ((⟨w.heap.size, 0, none⟩ : Addr).add j) = some u := by
  intro j u hj
  match j, hj with
  | 0, hj =>
    simp at hj
    subst hj
    simp [Addr.add]
  | 1, hj =>
    simp at hj
    subst hj
    simp [Addr.add]
theorem float_two (r s : Nat) : ∀ u ∈ [Value.float .f32 r, Value.float .f32 s], u.oneCell' = true := by
  intro u hu
  simp at hu
  rcases hu with rfl | rfl <;> rfl
theorem rowAt_new (w : World) (g : Nat) (x : Value) (t : TypeId) (hg : g = w.heap.size) : RowAt (w.alloc (.cells #[x] t)) (.slice (some ⟨g, 0, none⟩) 1 1) 1 1 [x] := by
  subst hg
  refine ⟨rfl, by decide, _, _, rfl, .inr ⟨_, _, rfl, by simp, ?_⟩⟩
  intro j u hj
  match j, hj with
  | 0, hj =>
    simp at hj
    subst hj
    simp
theorem fl_replicate (m x : Nat) : List.replicate m (Value.float .f32 x) = fl (List.replicate m x) := by unfold fl; rw [List.map_replicate]
theorem inZ12 {i : Int} (h : inZ i 1 12 = true) : ∃ n : Nat, i = (n : Int) ∧ 1 ≤ n ∧ n ≤ 12 := by
  unfold inZ at h
  simp only [Bool.and_eq_true, decide_eq_true_eq] at h
  exact ⟨i.toNat, by omega, by omega, by omega⟩

set_option maxRecDepth 100000 in
set_option maxHeartbeats 8000000 in
theorem specEven_any (i : Int) (f x : Nat) (w : World) : Calls Try.prog 15 #[.int .i64 i, .float .f32 f, .float .f32 x] w (GiveC (cN (evenB i f x) i.toNat) (cL (evenB i f x) (evenL i.toNat f i.toNat)) (cN (evenB i f x) (i.toNat * i.toNat)) (cL (evenB i f x) (evenR i.toNat x i.toNat)) (evenB i f x) w) := by
  cases hi : inZ i 1 12
  · rw [show evenB i f x = false by unfold evenB; rw [hi, Bool.false_and]]
    go_enter Try.func15, Try.ntmps15
    go_wp2_with (first | (go_at_call 52; refine (l00InZ_any _ _ _ _).mono ?_; rintro e w' ⟨rfl, rfl⟩; rw [hi]))
    refine bodyPost_ret (v := ?_) (by first | (simp [results, Try.results15, go_sem, *]; rfl) | (simp [results, Try.results15, go_sem, *]; done)) rfl ?_
    refine ⟨_, _, rfl, ownsRow_nil', ownsRow_nil', (fun i hi => by cases hi), ?_⟩
    (repeat (first | assumption | (with_reducible exact Below.refl _ _) | (with_reducible refine Below.drewN ?_ _) | (with_reducible refine Below.drew ?_) | (with_reducible refine Below.allocS ?_ _) | ((with_reducible refine Below.setCell ?_ ?_ _); rotate_left; focus (first | omega | (simp; done) | (simp; omega))) | (with_reducible refine Below.step ?_ (by assumption))))
  have HI := Lib.hid hi
  obtain ⟨n, rfl, hn0, hn⟩ := inZ12 hi
  rw [show evenB (n : Int) f x = clocksB n (evenL n f n) (n * n) (evenR n x n) by unfold evenB; rw [hi, Bool.true_and]; rfl]
  simp only [Int.toNat_natCast]
  obtain ⟨i0, hi0, hz0, hz1, hz2⟩ := info_parts info_Clock
  obtain ⟨j0, hj0, hy0, hy1, hy2⟩ := info_parts info_Float32
  have hnn : n * n ≤ 144 := sq_small hn
  obtain ⟨m, hm⟩ : ∃ m, m = n * n := ⟨_, rfl⟩
  rw [← hm] at hnn ⊢
  have HM := Lib.hid hm
  clear hm
  go_enter Try.func15, Try.ntmps15
  go_wp2_with (first | (go_at_call 52; refine (l00InZ_any _ _ _ _).mono ?_; rintro e w' ⟨rfl, rfl⟩; rw [hi]))
  go_loopw [9] (fun jv wr => ∃ (k : Nat) (a0 a1 : Value), k ≤ n ∧ jv = .int .i64 (k : Int) ∧ Held [(⟨w.heap.size + 1, 0, none⟩, a0), (⟨w.heap.size + 1, 1, none⟩, a1), (⟨w.heap.size, 0, none⟩, .slice none 0 0), (⟨w.heap.size, 1, none⟩, .slice none 0 0)] wr ∧ wr.ownsRow (w.heap.size + 1 + 1) 66 2 a0 k (fl (evenL n f k)) ∧ wr.ownsRow (w.heap.size + 1 + 1) 22 1 a1 (k * n) (fl (evenR n x k)) ∧ Below w.heap.size w wr) (fun jv _ => n - (intOf jv).toNat)
  case atStart => exact ⟨0, .slice none 0 0, .slice none 0 0, Nat.zero_le _, rfl, by simp [Held, go_sem], ownsRow_nil', by rw [Nat.zero_mul]; exact ownsRow_nil', by (repeat (first | assumption | (with_reducible exact Below.refl _ _) | (with_reducible refine Below.drewN ?_ _) | (with_reducible refine Below.drew ?_) | (with_reducible refine Below.allocS ?_ _) | ((with_reducible refine Below.setCell ?_ ?_ _); rotate_left; focus (first | omega | (simp; done) | (simp; omega))) | (with_reducible refine Below.step ?_ (by assumption))))⟩
  case round =>
    obtain ⟨k, a0, a1, hk, rfl, hH, o0, o1, hBr⟩ := hrel
    have OA0 := Lib.hid o0
    have OA1 := Lib.hid o1
    have HH := Lib.hid hH
    have hzr := hBr.size
    obtain ⟨c0, s0, t0, rfl⟩ := ownsRow_shape o0
    obtain ⟨c1, s1, t1, rfl⟩ := ownsRow_shape o1
    simp only [Held, and_true] at hH
    clear o0 o1
    by_cases hlt : k < n
    · have d1 : decide ((k : Int) < (n : Int)) = true := decide_eq_true (by omega)
      have hquo := Lib.hid (quo_some hlt hn)
      have hqb := sq_bound hlt
      obtain ⟨q, hq⟩ : ∃ q, q = k * n := ⟨_, rfl⟩
      rw [← hq] at hqb
      have hqm : q + n ≤ m := by have := HM.out; omega
      have O1q : Hid (wr.ownsRow (w.heap.size + 1 + 1) 22 1 (.slice c1 s1 t1) q (fl (evenR n x k))) := by show World.ownsRow _ _ _ _ _ _ _; rw [hq]; exact OA1.out
      have HQ := Lib.hid hq
      have hne8 := ownsRow_ne OA0.out O1q.out tc_ne
      clear hqb hq OA1
      go_wp2_with (first | (refine wpList_fsome rfl rfl rfl rfl rfl hquo.out ?_) | (at_builtin; refine wpList_append_own_at _ rfl _ _ 23 rfl ((w.heap.size + 1 + 1)) 66 i0 (.agg #[.float .f32 0, .float .f32 0]) 2 8 Try.underlying23 hi0 hz0 hz1 hz2 rfl (by decide) _ k (fl (evenL n f k)) rfl (by have h9 := OA0.out; (repeat (first | (with_reducible refine World.ownsRow.alloc ?_ _) | (with_reducible refine ownsRow_drewN ?_ _) | ((with_reducible refine ownsRow_setCell_below ?_ ?_ _); rotate_left; focus (first | omega | (simp; done) | (simp; omega))))); exact h9) ⟨_, 0, none⟩ 1 1 [.float .f32 (quoN k n), .float .f32 f] rfl rfl (cell_two_new _ _ _ _) (float_two _ _) (by simp only [maxLen]; omega) (by omega) (by first | omega | (simp; omega)) ?_))
      intro v8 w8 ho8 hg8 _ _
      have hk8 := grown_held hg8 (base := (w.heap.size + 1 + 1)) (e := 66) (c := 2) (n := k) (xs := fl (evenL n f k)) (by have h9 := OA0.out; (repeat (first | (with_reducible refine World.ownsRow.alloc ?_ _) | (with_reducible refine ownsRow_drewN ?_ _) | ((with_reducible refine ownsRow_setCell_below ?_ ?_ _); rotate_left; focus (first | omega | (simp; done) | (simp; omega))))); exact h9) (l := [(⟨w.heap.size + 1, 0, none⟩, .slice c0 s0 t0), (⟨w.heap.size + 1, 1, none⟩, .slice c1 s1 t1), (⟨w.heap.size, 0, none⟩, .slice none 0 0), (⟨w.heap.size, 1, none⟩, .slice none 0 0)]) (by simp; try omega) (by simp [Held, go_sem, *]; try omega)
      have hb8 : Below w.heap.size w w8 := by
        refine grown_below (w := w) ?_ hg8 (base := (w.heap.size + 1 + 1)) (e := 66) (c := 2) (n := k) (xs := fl (evenL n f k)) (by have h9 := OA0.out; (repeat (first | (with_reducible refine World.ownsRow.alloc ?_ _) | (with_reducible refine ownsRow_drewN ?_ _) | ((with_reducible refine ownsRow_setCell_below ?_ ?_ _); rotate_left; focus (first | omega | (simp; done) | (simp; omega))))); exact h9) (by omega) (by first | omega | (simp; omega))
        (repeat (first | assumption | (with_reducible exact Below.refl _ _) | (with_reducible refine Below.drewN ?_ _) | (with_reducible refine Below.drew ?_) | (with_reducible refine Below.allocS ?_ _) | ((with_reducible refine Below.setCell ?_ ?_ _); rotate_left; focus (first | omega | (simp; done) | (simp; omega))) | (with_reducible refine Below.step ?_ (by assumption))))
      have O8 : Hid (w8.ownsRow (w.heap.size + 1 + 1) 66 2 v8 (k + 1) (fl (evenL n f (k + 1)))) := by
        show World.ownsRow _ _ _ _ _ _ _
        rw [evenL_snoc, fl_append]
        exact ho8
      have T8 : Hid (w8.ownsRow (w.heap.size + 1 + 1) 22 1 (.slice c1 s1 t1) q (fl (evenR n x k))) := ownsRow_kept (by have h9 := O1q.out; (repeat (first | (with_reducible refine World.ownsRow.alloc ?_ _) | (with_reducible refine ownsRow_drewN ?_ _) | ((with_reducible refine ownsRow_setCell_below ?_ ?_ _); rotate_left; focus (first | omega | (simp; done) | (simp; omega))))); exact h9) (Kept.of_grown hg8) (fun j hj hm => hne8 j (List.mem_singleton.1 hm).symm hj)
      obtain ⟨c8, s8, t8, rfl⟩ := ownsRow_shape ho8
      have hz8 := hb8.size
      have HK8 := Lib.hid hk8
      simp only [Held, and_true] at hk8
      clear ho8 hg8 hne8 hH
      obtain ⟨w6, hw6⟩ : ∃ w6, w6 = w8.setCell ⟨w.heap.size + 1, 0, none⟩ (.slice c8 s8 t8) := ⟨_, rfl⟩
      have K6 : Kept w8 w6 [some (w.heap.size + 1)] := by rw [hw6]; exact kept_one _ _ _ _
      have Z0 : Hid (w6.ownsRow (w.heap.size + 1 + 1) 66 2 (.slice c8 s8 t8) (k + 1) (fl (evenL n f (k + 1)))) := ownsRow_kept O8.out K6 (fun j hj hm => by have h1 := (ownsRow_lt O8.out j hj).1; have h2 := List.mem_singleton.1 hm; cases h2; omega)
      have Z1 : Hid (w6.ownsRow (w.heap.size + 1 + 1) 22 1 (.slice c1 s1 t1) q (fl (evenR n x k))) := ownsRow_kept T8.out K6 (fun j hj hm => by have h1 := (ownsRow_lt T8.out j hj).1; have h2 := List.mem_singleton.1 hm; cases h2; omega)
      have hk6 : Held [(⟨w.heap.size + 1, 0, none⟩, .slice c8 s8 t8), (⟨w.heap.size + 1, 1, none⟩, .slice c1 s1 t1), (⟨w.heap.size, 0, none⟩, .slice none 0 0), (⟨w.heap.size, 1, none⟩, .slice none 0 0)] w6 := by
        rw [hw6]
        simp [Held, go_sem, *]
        try omega
      have hB6 : Below w.heap.size w w6 := hb8.trans (K6.toBelow (by omega) (fun j hj => by have h2 := List.mem_singleton.1 hj; cases h2; omega))
      have HK6 := Lib.hid hk6
      clear K6 O8 T8 HK8
      go_wp2_with fail
      rw [← hw6]
      clear hw6 hk8
      simp only [Held, and_true] at hk6
      go_loopw [10] (fun jv wr2 => ∃ (j : Nat) (a2 : Value), j ≤ n ∧ jv = .int .i64 (j : Int) ∧ Held [(⟨w.heap.size + 1, 0, none⟩, .slice c8 s8 t8), (⟨w.heap.size + 1, 1, none⟩, a2), (⟨w.heap.size, 0, none⟩, .slice none 0 0), (⟨w.heap.size, 1, none⟩, .slice none 0 0)] wr2 ∧ wr2.ownsRow (w.heap.size + 1 + 1) 66 2 (.slice c8 s8 t8) (k + 1) (fl (evenL n f (k + 1))) ∧ wr2.ownsRow (w.heap.size + 1 + 1) 22 1 a2 (q + j) (fl (evenR n x k ++ evenT x k j)) ∧ Below w.heap.size w wr2) (fun jv _ => n - (intOf jv).toNat)
      case atStart => exact ⟨0, .slice c1 s1 t1, Nat.zero_le _, rfl, HK6.out, Z0.out, by rw [show evenT x k 0 = [] from rfl, List.append_nil]; exact Z1.out, hB6⟩
      case round =>
        obtain ⟨j, a2, hj, rfl, hH2, o2, o3, hBr2⟩ := hrel
        have OA2 := Lib.hid o2
        have OA3 := Lib.hid o3
        have HH2 := Lib.hid hH2
        have hzr2 := hBr2.size
        obtain ⟨c2, s2, t2, rfl⟩ := ownsRow_shape o3
        simp only [Held, and_true] at hH2
        have hne9 := ownsRow_ne OA2.out OA3.out tc_ne
        clear o2 o3 hk6
        by_cases hlt3 : j < n
        · have d2 : decide ((j : Int) < (n : Int)) = true := decide_eq_true (by omega)
          by_cases hjk : j = k
          · have EX : Hid (evenX x k j = 0) := if_pos hjk
            have e9 : ((j : Int) == (k : Int)) = true := by simp; omega
            clear hjk
            go_wp2_with (first | (at_builtin; refine wpList_append_own_at _ rfl _ _ 24 rfl ((w.heap.size + 1 + 1)) 22 j0 (.float .f32 0) 1 4 Try.underlying24 hj0 hy0 hy1 hy2 rfl (by decide) _ (q + j) (fl (evenR n x k ++ evenT x k j)) rfl (by have h9 := OA3.out; (repeat (first | (with_reducible refine World.ownsRow.alloc ?_ _) | (with_reducible refine ownsRow_drewN ?_ _) | ((with_reducible refine ownsRow_setCell_below ?_ ?_ _); rotate_left; focus (first | omega | (simp; done) | (simp; omega))))); exact h9) ⟨_, 0, none⟩ 1 1 [.float .f32 0] rfl rfl (cell_one_new _ _ _) (float_one _) (by simp only [maxLen]; omega) (by omega) (by first | omega | (simp; omega)) ?_))
            intro v7 w7 ho7 hg7 _ _
            have hk7 := grown_held hg7 (base := (w.heap.size + 1 + 1)) (e := 22) (c := 1) (n := q + j) (xs := fl (evenR n x k ++ evenT x k j)) (by have h9 := OA3.out; (repeat (first | (with_reducible refine World.ownsRow.alloc ?_ _) | (with_reducible refine ownsRow_drewN ?_ _) | ((with_reducible refine ownsRow_setCell_below ?_ ?_ _); rotate_left; focus (first | omega | (simp; done) | (simp; omega))))); exact h9) (l := [(⟨w.heap.size + 1, 0, none⟩, .slice c8 s8 t8), (⟨w.heap.size + 1, 1, none⟩, .slice c2 s2 t2), (⟨w.heap.size, 0, none⟩, .slice none 0 0), (⟨w.heap.size, 1, none⟩, .slice none 0 0)]) (by simp; try omega) (by simp [Held, go_sem, *]; try omega)
            have hb7 : Below w.heap.size w w7 := by
              refine grown_below (w := w) ?_ hg7 (base := (w.heap.size + 1 + 1)) (e := 22) (c := 1) (n := q + j) (xs := fl (evenR n x k ++ evenT x k j)) (by have h9 := OA3.out; (repeat (first | (with_reducible refine World.ownsRow.alloc ?_ _) | (with_reducible refine ownsRow_drewN ?_ _) | ((with_reducible refine ownsRow_setCell_below ?_ ?_ _); rotate_left; focus (first | omega | (simp; done) | (simp; omega))))); exact h9) (by omega) (by first | omega | (simp; omega))
              (repeat (first | assumption | (with_reducible exact Below.refl _ _) | (with_reducible refine Below.drewN ?_ _) | (with_reducible refine Below.drew ?_) | (with_reducible refine Below.allocS ?_ _) | ((with_reducible refine Below.setCell ?_ ?_ _); rotate_left; focus (first | omega | (simp; done) | (simp; omega))) | (with_reducible refine Below.step ?_ (by assumption))))
            have O7 : Hid (w7.ownsRow (w.heap.size + 1 + 1) 22 1 v7 (q + (j + 1)) (fl (evenR n x k ++ evenT x k (j + 1)))) := by
              show World.ownsRow _ _ _ _ _ _ _
              rw [evenT_snoc, ← List.append_assoc, fl_append, EX.out]
              exact ho7
            have T7 : Hid (w7.ownsRow (w.heap.size + 1 + 1) 66 2 (.slice c8 s8 t8) (k + 1) (fl (evenL n f (k + 1)))) := ownsRow_kept (by have h9 := OA2.out; (repeat (first | (with_reducible refine World.ownsRow.alloc ?_ _) | (with_reducible refine ownsRow_drewN ?_ _) | ((with_reducible refine ownsRow_setCell_below ?_ ?_ _); rotate_left; focus (first | omega | (simp; done) | (simp; omega))))); exact h9) (Kept.of_grown hg7) (fun j hj hm => hne9 j hj (List.mem_singleton.1 hm).symm)
            obtain ⟨c7, s7, t7, rfl⟩ := ownsRow_shape ho7
            have hz7 := hb7.size
            have HK7 := Lib.hid hk7
            simp only [Held, and_true] at hk7
            clear ho7 hg7 hne9 hH2
            obtain ⟨w5, hw5⟩ : ∃ w5, w5 = w7.setCell ⟨w.heap.size + 1, 1, none⟩ (.slice c7 s7 t7) := ⟨_, rfl⟩
            have K5 : Kept w7 w5 [some (w.heap.size + 1)] := by rw [hw5]; exact kept_one _ _ _ _
            have Y0 : Hid (w5.ownsRow (w.heap.size + 1 + 1) 66 2 (.slice c8 s8 t8) (k + 1) (fl (evenL n f (k + 1)))) := ownsRow_kept T7.out K5 (fun j hj hm => by have h1 := (ownsRow_lt T7.out j hj).1; have h2 := List.mem_singleton.1 hm; cases h2; omega)
            have Y1 : Hid (w5.ownsRow (w.heap.size + 1 + 1) 22 1 (.slice c7 s7 t7) (q + (j + 1)) (fl (evenR n x k ++ evenT x k (j + 1)))) := ownsRow_kept O7.out K5 (fun j hj hm => by have h1 := (ownsRow_lt O7.out j hj).1; have h2 := List.mem_singleton.1 hm; cases h2; omega)
            have hk5 : Held [(⟨w.heap.size + 1, 0, none⟩, .slice c8 s8 t8), (⟨w.heap.size + 1, 1, none⟩, .slice c7 s7 t7), (⟨w.heap.size, 0, none⟩, .slice none 0 0), (⟨w.heap.size, 1, none⟩, .slice none 0 0)] w5 := by
              rw [hw5]
              simp [Held, go_sem, *]
              try omega
            have hB5 : Below w.heap.size w w5 := hb7.trans (K5.toBelow (by omega) (fun j hj => by have h2 := List.mem_singleton.1 hj; cases h2; omega))
            have HK5 := Lib.hid hk5
            clear K5 O7 T7 HK7 hk5
            go_wp2_with fail
            rw [← hw5]
            clear hw5 hk7
            go_roundw
            case rel => exact ⟨j + 1, .slice c7 s7 t7, hlt3, by go_num, HK5.out, Y0.out, Y1.out, hB5⟩
            case measure => simp [intOf]; omega
          · have EX : Hid (evenX x k j = x) := if_neg hjk
            have e9 : ((j : Int) == (k : Int)) = false := by simp; omega
            clear hjk
            go_wp2_with (first | (at_builtin; refine wpList_append_own_at _ rfl _ _ 24 rfl ((w.heap.size + 1 + 1)) 22 j0 (.float .f32 0) 1 4 Try.underlying24 hj0 hy0 hy1 hy2 rfl (by decide) _ (q + j) (fl (evenR n x k ++ evenT x k j)) rfl (by have h9 := OA3.out; (repeat (first | (with_reducible refine World.ownsRow.alloc ?_ _) | (with_reducible refine ownsRow_drewN ?_ _) | ((with_reducible refine ownsRow_setCell_below ?_ ?_ _); rotate_left; focus (first | omega | (simp; done) | (simp; omega))))); exact h9) ⟨_, 0, none⟩ 1 1 [.float .f32 x] rfl rfl (cell_one_new _ _ _) (float_one _) (by simp only [maxLen]; omega) (by omega) (by first | omega | (simp; omega)) ?_))
            intro v7 w7 ho7 hg7 _ _
            have hk7 := grown_held hg7 (base := (w.heap.size + 1 + 1)) (e := 22) (c := 1) (n := q + j) (xs := fl (evenR n x k ++ evenT x k j)) (by have h9 := OA3.out; (repeat (first | (with_reducible refine World.ownsRow.alloc ?_ _) | (with_reducible refine ownsRow_drewN ?_ _) | ((with_reducible refine ownsRow_setCell_below ?_ ?_ _); rotate_left; focus (first | omega | (simp; done) | (simp; omega))))); exact h9) (l := [(⟨w.heap.size + 1, 0, none⟩, .slice c8 s8 t8), (⟨w.heap.size + 1, 1, none⟩, .slice c2 s2 t2), (⟨w.heap.size, 0, none⟩, .slice none 0 0), (⟨w.heap.size, 1, none⟩, .slice none 0 0)]) (by simp; try omega) (by simp [Held, go_sem, *]; try omega)
            have hb7 : Below w.heap.size w w7 := by
              refine grown_below (w := w) ?_ hg7 (base := (w.heap.size + 1 + 1)) (e := 22) (c := 1) (n := q + j) (xs := fl (evenR n x k ++ evenT x k j)) (by have h9 := OA3.out; (repeat (first | (with_reducible refine World.ownsRow.alloc ?_ _) | (with_reducible refine ownsRow_drewN ?_ _) | ((with_reducible refine ownsRow_setCell_below ?_ ?_ _); rotate_left; focus (first | omega | (simp; done) | (simp; omega))))); exact h9) (by omega) (by first | omega | (simp; omega))
              (repeat (first | assumption | (with_reducible exact Below.refl _ _) | (with_reducible refine Below.drewN ?_ _) | (with_reducible refine Below.drew ?_) | (with_reducible refine Below.allocS ?_ _) | ((with_reducible refine Below.setCell ?_ ?_ _); rotate_left; focus (first | omega | (simp; done) | (simp; omega))) | (with_reducible refine Below.step ?_ (by assumption))))
            have O7 : Hid (w7.ownsRow (w.heap.size + 1 + 1) 22 1 v7 (q + (j + 1)) (fl (evenR n x k ++ evenT x k (j + 1)))) := by
              show World.ownsRow _ _ _ _ _ _ _
              rw [evenT_snoc, ← List.append_assoc, fl_append, EX.out]
              exact ho7
            have T7 : Hid (w7.ownsRow (w.heap.size + 1 + 1) 66 2 (.slice c8 s8 t8) (k + 1) (fl (evenL n f (k + 1)))) := ownsRow_kept (by have h9 := OA2.out; (repeat (first | (with_reducible refine World.ownsRow.alloc ?_ _) | (with_reducible refine ownsRow_drewN ?_ _) | ((with_reducible refine ownsRow_setCell_below ?_ ?_ _); rotate_left; focus (first | omega | (simp; done) | (simp; omega))))); exact h9) (Kept.of_grown hg7) (fun j hj hm => hne9 j hj (List.mem_singleton.1 hm).symm)
            obtain ⟨c7, s7, t7, rfl⟩ := ownsRow_shape ho7
            have hz7 := hb7.size
            have HK7 := Lib.hid hk7
            simp only [Held, and_true] at hk7
            clear ho7 hg7 hne9 hH2
            obtain ⟨w5, hw5⟩ : ∃ w5, w5 = w7.setCell ⟨w.heap.size + 1, 1, none⟩ (.slice c7 s7 t7) := ⟨_, rfl⟩
            have K5 : Kept w7 w5 [some (w.heap.size + 1)] := by rw [hw5]; exact kept_one _ _ _ _
            have Y0 : Hid (w5.ownsRow (w.heap.size + 1 + 1) 66 2 (.slice c8 s8 t8) (k + 1) (fl (evenL n f (k + 1)))) := ownsRow_kept T7.out K5 (fun j hj hm => by have h1 := (ownsRow_lt T7.out j hj).1; have h2 := List.mem_singleton.1 hm; cases h2; omega)
            have Y1 : Hid (w5.ownsRow (w.heap.size + 1 + 1) 22 1 (.slice c7 s7 t7) (q + (j + 1)) (fl (evenR n x k ++ evenT x k (j + 1)))) := ownsRow_kept O7.out K5 (fun j hj hm => by have h1 := (ownsRow_lt O7.out j hj).1; have h2 := List.mem_singleton.1 hm; cases h2; omega)
            have hk5 : Held [(⟨w.heap.size + 1, 0, none⟩, .slice c8 s8 t8), (⟨w.heap.size + 1, 1, none⟩, .slice c7 s7 t7), (⟨w.heap.size, 0, none⟩, .slice none 0 0), (⟨w.heap.size, 1, none⟩, .slice none 0 0)] w5 := by
              rw [hw5]
              simp [Held, go_sem, *]
              try omega
            have hB5 : Below w.heap.size w w5 := hb7.trans (K5.toBelow (by omega) (fun j hj => by have h2 := List.mem_singleton.1 hj; cases h2; omega))
            have HK5 := Lib.hid hk5
            clear K5 O7 T7 HK7 hk5
            go_wp2_with fail
            rw [← hw5]
            clear hw5 hk7
            go_roundw
            case rel => exact ⟨j + 1, .slice c7 s7 t7, hlt3, by go_num, HK5.out, Y0.out, Y1.out, hB5⟩
            case measure => simp [intOf]; omega
        · have d2 : decide ((j : Int) < (n : Int)) = false := decide_eq_false (by omega)
          have h9 := OA3.out
          obtain rfl : j = n := by omega
          rw [← evenR_snoc, HQ.out, ← Nat.succ_mul] at h9
          have H9 := Lib.hid h9
          clear h9 OA3
          go_wp2_with fail
          go_roundw
          case rel => exact ⟨k + 1, _, _, hlt, by go_num, HH2.out, OA2.out, H9.out, hBr2⟩
          case measure => simp [intOf]; omega
    · have d1 : decide ((k : Int) < (n : Int)) = false := decide_eq_false (by omega)
      obtain rfl : k = n := by omega
      have T1 : Hid (wr.ownsRow (w.heap.size + 1 + 1) 22 1 (.slice c1 s1 t1) m (fl (evenR k x k))) := by show World.ownsRow _ _ _ _ _ _ _; rw [HM.out]; exact OA1.out
      have hne := ownsRow_ne OA0.out T1.out tc_ne
      clear OA1
      cases hv : clocksB k (evenL k f k) m (evenR k x k)
      · go_wp2_with (first | (go_at_call 53; refine (l05Give_any _ _ _ _ _ _ k m _ _ _ (ownsRow_rowAt OA0.out) (ownsRow_rowAt T1.out)).mono ?_; rintro e w7 ⟨rfl, hb7⟩; rw [hv]; have hk7 := Held.below hb7 (l := [(⟨w.heap.size, 0, none⟩, .slice none 0 0), (⟨w.heap.size, 1, none⟩, .slice none 0 0)]) (by simp [Held, *]); simp only [Held, and_true] at hk7; have Y0 := Lib.hid (ownsRow_below OA0.out hb7); have Y1 := Lib.hid (ownsRow_below T1.out hb7)))
        refine bodyPost_ret (v := ?_) (by first | (simp [results, Try.results15, go_sem, *]; rfl) | (simp [results, Try.results15, go_sem, *]; done)) rfl ?_
        rw [hv]
        refine ⟨_, _, rfl, ownsRow_nil', ownsRow_nil', (fun i hi => by cases hi), ?_⟩
        (repeat (first | assumption | (with_reducible exact Below.refl _ _) | (with_reducible refine Below.drewN ?_ _) | (with_reducible refine Below.drew ?_) | (with_reducible refine Below.allocS ?_ _) | ((with_reducible refine Below.setCell ?_ ?_ _); rotate_left; focus (first | omega | (simp; done) | (simp; omega))) | (with_reducible refine Below.step ?_ (by assumption))))
      · go_wp2_with (first | (go_at_call 53; refine (l05Give_any _ _ _ _ _ _ k m _ _ _ (ownsRow_rowAt OA0.out) (ownsRow_rowAt T1.out)).mono ?_; rintro e w7 ⟨rfl, hb7⟩; rw [hv]; have hk7 := Held.below hb7 (l := [(⟨w.heap.size, 0, none⟩, .slice none 0 0), (⟨w.heap.size, 1, none⟩, .slice none 0 0)]) (by simp [Held, *]); simp only [Held, and_true] at hk7; have Y0 := Lib.hid (ownsRow_below OA0.out hb7); have Y1 := Lib.hid (ownsRow_below T1.out hb7)))
        refine bodyPost_ret (v := ?_) (by first | (simp [results, Try.results15, go_sem, *]; rfl) | (simp [results, Try.results15, go_sem, *]; done)) rfl ?_
        rw [hv]
        refine ⟨_, _, rfl, ?_, ?_, hne, ?_⟩
        · refine ownsRow_base (base := w.heap.size + 1 + 1) (by omega) ?_
          have := Y0.out
          (repeat (first | (with_reducible refine World.ownsRow.alloc ?_ _) | (with_reducible refine ownsRow_drewN ?_ _) | ((with_reducible refine ownsRow_setCell_below ?_ ?_ _); rotate_left; focus (first | omega | (simp; done) | (simp; omega)))))
          exact this
        · refine ownsRow_base (base := w.heap.size + 1 + 1) (by omega) ?_
          have := Y1.out
          (repeat (first | (with_reducible refine World.ownsRow.alloc ?_ _) | (with_reducible refine ownsRow_drewN ?_ _) | ((with_reducible refine ownsRow_setCell_below ?_ ?_ _); rotate_left; focus (first | omega | (simp; done) | (simp; omega)))))
          exact this
        · (repeat (first | assumption | (with_reducible exact Below.refl _ _) | (with_reducible refine Below.drewN ?_ _) | (with_reducible refine Below.drew ?_) | (with_reducible refine Below.allocS ?_ _) | ((with_reducible refine Below.setCell ?_ ?_ _); rotate_left; focus (first | omega | (simp; done) | (simp; omega))) | (with_reducible refine Below.step ?_ (by assumption))))

set_option maxRecDepth 100000 in
set_option maxHeartbeats 8000000 in
theorem implEven_any (i : Int) (f x : Nat) (w : World) : Calls Try.prog 16 #[.int .i64 i, .float .f32 f, .float .f32 x] w (GiveC (cN (evenB i f x) i.toNat) (cL (evenB i f x) (evenL i.toNat f i.toNat)) (cN (evenB i f x) (i.toNat * i.toNat)) (cL (evenB i f x) (evenR i.toNat x i.toNat)) (evenB i f x) w) := by
  cases hi : inZ i 1 12
  · rw [show evenB i f x = false by unfold evenB; rw [hi, Bool.false_and]]
    go_enter Try.func16, Try.ntmps16
    go_wp2_with (first | (go_at_call 54; refine (inZ_any _ _ _ _).mono ?_; rintro e w' ⟨rfl, rfl⟩; rw [hi]))
    refine bodyPost_ret (v := ?_) (by first | (simp [results, Try.results16, go_sem, *]; rfl) | (simp [results, Try.results16, go_sem, *]; done)) rfl ?_
    refine ⟨_, _, rfl, ownsRow_nil', ownsRow_nil', (fun i hi => by cases hi), ?_⟩
    (repeat (first | assumption | (with_reducible exact Below.refl _ _) | (with_reducible refine Below.drewN ?_ _) | (with_reducible refine Below.drew ?_) | (with_reducible refine Below.allocS ?_ _) | ((with_reducible refine Below.setCell ?_ ?_ _); rotate_left; focus (first | omega | (simp; done) | (simp; omega))) | (with_reducible refine Below.step ?_ (by assumption))))
  have HI := Lib.hid hi
  obtain ⟨n, rfl, hn0, hn⟩ := inZ12 hi
  rw [show evenB (n : Int) f x = clocksB n (evenL n f n) (n * n) (evenR n x n) by unfold evenB; rw [hi, Bool.true_and]; rfl]
  simp only [Int.toNat_natCast]
  obtain ⟨i0, hi0, hz0, hz1, hz2⟩ := info_parts info_Clock
  have hnn : n * n ≤ 144 := sq_small hn
  have hm0 : 0 < n * n := Nat.mul_pos hn0 hn0
  obtain ⟨m, hm⟩ : ∃ m, m = n * n := ⟨_, rfl⟩
  have hmi : (n : Int) * (n : Int) = (m : Int) := by rw [hm]; exact (Int.natCast_mul n n).symm
  rw [← hm] at hnn hm0 ⊢
  have HM := Lib.hid hm
  clear hm
  go_enter Try.func16, Try.ntmps16
  go_wp2_with (first | (go_at_call 54; refine (inZ_any _ _ _ _).mono ?_; rintro e w' ⟨rfl, rfl⟩; rw [hi]) | (go_at_call 55; refine (repeatF_any x m _ _ (rowAt_new _ _ _ _ (by simp)) hm0 (by omega)).mono ?_; rintro e w3 ⟨g, rfl, ou, hb3⟩; have hk3 := Held.below hb3 (l := [(⟨w.heap.size, 0, none⟩, .slice none 0 0), (⟨w.heap.size, 1, none⟩, .slice none 0 0)]) (by simp [Held, go_sem]); simp only [Held, and_true] at hk3))
  have ou' := ownsRow_base (base' := w.heap.size + 1) (by simp) ou
  have hg := ownsRow_lt ou' g rfl
  have hb30 : Below w.heap.size w w3 := by (repeat (first | assumption | (with_reducible exact Below.refl _ _) | (with_reducible refine Below.drewN ?_ _) | (with_reducible refine Below.drew ?_) | (with_reducible refine Below.allocS ?_ _) | ((with_reducible refine Below.setCell ?_ ?_ _); rotate_left; focus (first | omega | (simp; done) | (simp; omega))) | (with_reducible refine Below.step ?_ (by assumption))))
  have hz3 := hb30.size
  have hgn : ¬ w3.heap.size = g := by omega
  have hgn' : ¬ g = w3.heap.size := by omega
  have hrn : ¬ w.heap.size = w3.heap.size := by omega
  have hrn' : ¬ w3.heap.size = w.heap.size := by omega
  have hrg : ¬ w.heap.size = g := by omega
  have hrg' : ¬ g = w.heap.size := by omega
  rw [fl_replicate] at ou'
  have OU := Lib.hid ou'
  clear ou ou'
  go_loopw [22] (fun jv wr => ∃ (k : Nat) (a0 : Value), k ≤ n ∧ jv = .int .i64 (k : Int) ∧ Held [(⟨w3.heap.size, 0, none⟩, a0), (⟨w3.heap.size, 1, none⟩, .slice (some ⟨g, 0, none⟩) m m), (⟨w.heap.size, 0, none⟩, .slice none 0 0), (⟨w.heap.size, 1, none⟩, .slice none 0 0)] wr ∧ wr.ownsRow (w3.heap.size + 1) 66 2 a0 k (fl (evenL n f k)) ∧ wr.ownsRow (w.heap.size + 1) 22 1 (.slice (some ⟨g, 0, none⟩) m m) m (fl (evenS n x k)) ∧ Below w.heap.size w wr ∧ w3.heap.size + 1 ≤ wr.heap.size) (fun jv _ => n - (intOf jv).toNat)
  case atStart =>
    refine ⟨0, .slice none 0 0, Nat.zero_le _, rfl, by simp [Held, go_sem, *], ownsRow_nil', ?_, by (repeat (first | assumption | (with_reducible exact Below.refl _ _) | (with_reducible refine Below.drewN ?_ _) | (with_reducible refine Below.drew ?_) | (with_reducible refine Below.allocS ?_ _) | ((with_reducible refine Below.setCell ?_ ?_ _); rotate_left; focus (first | omega | (simp; done) | (simp; omega))) | (with_reducible refine Below.step ?_ (by assumption)))), by simp⟩
    have h9 := OU.out
    rw [HM.out] at h9 ⊢
    have h8 : evenS n x 0 = List.replicate (n * n) x := rfl
    rw [h8]
    (repeat (first | (with_reducible refine World.ownsRow.alloc ?_ _) | (with_reducible refine ownsRow_drewN ?_ _) | ((with_reducible refine ownsRow_setCell_below ?_ ?_ _); rotate_left; focus (first | omega | (simp; done) | (simp; omega)))))
    exact h9
  case round =>
    obtain ⟨k, a0, hk, rfl, hH, o0, o1, hBr, hzw⟩ := hrel
    have OA0 := Lib.hid o0
    have OA1 := Lib.hid o1
    have HH := Lib.hid hH
    have hzr := hBr.size
    obtain ⟨c0, s0, t0, rfl⟩ := ownsRow_shape o0
    simp only [Held, and_true] at hH
    have hne8 := ownsRow_ne OA0.out OA1.out tc_ne
    clear o0 o1
    by_cases hlt : k < n
    · have d1 : decide ((k : Int) < (n : Int)) = true := decide_eq_true (by omega)
      have hquo := Lib.hid (quo_some hlt hn)
      have hqb := sq_bound hlt
      obtain ⟨q, hq⟩ : ∃ q, q = k * n := ⟨_, rfl⟩
      have hqi : (k : Int) * (n : Int) = (q : Int) := by rw [hq]; exact (Int.natCast_mul k n).symm
      rw [← hq] at hqb
      have hqm : q + k < m := by have := HM.out; omega
      have HQ := Lib.hid hq
      clear hqb hq
      go_wp2_with (first | (refine wpList_fsome rfl rfl rfl rfl rfl hquo.out ?_) | (at_builtin; refine wpList_append_own_at _ rfl _ _ 23 rfl (w3.heap.size + 1) 66 i0 (.agg #[.float .f32 0, .float .f32 0]) 2 8 Try.underlying23 hi0 hz0 hz1 hz2 rfl (by decide) _ k (fl (evenL n f k)) rfl (by have h9 := OA0.out; (repeat (first | (with_reducible refine World.ownsRow.alloc ?_ _) | (with_reducible refine ownsRow_drewN ?_ _) | ((with_reducible refine ownsRow_setCell_below ?_ ?_ _); rotate_left; focus (first | omega | (simp; done) | (simp; omega))))); exact h9) ⟨_, 0, none⟩ 1 1 [.float .f32 (quoN k n), .float .f32 f] rfl rfl (cell_two_new _ _ _ _) (float_two _ _) (by simp only [maxLen]; omega) (by omega) (by first | omega | (simp; omega)) ?_))
      intro v8 w8 ho8 hg8 _ _
      have hk8 := grown_held hg8 (base := w3.heap.size + 1) (e := 66) (c := 2) (n := k) (xs := fl (evenL n f k)) (by have h9 := OA0.out; (repeat (first | (with_reducible refine World.ownsRow.alloc ?_ _) | (with_reducible refine ownsRow_drewN ?_ _) | ((with_reducible refine ownsRow_setCell_below ?_ ?_ _); rotate_left; focus (first | omega | (simp; done) | (simp; omega))))); exact h9) (l := [(⟨w3.heap.size, 0, none⟩, .slice c0 s0 t0), (⟨w3.heap.size, 1, none⟩, .slice (some ⟨g, 0, none⟩) m m), (⟨w.heap.size, 0, none⟩, .slice none 0 0), (⟨w.heap.size, 1, none⟩, .slice none 0 0)]) (by simp; try omega) (by simp [Held, go_sem, *]; try omega)
      have hb8 : Below w.heap.size w w8 := by
        refine grown_below (w := w) ?_ hg8 (base := w3.heap.size + 1) (e := 66) (c := 2) (n := k) (xs := fl (evenL n f k)) (by have h9 := OA0.out; (repeat (first | (with_reducible refine World.ownsRow.alloc ?_ _) | (with_reducible refine ownsRow_drewN ?_ _) | ((with_reducible refine ownsRow_setCell_below ?_ ?_ _); rotate_left; focus (first | omega | (simp; done) | (simp; omega))))); exact h9) (by omega) (by first | omega | (simp; omega))
        (repeat (first | assumption | (with_reducible exact Below.refl _ _) | (with_reducible refine Below.drewN ?_ _) | (with_reducible refine Below.drew ?_) | (with_reducible refine Below.allocS ?_ _) | ((with_reducible refine Below.setCell ?_ ?_ _); rotate_left; focus (first | omega | (simp; done) | (simp; omega))) | (with_reducible refine Below.step ?_ (by assumption))))
      have O8 : Hid (w8.ownsRow (w3.heap.size + 1) 66 2 v8 (k + 1) (fl (evenL n f (k + 1)))) := by
        show World.ownsRow _ _ _ _ _ _ _
        rw [evenL_snoc, fl_append]
        exact ho8
      have T8 : Hid (w8.ownsRow (w.heap.size + 1) 22 1 (.slice (some ⟨g, 0, none⟩) m m) m (fl (evenS n x k))) := ownsRow_kept (by have h9 := OA1.out; (repeat (first | (with_reducible refine World.ownsRow.alloc ?_ _) | (with_reducible refine ownsRow_drewN ?_ _) | ((with_reducible refine ownsRow_setCell_below ?_ ?_ _); rotate_left; focus (first | omega | (simp; done) | (simp; omega))))); exact h9) (Kept.of_grown hg8) (fun j hj hm => hne8 j (List.mem_singleton.1 hm).symm hj)
      obtain ⟨c8, s8, t8, rfl⟩ := ownsRow_shape ho8
      have hz8 := hb8.size
      have hzg : wr.heap.size ≤ w8.heap.size := Nat.le_trans (by simp) hg8.size
      have HK8 := Lib.hid hk8
      simp only [Held, and_true] at hk8
      clear ho8 hg8 hne8 hH
      have hlen := evenS_length n x k
      rw [← HM.out] at hlen
      have f1 := (T8.out.cellAt (q + k) (by omega)).trans (fl_get (l := evenS n x k) (by omega))
      have z1 := T8.out.frozenAt (q + k)
      obtain ⟨w6, hw6⟩ : ∃ w6, w6 = w8.setCell ⟨w3.heap.size, 0, none⟩ (.slice c8 s8 t8) := ⟨_, rfl⟩
      have K6 : Kept w8 w6 [some w3.heap.size] := by rw [hw6]; exact kept_one _ _ _ _
      have Z0 : Hid (w6.ownsRow (w3.heap.size + 1) 66 2 (.slice c8 s8 t8) (k + 1) (fl (evenL n f (k + 1)))) := ownsRow_kept O8.out K6 (fun j hj hm => by have h1 := (ownsRow_lt O8.out j hj).1; have h2 := List.mem_singleton.1 hm; cases h2; omega)
      have Z1 : Hid (w6.ownsRow (w.heap.size + 1) 22 1 (.slice (some ⟨g, 0, none⟩) m m) m (fl (evenS n x k))) := ownsRow_kept T8.out K6 (fun j hj hm => by have h1 := own_some hj; have h2 := List.mem_singleton.1 hm; cases h2; omega)
      obtain ⟨w5, hw5⟩ : ∃ w5, w5 = w6.setCell ⟨g, q + k, none⟩ (.float .f32 0) := ⟨_, rfl⟩
      have S5 := Z1.out.stored (q + k) (.float .f32 0)
      rw [← hw5, fl_set] at S5
      have K5 : Kept w6 w5 [some g] := Kept.of_grown S5.2
      have Y1 : Hid (w5.ownsRow (w.heap.size + 1) 22 1 (.slice (some ⟨g, 0, none⟩) m m) m (fl (evenS n x (k + 1)))) := by
        show World.ownsRow _ _ _ _ _ _ _
        rw [show evenS n x (k + 1) = (evenS n x k).set (q + k) 0 by rw [HQ.out]; rfl]
        exact S5.1
      have Y0 : Hid (w5.ownsRow (w3.heap.size + 1) 66 2 (.slice c8 s8 t8) (k + 1) (fl (evenL n f (k + 1)))) := ownsRow_kept Z0.out K5 (fun j hj hm => by have h1 := (ownsRow_lt Z0.out j hj).1; have h2 := List.mem_singleton.1 hm; cases h2; omega)
      have hk5 : Hid (Held [(⟨w3.heap.size, 0, none⟩, .slice c8 s8 t8), (⟨w3.heap.size, 1, none⟩, .slice (some ⟨g, 0, none⟩) m m), (⟨w.heap.size, 0, none⟩, .slice none 0 0), (⟨w.heap.size, 1, none⟩, .slice none 0 0)] w5) := by
        show Held _ _
        rw [hw5, hw6]
        simp [Held, go_sem, *]
      have hB5 : Below w.heap.size w w5 := (hb8.trans (K6.toBelow (by omega) (fun j hj => by have h2 := List.mem_singleton.1 hj; cases h2; omega))).trans (K5.toBelow (by have := K6.size; omega) (fun j hj => by have h2 := List.mem_singleton.1 hj; cases h2; omega))
      have hz5 : w3.heap.size + 1 ≤ w5.heap.size := by have := K6.size; have := K5.size; omega
      clear K6 K5 S5 Z0 Z1 O8 T8 HK8
      go_wp2_with fail
      rw [← hw6, ← hw5]
      clear hw5 hw6 hk8 f1 z1
      go_roundw
      case rel => exact ⟨k + 1, .slice c8 s8 t8, hlt, by go_num, hk5.out, Y0.out, Y1.out, hB5, hz5⟩
      case measure => simp [intOf]; omega
    · have d1 : decide ((k : Int) < (n : Int)) = false := decide_eq_false (by omega)
      obtain rfl : k = n := by omega
      have T1 : Hid (wr.ownsRow (w.heap.size + 1) 22 1 (.slice (some ⟨g, 0, none⟩) m m) m (fl (evenR k x k))) := by show World.ownsRow _ _ _ _ _ _ _; rw [← evenS_all x k hn]; exact OA1.out
      clear OA1
      cases hv : clocksB k (evenL k f k) m (evenR k x k)
      · go_wp2_with (first | (go_at_call 56; refine (implValidClocks_any _ _ k m _ _ _ (ownsRow_rowAt OA0.out) (ownsRow_rowAt T1.out)).mono ?_; rintro e w4 ⟨rfl, hb4⟩; rw [hv]; have hk4 := Held.below hb4 (l := [(⟨w3.heap.size, 0, none⟩, .slice c0 s0 t0), (⟨w3.heap.size, 1, none⟩, .slice (some ⟨g, 0, none⟩) m m), (⟨w.heap.size, 0, none⟩, .slice none 0 0), (⟨w.heap.size, 1, none⟩, .slice none 0 0)]) (by simp [Held, *]); simp only [Held, and_true] at hk4; have Y0 := Lib.hid (ownsRow_below OA0.out hb4); have Y1 := Lib.hid (ownsRow_below T1.out hb4)))
        refine bodyPost_ret (v := ?_) (by first | (simp [results, Try.results16, go_sem, *]; rfl) | (simp [results, Try.results16, go_sem, *]; done)) rfl ?_
        rw [hv]
        refine ⟨_, _, rfl, ownsRow_nil', ownsRow_nil', (fun i hi => by cases hi), ?_⟩
        (repeat (first | assumption | (with_reducible exact Below.refl _ _) | (with_reducible refine Below.drewN ?_ _) | (with_reducible refine Below.drew ?_) | (with_reducible refine Below.allocS ?_ _) | ((with_reducible refine Below.setCell ?_ ?_ _); rotate_left; focus (first | omega | (simp; done) | (simp; omega))) | (with_reducible refine Below.step ?_ (by assumption))))
      · go_wp2_with (first | (go_at_call 56; refine (implValidClocks_any _ _ k m _ _ _ (ownsRow_rowAt OA0.out) (ownsRow_rowAt T1.out)).mono ?_; rintro e w4 ⟨rfl, hb4⟩; rw [hv]; have hk4 := Held.below hb4 (l := [(⟨w3.heap.size, 0, none⟩, .slice c0 s0 t0), (⟨w3.heap.size, 1, none⟩, .slice (some ⟨g, 0, none⟩) m m), (⟨w.heap.size, 0, none⟩, .slice none 0 0), (⟨w.heap.size, 1, none⟩, .slice none 0 0)]) (by simp [Held, *]); simp only [Held, and_true] at hk4; have Y0 := Lib.hid (ownsRow_below OA0.out hb4); have Y1 := Lib.hid (ownsRow_below T1.out hb4)))
        refine bodyPost_ret (v := ?_) (by first | (simp [results, Try.results16, go_sem, *]; rfl) | (simp [results, Try.results16, go_sem, *]; done)) rfl ?_
        rw [hv]
        refine ⟨_, _, rfl, ?_, ?_, hne8, ?_⟩
        · refine ownsRow_base (base := w3.heap.size + 1) (by omega) ?_
          have := Y0.out
          (repeat (first | (with_reducible refine World.ownsRow.alloc ?_ _) | (with_reducible refine ownsRow_drewN ?_ _) | ((with_reducible refine ownsRow_setCell_below ?_ ?_ _); rotate_left; focus (first | omega | (simp; done) | (simp; omega)))))
          exact this
        · refine ownsRow_base (base := w.heap.size + 1) (by omega) ?_
          have := Y1.out
          (repeat (first | (with_reducible refine World.ownsRow.alloc ?_ _) | (with_reducible refine ownsRow_drewN ?_ _) | ((with_reducible refine ownsRow_setCell_below ?_ ?_ _); rotate_left; focus (first | omega | (simp; done) | (simp; omega)))))
          exact this
        · (repeat (first | assumption | (with_reducible exact Below.refl _ _) | (with_reducible refine Below.drewN ?_ _) | (with_reducible refine Below.drew ?_) | (with_reducible refine Below.allocS ?_ _) | ((with_reducible refine Below.setCell ?_ ?_ _); rotate_left; focus (first | omega | (simp; done) | (simp; omega))) | (with_reducible refine Below.step ?_ (by assumption))))

end Go.Proofs.Ytifdcoambehekaa
