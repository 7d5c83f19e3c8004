/-
  The walks of an escapement that runs; the law RunEscape.
-/
import Derived.Test.YtciamnnfnbmjpaaWg
import Derived.Test.YtciamnnfnbmjpaaSb
import Derived.Test.YtciamnnfnbmjpaaTa
set_option linter.unusedVariables false
set_option linter.unusedSimpArgs false
namespace Go.Proofs.Ytciamnnfnbmjpaa
open Go.RowKit

def inE (n lo hi : Int) : Bool := decide (lo ≤ n) && decide (n ≤ hi)
def uptoE (p : Nat → Bool) (n : Nat) : Bool := (List.range n).all p
theorem uptoE_false {p : Nat → Bool} {n k : Nat} (hk : k < n) (h : p k = false) : uptoE p n = false := by
  unfold uptoE
  rw [List.all_eq_false]
  exact ⟨k, List.mem_range.2 hk, by rw [h]; decide⟩
theorem uptoE_succ (p : Nat → Bool) (n : Nat) : uptoE p (n + 1) = (uptoE p n && p n) := by unfold uptoE; rw [List.range_succ, List.all_append]; simp
def cNE (b : Bool) (n : Nat) : Nat := if b then n else 0
def cLE (b : Bool) (l : List Nat) : List Nat := if b then l else []
/-- The swing behind 'k' beats. -/
def escS (z0 z1 z2 z3 : Nat) : Nat → Nat
  | 0 => z0
  | k + 1 => escQ (escS z0 z1 z2 z3 k) z1 z2 z3
def escL (z0 z1 z2 z3 k : Nat) : List Nat := (List.range (k + 1)).map (escS z0 z1 z2 z3)
def runEB (z0 z1 z2 z3 : Nat) (i : Int) : Bool := (escB z0 z1 z2 z3 && inE i 0 64) && uptoE (fun j => finB .f32 (escS z0 z1 z2 z3 (j + 1))) i.toNat
theorem escL_snoc (z0 z1 z2 z3 k : Nat) : escL z0 z1 z2 z3 (k + 1) = escL z0 z1 z2 z3 k ++ [escS z0 z1 z2 z3 (k + 1)] := by unfold escL; rw [List.range_succ, List.map_append]; rfl
def GiveE (n : Nat) (l : List Nat) (b : Bool) (w : World) (e : Ending) (w' : World) : Prop :=
  ∃ v, e = .returned (.tuple #[v, .bool b]) ∧ w'.ownsRow w.heap.size 22 1 v n (fl l) ∧ Below w.heap.size w w'
theorem grown_belowE {B : Nat} {w a b : World} {base : Nat} {e : TypeId} {c n : Nat} {v : Value} {xs : List Value} (hb : Below B w a) (hg : a.grownBy b v.ownBlock) (ho : a.ownsRow base e c v n xs) (hB : B ≤ base) (h : B ≤ a.heap.size) : Below B w b :=
  hb.grown hg h (fun k hk => Nat.le_trans hB (ownsRow_lt ho k hk).1)
theorem float_oneE (r : Nat) : ∀ u ∈ [Value.float .f32 r], u.oneCell' = true := by
  intro u hu
  rw [List.mem_singleton.1 hu]
  rfl
theorem exact_ofE {k : FloatKind} {r X : Nat} (h : cn k r = X) (hn : isN k X = false) : r = X := by
  cases hr : isN k r
  · rw [← h, cn_of_not hr]
  · rw [cn_of_nan hr] at h
    rw [← h, isN_nanOf] at hn
    cases hn
theorem l00InE_any (n lo hi : Int) (w : World) : Calls Try.prog 81 #[.int .i64 n, .int .i64 lo, .int .i64 hi] w fun e w' => e = .returned (.bool (inE n lo hi)) ∧ w' = w := by
  cases h1 : decide (lo ≤ n) <;> cases h2 : decide (n ≤ hi)
  all_goals
    go_enter Try.func81, Try.ntmps81
    go_wp2
    go_ret
    exact ⟨ret_bool (by unfold inE; rw [h1, h2]; rfl), rfl⟩
theorem inE_any (n lo hi : Int) (w : World) : Calls Try.prog 82 #[.int .i64 n, .int .i64 lo, .int .i64 hi] w fun e w' => e = .returned (.bool (inE n lo hi)) ∧ w' = w := by
  cases h1 : decide (lo ≤ n) <;> cases h2 : decide (n ≤ hi)
  all_goals
    go_enter Try.func82, Try.ntmps82
    go_wp2
    go_ret
    exact ⟨ret_bool (by unfold inE; rw [h1, h2]; rfl), rfl⟩

set_option maxRecDepth 100000 in
set_option maxHeartbeats 8000000 in
theorem specRunEscape_any (z0 z1 z2 z3 : Nat) (i : Int) (w : World) : Calls Try.prog 39 #[.float .f32 z0, .float .f32 z1, .float .f32 z2, .float .f32 z3, .int .i64 i] w (GiveE (cNE (runEB z0 z1 z2 z3 i) (i.toNat + 1)) (cLE (runEB z0 z1 z2 z3 i) (escL z0 z1 z2 z3 i.toNat)) (runEB z0 z1 z2 z3 i) w) := by
  have HB : Hid (runEB z0 z1 z2 z3 i = ((escB z0 z1 z2 z3 && inE i 0 64) && uptoE (fun j => finB .f32 (escS z0 z1 z2 z3 (j + 1))) i.toNat)) := rfl
  cases he : escB z0 z1 z2 z3
  · have HF : Hid (runEB z0 z1 z2 z3 i = false) := by show _ = _; rw [HB.out, he]; rfl
    go_enter Try.func39, Try.ntmps39
    go_wp2_with (first | (go_at_call 54; refine (l05Escape_any _ _ _ _ _).mono ?_; rintro e w' ⟨n9, rfl, rfl⟩; rw [he]) | (go_at_call 81; refine (l00InE_any _ _ _ _).mono ?_; rintro e w' ⟨rfl, e9⟩; subst w'; rw [hz]))
    go_ret2
    rw [HF.out]
    refine ⟨_, rfl, ownsRow_nil', ?_⟩
    (repeat (first | assumption | (with_reducible exact Below.refl _ _) | (with_reducible refine Below.drewN ?_ _) | (with_reducible refine Below.drew ?_) | (with_reducible refine Below.allocS ?_ _) | ((with_reducible refine Below.setCell ?_ ?_ _); rotate_left; focus (first | omega | (simp; done) | (simp; omega))) | (with_reducible refine Below.step ?_ (by assumption))))
  cases hz : inE i 0 64
  · have HF : Hid (runEB z0 z1 z2 z3 i = false) := by show _ = _; rw [HB.out, hz, Bool.and_false, Bool.false_and]
    go_enter Try.func39, Try.ntmps39
    go_wp2_with (first | (go_at_call 54; refine (l05Escape_any _ _ _ _ _).mono ?_; rintro e w' ⟨n9, rfl, rfl⟩; rw [he]) | (go_at_call 81; refine (l00InE_any _ _ _ _).mono ?_; rintro e w' ⟨rfl, e9⟩; subst w'; rw [hz]))
    go_ret2
    rw [HF.out]
    refine ⟨_, rfl, ownsRow_nil', ?_⟩
    (repeat (first | assumption | (with_reducible exact Below.refl _ _) | (with_reducible refine Below.drewN ?_ _) | (with_reducible refine Below.drew ?_) | (with_reducible refine Below.allocS ?_ _) | ((with_reducible refine Below.setCell ?_ ?_ _); rotate_left; focus (first | omega | (simp; done) | (simp; omega))) | (with_reducible refine Below.step ?_ (by assumption))))
  obtain ⟨T, rfl⟩ : ∃ T : Nat, i = (T : Int) := ⟨i.toNat, by unfold inE at hz; simp at hz; omega⟩
  have hT : T ≤ 64 := by unfold inE at hz; simp at hz; omega
  have HB2 : Hid (runEB z0 z1 z2 z3 (T : Int) = uptoE (fun j => finB .f32 (escS z0 z1 z2 z3 (j + 1))) T) := by show _ = _; rw [HB.out, he, hz]; rfl
  obtain ⟨i0, hi0, hz0, hz1, hz2⟩ := info_parts info_Float32
  clear HB
  simp only [Int.toNat_natCast]
  go_enter Try.func39, Try.ntmps39
  go_wp2_with (first | (go_at_call 54; refine (l05Escape_any _ _ _ _ _).mono ?_; rintro e w' ⟨n9, rfl, rfl⟩; rw [he]) | (go_at_call 81; refine (l00InE_any _ _ _ _).mono ?_; rintro e w' ⟨rfl, e9⟩; subst w'; rw [hz]))
  go_loopw [4, 0, 12] (fun jv sv uv wr => ∃ k : Nat, k ≤ T ∧ jv = .int .i64 ((T : Int) - (k : Int)) ∧ sv = .float .f32 (escS z0 z1 z2 z3 k) ∧ uptoE (fun j => finB .f32 (escS z0 z1 z2 z3 (j + 1))) k = true ∧ wr.ownsRow w.heap.size 22 1 uv (k + 1) (fl (escL z0 z1 z2 z3 k)) ∧ Below w.heap.size w wr) (fun jv _ _ _ => (intOf jv).toNat)
  case atStart =>
    refine ⟨0, Nat.zero_le _, by simp, rfl, rfl, ?_, by (repeat (first | assumption | (with_reducible exact Below.refl _ _) | (with_reducible refine Below.drewN ?_ _) | (with_reducible refine Below.drew ?_) | (with_reducible refine Below.allocS ?_ _) | ((with_reducible refine Below.setCell ?_ ?_ _); rotate_left; focus (first | omega | (simp; done) | (simp; omega))) | (with_reducible refine Below.step ?_ (by assumption))))⟩
    repeat (with_reducible refine ownsRow_drewN ?_ _)
    first | exact (World.ownsRow_lit (base := w.heap.size) (e := 22) (size := 1) w #[.float .f32 z0] 1 (Nat.le_refl _) (by decide) rfl) | (have h9 := World.ownsRow_lit (base := w.heap.size) (e := 22) (size := 1) (w.alloc (.cells #[.float .f32 z0, .float .f32 z1, .float .f32 z2, .float .f32 z3] 22)) #[.float .f32 z0] 1 (by simp) (by decide) rfl; simp only [World.size_alloc] at h9; exact h9)
  case round =>
    obtain ⟨k, hk, rfl, rfl, hup, ho, hBr⟩ := hrel
    have UP := Lib.hid hup
    have OV := Lib.hid ho
    have hzr := hBr.size
    clear ho hup
    by_cases hlt : k < T
    · have d1 : decide ((0 : Int) < (T : Int) - (k : Int)) = true := decide_eq_true (by omega)
      cases e1 : finB .f32 (escS z0 z1 z2 z3 (k + 1))
      all_goals have E1 := Lib.hid e1
      · clear e1
        go_wp2_with (first | (go_at_call 56; refine (l05Once_any _ _ _ _ _).mono ?_; rintro e w' ⟨r, n8, rfl, hq, rfl⟩; have hfr : finB .f32 r = finB .f32 (escS z0 z1 z2 z3 (k + 1)) := (by rw [← finB_cn, hq]; rfl); rw [E1.out] at hfr; have HFR := Lib.hid hfr; clear hfr; have HQ := Lib.hid hq; clear hq) | (go_at_call 64; refine (l01Finite_any _ _).mono ?_; rintro e w' ⟨n9, rfl, rfl⟩; rw [HFR.out]))
        go_ret2
        rw [HB2.out, uptoE_false hlt E1.out]
        refine ⟨_, rfl, ownsRow_nil', ?_⟩
        (repeat (first | assumption | (with_reducible exact Below.refl _ _) | (with_reducible refine Below.drewN ?_ _) | (with_reducible refine Below.drew ?_) | (with_reducible refine Below.allocS ?_ _) | ((with_reducible refine Below.setCell ?_ ?_ _); rotate_left; focus (first | omega | (simp; done) | (simp; omega))) | (with_reducible refine Below.step ?_ (by assumption))))
      · clear e1
        go_wp2_with fail
        refine (l05Once_any _ _ _ _ _).mono ?_
        rintro e w5 ⟨r, n8, rfl, hq, e9⟩
        obtain rfl : r = escS z0 z1 z2 z3 (k + 1) := exact_ofE hq (isN_of_fin E1.out)
        clear hq
        subst w5
        go_wp2_with (first | (go_at_call 64; refine (l01Finite_any _ _).mono ?_; rintro e w' ⟨n9, rfl, rfl⟩; rw [E1.out]) | (at_builtin; refine wpList_append_own_at _ rfl _ _ 70 rfl w.heap.size 22 i0 (.float .f32 0) 1 4 Try.underlying70 hi0 hz0 hz1 hz2 rfl (by decide) _ (k + 1) (fl (escL z0 z1 z2 z3 k)) rfl (by have h9 := OV.out; (repeat (first | (with_reducible refine World.ownsRow.alloc ?_ _) | (with_reducible refine ownsRow_drewN ?_ _) | ((with_reducible refine ownsRow_setCell_below ?_ ?_ _); rotate_left; focus (first | omega | (simp; done) | (simp; omega))))); exact h9) ⟨_, 0, none⟩ 1 1 [.float .f32 _] rfl rfl (cell_one_new _ _ _) (float_oneE _) (by simp only [maxLen]; omega) (by omega) (by first | omega | (simp; omega)) ?_))
        intro v8 w8 ho8 hg8 _ _
        have hB8 : Below w.heap.size w w8 := by
          refine grown_belowE (w := w) ?_ hg8 (base := w.heap.size) (e := 22) (c := 1) (n := k + 1) (xs := fl (escL z0 z1 z2 z3 k)) (by have h9 := OV.out; (repeat (first | (with_reducible refine World.ownsRow.alloc ?_ _) | (with_reducible refine ownsRow_drewN ?_ _) | ((with_reducible refine ownsRow_setCell_below ?_ ?_ _); rotate_left; focus (first | omega | (simp; done) | (simp; omega))))); exact h9) (Nat.le_refl _) (by first | omega | (simp; omega))
          (repeat (first | assumption | (with_reducible exact Below.refl _ _) | (with_reducible refine Below.drewN ?_ _) | (with_reducible refine Below.drew ?_) | (with_reducible refine Below.allocS ?_ _) | ((with_reducible refine Below.setCell ?_ ?_ _); rotate_left; focus (first | omega | (simp; done) | (simp; omega))) | (with_reducible refine Below.step ?_ (by assumption))))
        have O8 : Hid (w8.ownsRow w.heap.size 22 1 v8 (k + 1 + 1) (fl (escL z0 z1 z2 z3 (k + 1)))) := by
          show World.ownsRow _ _ _ _ _ _ _
          rw [escL_snoc, fl_append]
          exact ho8
        clear ho8 hg8
        go_wp2_with fail
        go_roundw
        case rel => exact ⟨k + 1, hlt, (by first | go_num | (congr 1; omega)), rfl, (by rw [uptoE_succ, UP.out, E1.out]; rfl), O8.out, hB8⟩
        case measure => simp [intOf]; omega
    · obtain rfl : k = T := by omega
      have d1 : decide ((0 : Int) < (k : Int) - (k : Int)) = false := decide_eq_false (by omega)
      go_wp2_with fail
      go_ret2
      rw [HB2.out, UP.out]
      exact ⟨_, rfl, OV.out, by (repeat (first | assumption | (with_reducible exact Below.refl _ _) | (with_reducible refine Below.drewN ?_ _) | (with_reducible refine Below.drew ?_) | (with_reducible refine Below.allocS ?_ _) | ((with_reducible refine Below.setCell ?_ ?_ _); rotate_left; focus (first | omega | (simp; done) | (simp; omega))) | (with_reducible refine Below.step ?_ (by assumption))))⟩

theorem specRunEscape_lit {z0 z1 z2 z3 : Nat} {i : Int} {B : Bool} (hB : runEB z0 z1 z2 z3 i = B) (w : World) : Calls Try.prog 39 #[.float .f32 z0, .float .f32 z1, .float .f32 z2, .float .f32 z3, .int .i64 i] w (GiveE (cNE B (i.toNat + 1)) (cLE B (escL z0 z1 z2 z3 i.toNat)) B w) := hB ▸ specRunEscape_any z0 z1 z2 z3 i w

set_option maxRecDepth 100000 in
set_option maxHeartbeats 8000000 in
theorem implRunEscape_any (z0 z1 z2 z3 : Nat) (i : Int) (w : World) : Calls Try.prog 40 #[.float .f32 z0, .float .f32 z1, .float .f32 z2, .float .f32 z3, .int .i64 i] w (GiveE (cNE (runEB z0 z1 z2 z3 i) (i.toNat + 1)) (cLE (runEB z0 z1 z2 z3 i) (escL z0 z1 z2 z3 i.toNat)) (runEB z0 z1 z2 z3 i) w) := by
  have HB : Hid (runEB z0 z1 z2 z3 i = ((escB z0 z1 z2 z3 && inE i 0 64) && uptoE (fun j => finB .f32 (escS z0 z1 z2 z3 (j + 1))) i.toNat)) := rfl
  have hsp := esc_split z0 z1 z2 z3
  cases h1 : fin4 z0 z1 z2 z3
  · have HF : Hid (runEB z0 z1 z2 z3 i = false) := by show _ = _; rw [HB.out, hsp, h1]; rfl
    go_enter Try.func40, Try.ntmps40
    go_wp2_with fail
    refine (finite4_any z0 z1 z2 z3 _ _ ?_ ?_ ?_ ?_).mono ?_
    all_goals (try (simp [go_sem]; done))
    rintro e w' ⟨n9, rfl, rfl⟩
    rw [h1]
    go_wp2_with (first | (go_at_call 58; refine (keepOk_any _ _).mono ?_; rintro e w' ⟨n9, rfl, rfl⟩; rw [h2]) | (go_at_call 82; refine (inE_any _ _ _ _).mono ?_; rintro e w' ⟨rfl, e9⟩; subst w'; rw [hz]))
    go_ret2
    rw [HF.out]
    refine ⟨_, rfl, ownsRow_nil', ?_⟩
    (repeat (first | assumption | (with_reducible exact Below.refl _ _) | (with_reducible refine Below.drewN ?_ _) | (with_reducible refine Below.drew ?_) | (with_reducible refine Below.allocS ?_ _) | ((with_reducible refine Below.setCell ?_ ?_ _); rotate_left; focus (first | omega | (simp; done) | (simp; omega))) | (with_reducible refine Below.step ?_ (by assumption))))
  cases h2 : keepB z1
  · have HF : Hid (runEB z0 z1 z2 z3 i = false) := by show _ = _; rw [HB.out, hsp, h1, h2]; rfl
    go_enter Try.func40, Try.ntmps40
    go_wp2_with fail
    refine (finite4_any z0 z1 z2 z3 _ _ ?_ ?_ ?_ ?_).mono ?_
    all_goals (try (simp [go_sem]; done))
    rintro e w' ⟨n9, rfl, rfl⟩
    rw [h1]
    go_wp2_with (first | (go_at_call 58; refine (keepOk_any _ _).mono ?_; rintro e w' ⟨n9, rfl, rfl⟩; rw [h2]) | (go_at_call 82; refine (inE_any _ _ _ _).mono ?_; rintro e w' ⟨rfl, e9⟩; subst w'; rw [hz]))
    go_ret2
    rw [HF.out]
    refine ⟨_, rfl, ownsRow_nil', ?_⟩
    (repeat (first | assumption | (with_reducible exact Below.refl _ _) | (with_reducible refine Below.drewN ?_ _) | (with_reducible refine Below.drew ?_) | (with_reducible refine Below.allocS ?_ _) | ((with_reducible refine Below.setCell ?_ ?_ _); rotate_left; focus (first | omega | (simp; done) | (simp; omega))) | (with_reducible refine Below.step ?_ (by assumption))))
  have he : escB z0 z1 z2 z3 = true := by rw [hsp, h1, h2]; rfl
  clear hsp
  cases hz : inE i 0 64
  · have HF : Hid (runEB z0 z1 z2 z3 i = false) := by show _ = _; rw [HB.out, hz, Bool.and_false, Bool.false_and]
    go_enter Try.func40, Try.ntmps40
    go_wp2_with fail
    refine (finite4_any z0 z1 z2 z3 _ _ ?_ ?_ ?_ ?_).mono ?_
    all_goals (try (simp [go_sem]; done))
    rintro e w' ⟨n9, rfl, rfl⟩
    rw [h1]
    go_wp2_with (first | (go_at_call 58; refine (keepOk_any _ _).mono ?_; rintro e w' ⟨n9, rfl, rfl⟩; rw [h2]) | (go_at_call 82; refine (inE_any _ _ _ _).mono ?_; rintro e w' ⟨rfl, e9⟩; subst w'; rw [hz]))
    go_ret2
    rw [HF.out]
    refine ⟨_, rfl, ownsRow_nil', ?_⟩
    (repeat (first | assumption | (with_reducible exact Below.refl _ _) | (with_reducible refine Below.drewN ?_ _) | (with_reducible refine Below.drew ?_) | (with_reducible refine Below.allocS ?_ _) | ((with_reducible refine Below.setCell ?_ ?_ _); rotate_left; focus (first | omega | (simp; done) | (simp; omega))) | (with_reducible refine Below.step ?_ (by assumption))))
  obtain ⟨T, rfl⟩ : ∃ T : Nat, i = (T : Int) := ⟨i.toNat, by unfold inE at hz; simp at hz; omega⟩
  have hT : T ≤ 64 := by unfold inE at hz; simp at hz; omega
  have HB2 : Hid (runEB z0 z1 z2 z3 (T : Int) = uptoE (fun j => finB .f32 (escS z0 z1 z2 z3 (j + 1))) T) := by show _ = _; rw [HB.out, he, hz]; rfl
  obtain ⟨i0, hi0, hz0, hz1, hz2⟩ := info_parts info_Float32
  clear HB
  simp only [Int.toNat_natCast]
  go_enter Try.func40, Try.ntmps40
  go_wp2_with fail
  refine (finite4_any z0 z1 z2 z3 _ _ ?_ ?_ ?_ ?_).mono ?_
  all_goals (try (simp [go_sem]; done))
  rintro e w' ⟨n9, rfl, rfl⟩
  rw [h1]
  go_wp2_with (first | (go_at_call 58; refine (keepOk_any _ _).mono ?_; rintro e w' ⟨n9, rfl, rfl⟩; rw [h2]) | (go_at_call 82; refine (inE_any _ _ _ _).mono ?_; rintro e w' ⟨rfl, e9⟩; subst w'; rw [hz]))
  go_loopw [35, 0, 12] (fun jv sv uv wr => ∃ k : Nat, k ≤ T ∧ jv = .int .i64 ((k : Int)) ∧ sv = .float .f32 (escS z0 z1 z2 z3 k) ∧ uptoE (fun j => finB .f32 (escS z0 z1 z2 z3 (j + 1))) k = true ∧ wr.ownsRow w.heap.size 22 1 uv (k + 1) (fl (escL z0 z1 z2 z3 k)) ∧ Below w.heap.size w wr) (fun jv _ _ _ => T - (intOf jv).toNat)
  case atStart =>
    refine ⟨0, Nat.zero_le _, by simp, rfl, rfl, ?_, by (repeat (first | assumption | (with_reducible exact Below.refl _ _) | (with_reducible refine Below.drewN ?_ _) | (with_reducible refine Below.drew ?_) | (with_reducible refine Below.allocS ?_ _) | ((with_reducible refine Below.setCell ?_ ?_ _); rotate_left; focus (first | omega | (simp; done) | (simp; omega))) | (with_reducible refine Below.step ?_ (by assumption))))⟩
    repeat (with_reducible refine ownsRow_drewN ?_ _)
    first | exact (World.ownsRow_lit (base := w.heap.size) (e := 22) (size := 1) w #[.float .f32 z0] 1 (Nat.le_refl _) (by decide) rfl) | (have h9 := World.ownsRow_lit (base := w.heap.size) (e := 22) (size := 1) (w.alloc (.cells #[.float .f32 z0, .float .f32 z1, .float .f32 z2, .float .f32 z3] 22)) #[.float .f32 z0] 1 (by simp) (by decide) rfl; simp only [World.size_alloc] at h9; exact h9)
  case round =>
    obtain ⟨k, hk, rfl, rfl, hup, ho, hBr⟩ := hrel
    have UP := Lib.hid hup
    have OV := Lib.hid ho
    have hzr := hBr.size
    clear ho hup
    by_cases hlt : k < T
    · have d1 : decide ((k : Int) < (T : Int)) = true := decide_eq_true (by omega)
      cases e1 : finB .f32 (escS z0 z1 z2 z3 (k + 1))
      all_goals have E1 := Lib.hid e1
      all_goals
        have hpe : escB (escS z0 z1 z2 z3 k) z1 z2 z3 = true := by
          have hf : finB .f32 (escS z0 z1 z2 z3 k) = true := by
            cases k with
            | zero => unfold escB at he; simp only [Bool.and_eq_true] at he; exact he.1.1.1
            | succ q => have h7 := UP.out; rw [uptoE_succ] at h7; simp only [Bool.and_eq_true] at h7; exact h7.2
          unfold escB at he ⊢
          simp only [Bool.and_eq_true] at he ⊢
          exact ⟨⟨⟨hf, he.1.1.2⟩, he.1.2⟩, he.2⟩
        have hre : escR (escS z0 z1 z2 z3 k) z1 z2 z3 = finB .f32 (escS z0 z1 z2 z3 (k + 1)) := by unfold escR; rw [hpe, Bool.true_and]; rfl
        rw [E1.out] at hre
        clear hpe e1
        go_wp2_with fail
        refine (implEscapeOnce_any _ _ _ _ _).mono ?_
        rintro e w5 ⟨r, rfl, hq, hb5⟩
        rw [hre] at hq ⊢
      · go_wp2_with fail
        go_ret2
        rw [HB2.out, uptoE_false hlt E1.out]
        refine ⟨_, rfl, ownsRow_nil', ?_⟩
        (repeat (first | assumption | (with_reducible exact Below.refl _ _) | (with_reducible refine Below.drewN ?_ _) | (with_reducible refine Below.drew ?_) | (with_reducible refine Below.allocS ?_ _) | ((with_reducible refine Below.setCell ?_ ?_ _); rotate_left; focus (first | omega | (simp; done) | (simp; omega))) | (with_reducible refine Below.step ?_ (by assumption))))
      · obtain rfl : r = escS z0 z1 z2 z3 (k + 1) := exact_ofE hq (isN_of_fin E1.out)
        clear hq hre
        have B5 : Below wr.heap.size wr w5 := by
          refine Below.step ?_ hb5
          (repeat (first | (with_reducible exact Below.refl _ _) | (with_reducible refine Below.drewN ?_ _) | (with_reducible refine Below.drew ?_) | (with_reducible refine Below.allocS ?_ _) | ((with_reducible refine Below.setCell ?_ ?_ _); rotate_left; focus (first | omega | (simp; done) | (simp; omega)))))
        have hB5 : Below w.heap.size w w5 := by (repeat (first | assumption | (with_reducible exact Below.refl _ _) | (with_reducible refine Below.drewN ?_ _) | (with_reducible refine Below.drew ?_) | (with_reducible refine Below.allocS ?_ _) | ((with_reducible refine Below.setCell ?_ ?_ _); rotate_left; focus (first | omega | (simp; done) | (simp; omega))) | (with_reducible refine Below.step ?_ (by assumption))))
        have hz5 := B5.size
        replace OV := Lib.hid (ownsRow_below OV.out B5)
        go_wp2_with (first | (at_builtin; refine wpList_append_own_at _ rfl _ _ 70 rfl w.heap.size 22 i0 (.float .f32 0) 1 4 Try.underlying70 hi0 hz0 hz1 hz2 rfl (by decide) _ (k + 1) (fl (escL z0 z1 z2 z3 k)) rfl (by have h9 := OV.out; (repeat (first | (with_reducible refine World.ownsRow.alloc ?_ _) | (with_reducible refine ownsRow_drewN ?_ _) | ((with_reducible refine ownsRow_setCell_below ?_ ?_ _); rotate_left; focus (first | omega | (simp; done) | (simp; omega))))); exact h9) ⟨_, 0, none⟩ 1 1 [.float .f32 _] rfl rfl (cell_one_new _ _ _) (float_oneE _) (by simp only [maxLen]; omega) (by omega) (by first | omega | (simp; omega)) ?_))
        intro v8 w8 ho8 hg8 _ _
        have hB8 : Below w.heap.size w w8 := by
          refine grown_belowE (w := w) ?_ hg8 (base := w.heap.size) (e := 22) (c := 1) (n := k + 1) (xs := fl (escL z0 z1 z2 z3 k)) (by have h9 := OV.out; (repeat (first | (with_reducible refine World.ownsRow.alloc ?_ _) | (with_reducible refine ownsRow_drewN ?_ _) | ((with_reducible refine ownsRow_setCell_below ?_ ?_ _); rotate_left; focus (first | omega | (simp; done) | (simp; omega))))); exact h9) (Nat.le_refl _) (by first | omega | (simp; omega))
          (repeat (first | assumption | (with_reducible exact Below.refl _ _) | (with_reducible refine Below.drewN ?_ _) | (with_reducible refine Below.drew ?_) | (with_reducible refine Below.allocS ?_ _) | ((with_reducible refine Below.setCell ?_ ?_ _); rotate_left; focus (first | omega | (simp; done) | (simp; omega))) | (with_reducible refine Below.step ?_ (by assumption))))
        have O8 : Hid (w8.ownsRow w.heap.size 22 1 v8 (k + 1 + 1) (fl (escL z0 z1 z2 z3 (k + 1)))) := by
          show World.ownsRow _ _ _ _ _ _ _
          rw [escL_snoc, fl_append]
          exact ho8
        clear ho8 hg8
        go_wp2_with fail
        go_roundw
        case rel => exact ⟨k + 1, hlt, (by first | go_num | (congr 1; omega)), rfl, (by rw [uptoE_succ, UP.out, E1.out]; rfl), O8.out, hB8⟩
        case measure => simp [intOf]; omega
    · obtain rfl : k = T := by omega
      have d1 : decide ((k : Int) < (k : Int)) = false := decide_eq_false (by omega)
      go_wp2_with fail
      go_ret2
      rw [HB2.out, UP.out]
      exact ⟨_, rfl, OV.out, by (repeat (first | assumption | (with_reducible exact Below.refl _ _) | (with_reducible refine Below.drewN ?_ _) | (with_reducible refine Below.drew ?_) | (with_reducible refine Below.allocS ?_ _) | ((with_reducible refine Below.setCell ?_ ?_ _); rotate_left; focus (first | omega | (simp; done) | (simp; omega))) | (with_reducible refine Below.step ?_ (by assumption))))⟩

theorem implRunEscape_lit {z0 z1 z2 z3 : Nat} {i : Int} {B : Bool} (hB : runEB z0 z1 z2 z3 i = B) (w : World) : Calls Try.prog 40 #[.float .f32 z0, .float .f32 z1, .float .f32 z2, .float .f32 z3, .int .i64 i] w (GiveE (cNE B (i.toNat + 1)) (cLE B (escL z0 z1 z2 z3 i.toNat)) B w) := hB ▸ implRunEscape_any z0 z1 z2 z3 i w

set_option maxRecDepth 100000 in
set_option maxHeartbeats 8000000 in
theorem lawRunEscape_walk (z0 : Nat) (z1 : Nat) (z2 : Nat) (z3 : Nat) (i : Int) (hb_z0 : z0 < 4294967296) (hb_z1 : z1 < 4294967296) (hb_z2 : z2 < 4294967296) (hb_z3 : z3 < 4294967296) (hb_i : (Lit.int .i64 i).wf = true) (w : World) : Calls Try.prog 11 #[.float .f32 z0, .float .f32 z1, .float .f32 z2, .float .f32 z3, .int .i64 i] w fun e w' => e = .returned (.bool true) ∧ Below w.heap.size w w' := by
  go_enter Try.func11, Try.ntmps11
  obtain ⟨B, hB⟩ : ∃ B, runEB z0 z1 z2 z3 i = B := ⟨_, rfl⟩
  have hN9 : cNE B (i.toNat + 1) ≤ 65 := by
    cases B
    · exact Nat.zero_le _
    · unfold runEB at hB
      simp only [Bool.and_eq_true] at hB
      have h9 := hB.1.2
      unfold inE at h9
      simp at h9
      show i.toNat + 1 ≤ 65
      omega
  have HBB := Lib.hid hB
  clear hB
  go_wp2_with fail
  refine (specRunEscape_lit HBB.out _).mono ?_
  rintro e w2 ⟨u0, rfl, ow_u0, c2⟩
  have hkN := Held.below c2 (l := []) (by simp [Held, go_sem, *])
  (try clear hk)
  have hk := hkN
  clear hkN
  simp only [Held, and_true] at hk
  have hBw2 : Below w.heap.size w w2 := by (repeat (first | assumption | (with_reducible exact Below.refl _ _) | (with_reducible refine Below.drewN ?_ _) | (with_reducible refine Below.drew ?_) | (with_reducible refine Below.allocS ?_ _) | ((with_reducible refine Below.setCell ?_ ?_ _); rotate_left; focus (first | omega | (simp; done) | (simp; omega))) | (with_reducible refine Below.step ?_ (by assumption))))
  have hzzw2 := hBw2.size
  have Lu0 := Lib.hid (ownsRow_lt ow_u0)
  (try simp only [World.size_alloc, World.size_setCell, World.heap_drewN] at Lu0)
  have Ou0 := Lib.hid ow_u0
  have Ru0 := Lib.hid (ownsRow_rowAt ow_u0)
  clear ow_u0
  go_wp2_with fail
  refine (implRunEscape_lit HBB.out _).mono ?_
  rintro e w4 ⟨vv0, rfl, ow_vv0, c4⟩
  have hkN := Held.below c4 (l := []) (by simp [Held, go_sem, *])
  (try clear hk)
  have hk := hkN
  clear hkN
  simp only [Held, and_true] at hk
  have hBw4 : Below w.heap.size w w4 := by (repeat (first | assumption | (with_reducible exact Below.refl _ _) | (with_reducible refine Below.drewN ?_ _) | (with_reducible refine Below.drew ?_) | (with_reducible refine Below.allocS ?_ _) | ((with_reducible refine Below.setCell ?_ ?_ _); rotate_left; focus (first | omega | (simp; done) | (simp; omega))) | (with_reducible refine Below.step ?_ (by assumption))))
  have hzzw4 := hBw4.size
  have Lvv0 := Lib.hid (ownsRow_lt ow_vv0)
  (try simp only [World.size_alloc, World.size_setCell, World.heap_drewN] at Lvv0)
  have Ovv0 := Lib.hid ow_vv0
  have Rvv0 := Lib.hid (ownsRow_rowAt ow_vv0)
  clear ow_vv0
  have B4 : Below w2.heap.size w2 w4 := by
    refine Below.step ?_ c4
    (repeat (first | (with_reducible exact Below.refl _ _) | (with_reducible refine Below.drewN ?_ _) | (with_reducible refine Below.drew ?_) | (with_reducible refine Below.allocS ?_ _) | ((with_reducible refine Below.setCell ?_ ?_ _); rotate_left; focus (first | omega | (simp; done) | (simp; omega)))))
  replace Ru0 := Lib.hid (Ru0.out.below B4)
  go_wp2_with fail
  refine (eqFloat32S_any _ _ (cNE B (i.toNat + 1)) (cLE B (escL z0 z1 z2 z3 i.toNat)) (cLE B (escL z0 z1 z2 z3 i.toNat)) _ ?_ ?_ rfl).mono ?_
  · refine RowAt.below Rvv0.out ?_
    (repeat (first | (with_reducible exact Below.refl _ _) | (with_reducible refine Below.drewN ?_ _) | (with_reducible refine Below.drew ?_) | (with_reducible refine Below.allocS ?_ _) | ((with_reducible refine Below.setCell ?_ ?_ _); rotate_left; focus (first | omega | (simp; done) | (simp; omega)))))
  · refine RowAt.below Ru0.out ?_
    (repeat (first | (with_reducible exact Below.refl _ _) | (with_reducible refine Below.drewN ?_ _) | (with_reducible refine Below.drew ?_) | (with_reducible refine Below.allocS ?_ _) | ((with_reducible refine Below.setCell ?_ ?_ _); rotate_left; focus (first | omega | (simp; done) | (simp; omega)))))
  rintro e w5 ⟨rfl, c5x0⟩
  have hkN := Held.below c5x0 (l := []) (by simp [Held, go_sem, *])
  (try clear hk)
  have hk := hkN
  clear hkN
  simp only [Held, and_true] at hk
  have hBw5 : Below w.heap.size w w5 := by (repeat (first | assumption | (with_reducible exact Below.refl _ _) | (with_reducible refine Below.drewN ?_ _) | (with_reducible refine Below.drew ?_) | (with_reducible refine Below.allocS ?_ _) | ((with_reducible refine Below.setCell ?_ ?_ _); rotate_left; focus (first | omega | (simp; done) | (simp; omega))) | (with_reducible refine Below.step ?_ (by assumption))))
  have hzzw5 := hBw5.size
  have B5 : Below w4.heap.size w4 w5 := by
    refine Below.step ?_ c5x0
    (repeat (first | (with_reducible exact Below.refl _ _) | (with_reducible refine Below.drewN ?_ _) | (with_reducible refine Below.drew ?_) | (with_reducible refine Below.allocS ?_ _) | ((with_reducible refine Below.setCell ?_ ?_ _); rotate_left; focus (first | omega | (simp; done) | (simp; omega)))))
  replace Ru0 := Lib.hid (Ru0.out.below B5)
  replace Rvv0 := Lib.hid (Rvv0.out.below B5)
  replace Ovv0 := Lib.hid (ownsRow_below Ovv0.out B5)
  go_wp2_with fail
  go_wp2_with fail
  refine (markFloat32S_any _ _ (1) _ _ _ Ovv0.out (by omega) (by omega)).mono ?_
  rintro e w9x0 ⟨rfl, ow0, G9⟩
  have K9 := Kept.of_grown G9
  have r9 := range_one Lvv0.out
  have C9 : Below w.heap.size w5 w9x0 := Below_range K9 r9 (by omega) (by have := hBw5.size; omega)
  have hBw9x0 : Below w.heap.size w w9x0 := hBw5.trans C9
  replace Ru0 := Lib.hid (RowAt_range K9 r9 (fun i hi => by have := Lu0.out i hi; omega) Ru0.out)
  have Mvv0 := Lib.hid (ownsRow_rowAt ow0)
  clear Rvv0 ow0
  clear K9 r9 C9 G9
  go_wp2_with fail
  refine (heldFloat32S_any _ (cNE B (i.toNat + 1)) (1) _ ?_ (by omega) (by omega)).mono ?_
  · refine RowAt.below Mvv0.out ?_
    (repeat (first | assumption | (with_reducible exact Below.refl _ _) | (with_reducible refine Below.drewN ?_ _) | (with_reducible refine Below.drew ?_) | (with_reducible refine Below.allocS ?_ _) | ((with_reducible refine Below.setCell ?_ ?_ _); rotate_left; focus (first | omega | (simp; done) | (simp; omega))) | (with_reducible refine Below.step ?_ (by assumption))))
  rintro e w9' ⟨rfl, e9⟩
  subst w9'
  go_wp2_with fail
  refine (implRunEscape_lit HBB.out _).mono ?_
  rintro e w12 ⟨h0, rfl, ow_h0, c12⟩
  have hkN := Held.below c12 (l := []) (by simp [Held, go_sem, *])
  (try clear hk)
  have hk := hkN
  clear hkN
  simp only [Held, and_true] at hk
  have hBw12 : Below w.heap.size w w12 := by (repeat (first | assumption | (with_reducible exact Below.refl _ _) | (with_reducible refine Below.drewN ?_ _) | (with_reducible refine Below.drew ?_) | (with_reducible refine Below.allocS ?_ _) | ((with_reducible refine Below.setCell ?_ ?_ _); rotate_left; focus (first | omega | (simp; done) | (simp; omega))) | (with_reducible refine Below.step ?_ (by assumption))))
  have hzzw12 := hBw12.size
  have Lh0 := Lib.hid (ownsRow_lt ow_h0)
  (try simp only [World.size_alloc, World.size_setCell, World.heap_drewN] at Lh0)
  have Oh0 := Lib.hid ow_h0
  have Rh0 := Lib.hid (ownsRow_rowAt ow_h0)
  clear ow_h0
  have B12 : Below w9x0.heap.size w9x0 w12 := by
    refine Below.step ?_ c12
    (repeat (first | (with_reducible exact Below.refl _ _) | (with_reducible refine Below.drewN ?_ _) | (with_reducible refine Below.drew ?_) | (with_reducible refine Below.allocS ?_ _) | ((with_reducible refine Below.setCell ?_ ?_ _); rotate_left; focus (first | omega | (simp; done) | (simp; omega)))))
  replace Ru0 := Lib.hid (Ru0.out.below B12)
  replace Mvv0 := Lib.hid (Mvv0.out.below B12)
  go_wp2_with fail
  refine (eqFloat32S_any _ _ (cNE B (i.toNat + 1)) (cLE B (escL z0 z1 z2 z3 i.toNat)) (cLE B (escL z0 z1 z2 z3 i.toNat)) _ ?_ ?_ rfl).mono ?_
  · refine RowAt.below Rh0.out ?_
    (repeat (first | (with_reducible exact Below.refl _ _) | (with_reducible refine Below.drewN ?_ _) | (with_reducible refine Below.drew ?_) | (with_reducible refine Below.allocS ?_ _) | ((with_reducible refine Below.setCell ?_ ?_ _); rotate_left; focus (first | omega | (simp; done) | (simp; omega)))))
  · refine RowAt.below Ru0.out ?_
    (repeat (first | (with_reducible exact Below.refl _ _) | (with_reducible refine Below.drewN ?_ _) | (with_reducible refine Below.drew ?_) | (with_reducible refine Below.allocS ?_ _) | ((with_reducible refine Below.setCell ?_ ?_ _); rotate_left; focus (first | omega | (simp; done) | (simp; omega)))))
  rintro e w13 ⟨rfl, c13x0⟩
  have hkN := Held.below c13x0 (l := []) (by simp [Held, go_sem, *])
  (try clear hk)
  have hk := hkN
  clear hkN
  simp only [Held, and_true] at hk
  have hBw13 : Below w.heap.size w w13 := by (repeat (first | assumption | (with_reducible exact Below.refl _ _) | (with_reducible refine Below.drewN ?_ _) | (with_reducible refine Below.drew ?_) | (with_reducible refine Below.allocS ?_ _) | ((with_reducible refine Below.setCell ?_ ?_ _); rotate_left; focus (first | omega | (simp; done) | (simp; omega))) | (with_reducible refine Below.step ?_ (by assumption))))
  have hzzw13 := hBw13.size
  have B13 : Below w12.heap.size w12 w13 := by
    refine Below.step ?_ c13x0
    (repeat (first | (with_reducible exact Below.refl _ _) | (with_reducible refine Below.drewN ?_ _) | (with_reducible refine Below.drew ?_) | (with_reducible refine Below.allocS ?_ _) | ((with_reducible refine Below.setCell ?_ ?_ _); rotate_left; focus (first | omega | (simp; done) | (simp; omega)))))
  replace Ru0 := Lib.hid (Ru0.out.below B13)
  replace Mvv0 := Lib.hid (Mvv0.out.below B13)
  go_wp2_with fail
  go_wp2_with fail
  refine (heldFloat32S_any _ (cNE B (i.toNat + 1)) (1) _ ?_ (by omega) (by omega)).mono ?_
  · refine RowAt.below Mvv0.out ?_
    (repeat (first | assumption | (with_reducible exact Below.refl _ _) | (with_reducible refine Below.drewN ?_ _) | (with_reducible refine Below.drew ?_) | (with_reducible refine Below.allocS ?_ _) | ((with_reducible refine Below.setCell ?_ ?_ _); rotate_left; focus (first | omega | (simp; done) | (simp; omega))) | (with_reducible refine Below.step ?_ (by assumption))))
  rintro e w9' ⟨rfl, e9⟩
  subst w9'
  go_wp2_with fail
  go_ret
  refine ⟨rfl, ?_⟩
  (repeat (first | assumption | (with_reducible exact Below.refl _ _) | (with_reducible refine Below.drewN ?_ _) | (with_reducible refine Below.drew ?_) | (with_reducible refine Below.allocS ?_ _) | ((with_reducible refine Below.setCell ?_ ?_ _); rotate_left; focus (first | omega | (simp; done) | (simp; omega))) | (with_reducible refine Below.step ?_ (by assumption))))

end Go.Proofs.Ytciamnnfnbmjpaa
