/-
  The contracts of the escapement's functions, and of the laws' own helpers.
-/
import Derived.Test.YtoiomgofbohmoaaWo
import Derived.Test.YtoiomgofbohmoaaSb
import Derived.Test.YtoiomgofbohmoaaTa
set_option linter.unusedVariables false
set_option linter.unusedSimpArgs false
namespace Go.Proofs.Ytoiomgofbohmoaa
open Go.RowKit

def restQ (keep kick : Nat) : Nat := fbin .quo .f32 (cn .f32 kick) (fbin .sub .f32 1065353216 (cn .f32 keep))

def restB (keep kick : Nat) : Bool := keepB keep && finB .f32 kick && finB .f32 (restQ keep kick)

theorem cn_one : cn .f32 1065353216 = 1065353216 := by decide +kernel

theorem rest_split (keep kick : Nat) : restB keep kick = (fin2 keep kick && keepB keep && finB .f32 (restQ keep kick)) := by
  unfold restB fin2
  have h := @keep_fin keep
  cases h1 : keepB keep
  · simp
  · rw [h h1]; simp

set_option maxRecDepth 100000 in
set_option maxHeartbeats 8000000 in
theorem implRestSwing_any (keep kick : Nat) (w : World) : Calls Try.prog 9 #[.float .f32 keep, .float .f32 kick] w (PF (condF (restB keep kick) (restQ keep kick)) (restB keep kick) w) := by
  have hk := rest_split keep kick
  cases h1 : fin2 keep kick <;> cases h2 : keepB keep
  all_goals
    rw [h1, h2] at hk
    have H := Lib.hid hk
    clear hk
    go_enter Try.func9, Try.ntmps9
    go_wp2_with fail
    refine (finite2_any keep kick _ _ ?_ ?_).mono ?_
    · simp [go_sem]
    · simp [go_sem]
    rintro e w' ⟨n, rfl, rfl⟩
    go_wp2_with (first | (refine wpList_fbin rfl rfl rfl rfl rfl (fun r n hr => ?_)) | (go_at_call 20; refine (keepOk_any _ _).mono ?_; rintro e w' ⟨n, rfl, rfl⟩) | (go_at_call 15; refine (toldNumber_any _ _).mono ?_; rintro e w' ⟨n, rfl, rfl⟩))
    go_ret2
    first
      | (refine pf_told (Q := restQ keep kick) (by unfold restQ; simp only [Hid] at *; simp only [*, cn_one]) (by rw [H.out]; simp) ?_; (repeat (first | (with_reducible exact Below.refl _ _) | (with_reducible refine Below.drewN ?_ _) | (with_reducible refine Below.drew ?_) | (with_reducible refine Below.allocS ?_ _) | ((with_reducible refine Below.setCell ?_ ?_ _); rotate_left; focus (first | omega | (simp; done) | (simp; omega))) | (with_reducible refine Below.step ?_ (by assumption)))); done)
      | (refine pf_none (by rw [H.out]; simp) ?_; (repeat (first | (with_reducible exact Below.refl _ _) | (with_reducible refine Below.drewN ?_ _) | (with_reducible refine Below.drew ?_) | (with_reducible refine Below.allocS ?_ _) | ((with_reducible refine Below.setCell ?_ ?_ _); rotate_left; focus (first | omega | (simp; done) | (simp; omega))) | (with_reducible refine Below.step ?_ (by assumption)))); done)

def escB (swing keep kick least : Nat) : Bool := finB .f32 swing && keepB keep && finB .f32 kick && finB .f32 least

def escQ (swing keep kick least : Nat) : Nat := if geF .f32 swing least then fbin .add .f32 (mulC keep swing) (cn .f32 kick) else mulC keep swing

def escR (swing keep kick least : Nat) : Bool := escB swing keep kick least && finB .f32 (escQ swing keep kick least)

theorem esc_split (swing keep kick least : Nat) : escB swing keep kick least = (fin4 swing keep kick least && keepB keep) := by
  unfold escB fin4
  have h := @keep_fin keep
  cases h1 : keepB keep
  · simp
  · rw [h h1]; simp

set_option maxRecDepth 100000 in
set_option maxHeartbeats 8000000 in
theorem implEscapeOnce_any (z0 z1 z2 z3 : Nat) (w : World) : Calls Try.prog 10 #[.float .f32 z0, .float .f32 z1, .float .f32 z2, .float .f32 z3] w (PF (condF (escR z0 z1 z2 z3) (escQ z0 z1 z2 z3)) (escR z0 z1 z2 z3) w) := by
  have hk := esc_split z0 z1 z2 z3
  cases h1 : fin4 z0 z1 z2 z3 <;> cases h2 : keepB z1 <;> cases h3 : geF .f32 z0 z3
  all_goals
    rw [h1, h2] at hk
    have H := Lib.hid hk
    clear hk
    go_enter Try.func10, Try.ntmps10
    go_wp2_with fail
    refine (finite4_any z0 z1 z2 z3 _ _ ?_ ?_ ?_ ?_).mono ?_
    all_goals (try (simp [go_sem]; done))
    rintro e w' ⟨n, rfl, rfl⟩
    go_wp2_with (first | (refine wpList_fbin rfl rfl rfl rfl rfl (fun r n hr => ?_)) | (go_at_call 20; refine (keepOk_any _ _).mono ?_; rintro e w' ⟨n, rfl, rfl⟩) | (go_at_call 15; refine (toldNumber_any _ _).mono ?_; rintro e w' ⟨n, rfl, rfl⟩))
    go_ret2
    first
      | (refine pf_told (Q := escQ z0 z1 z2 z3) (by unfold escQ mulC; rw [h3]; simp only [Hid] at *; simp only [*, if_true, if_false, Bool.false_eq_true]) (by unfold escR; rw [H.out]; simp) ?_; (repeat (first | (with_reducible exact Below.refl _ _) | (with_reducible refine Below.drewN ?_ _) | (with_reducible refine Below.drew ?_) | (with_reducible refine Below.allocS ?_ _) | ((with_reducible refine Below.setCell ?_ ?_ _); rotate_left; focus (first | omega | (simp; done) | (simp; omega))) | (with_reducible refine Below.step ?_ (by assumption)))); done)
      | (refine pf_none (by unfold escR; rw [H.out]; simp) ?_; (repeat (first | (with_reducible exact Below.refl _ _) | (with_reducible refine Below.drewN ?_ _) | (with_reducible refine Below.drew ?_) | (with_reducible refine Below.allocS ?_ _) | ((with_reducible refine Below.setCell ?_ ?_ _); rotate_left; focus (first | omega | (simp; done) | (simp; omega))) | (with_reducible refine Below.step ?_ (by assumption)))); done)

def inE (n lo hi : Int) : Bool := decide (lo ≤ n) && decide (n ≤ hi)

def uptoE (p : Nat → Bool) (n : Nat) : Bool := (List.range n).all p

theorem uptoE_false {p : Nat → Bool} {n k : Nat} (hk : k < n) (h : p k = false) : uptoE p n = false := by
  unfold uptoE
  rw [List.all_eq_false]
  exact ⟨k, List.mem_range.2 hk, by rw [h]; decide⟩

theorem uptoE_succ (p : Nat → Bool) (n : Nat) : uptoE p (n + 1) = (uptoE p n && p n) := by unfold uptoE; rw [List.range_succ, List.all_append]; simp

def cNE (b : Bool) (n : Nat) : Nat := if b then n else 0

def cLE (b : Bool) (l : List Nat) : List Nat := if b then l else []

def escS (z0 z1 z2 z3 : Nat) : Nat → Nat
  | 0 => z0
  | k + 1 => escQ (escS z0 z1 z2 z3 k) z1 z2 z3

def escL (z0 z1 z2 z3 k : Nat) : List Nat := (List.range (k + 1)).map (escS z0 z1 z2 z3)

def runEB (z0 z1 z2 z3 : Nat) (i : Int) : Bool := (escB z0 z1 z2 z3 && inE i 0 64) && uptoE (fun j => finB .f32 (escS z0 z1 z2 z3 (j + 1))) i.toNat

theorem escL_snoc (z0 z1 z2 z3 k : Nat) : escL z0 z1 z2 z3 (k + 1) = escL z0 z1 z2 z3 k ++ [escS z0 z1 z2 z3 (k + 1)] := by unfold escL; rw [List.range_succ, List.map_append]; rfl

def GiveE (n : Nat) (l : List Nat) (b : Bool) (w : World) (e : Ending) (w' : World) : Prop :=
  ∃ v, e = .returned (.tuple #[v, .bool b]) ∧ w'.ownsRow w.heap.size 24 1 v n (fl l) ∧ Below w.heap.size w w'

theorem grown_belowE {B : Nat} {w a b : World} {base : Nat} {e : TypeId} {c n : Nat} {v : Value} {xs : List Value} (hb : Below B w a) (hg : a.grownBy b v.ownBlock) (ho : a.ownsRow base e c v n xs) (hB : B ≤ base) (h : B ≤ a.heap.size) : Below B w b :=
  hb.grown hg h (fun k hk => Nat.le_trans hB (ownsRow_lt ho k hk).1)

theorem float_oneE (r : Nat) : ∀ u ∈ [Value.float .f32 r], u.oneCell' = true := by
  intro u hu
  rw [List.mem_singleton.1 hu]
  rfl

theorem exact_ofE {k : FloatKind} {r X : Nat} (h : cn k r = X) (hn : isN k X = false) : r = X := by
  cases hr : isN k r
  · rw [← h, cn_of_not hr]
  · rw [cn_of_nan hr] at h
    rw [← h, isN_nanOf] at hn
    cases hn

set_option maxRecDepth 100000 in
set_option maxHeartbeats 8000000 in
theorem inE_any (n lo hi : Int) (w : World) : Calls Try.prog 21 #[.int .i64 n, .int .i64 lo, .int .i64 hi] w fun e w' => e = .returned (.bool (inE n lo hi)) ∧ w' = w := by
  cases h1 : decide (lo ≤ n) <;> cases h2 : decide (n ≤ hi)
  all_goals
    go_enter Try.func21, Try.ntmps21
    go_wp2
    go_ret
    exact ⟨ret_bool (by unfold inE; rw [h1, h2]; rfl), rfl⟩

set_option maxRecDepth 100000 in
set_option maxHeartbeats 8000000 in
theorem implRunEscape_any (z0 z1 z2 z3 : Nat) (i : Int) (w : World) : Calls Try.prog 11 #[.float .f32 z0, .float .f32 z1, .float .f32 z2, .float .f32 z3, .int .i64 i] w (GiveE (cNE (runEB z0 z1 z2 z3 i) (i.toNat + 1)) (cLE (runEB z0 z1 z2 z3 i) (escL z0 z1 z2 z3 i.toNat)) (runEB z0 z1 z2 z3 i) w) := by
  have HB : Hid (runEB z0 z1 z2 z3 i = ((escB z0 z1 z2 z3 && inE i 0 64) && uptoE (fun j => finB .f32 (escS z0 z1 z2 z3 (j + 1))) i.toNat)) := rfl
  have hsp := esc_split z0 z1 z2 z3
  cases h1 : fin4 z0 z1 z2 z3
  · have HF : Hid (runEB z0 z1 z2 z3 i = false) := by show _ = _; rw [HB.out, hsp, h1]; rfl
    go_enter Try.func11, Try.ntmps11
    go_wp2_with fail
    refine (finite4_any z0 z1 z2 z3 _ _ ?_ ?_ ?_ ?_).mono ?_
    all_goals (try (simp [go_sem]; done))
    rintro e w' ⟨n9, rfl, rfl⟩
    rw [h1]
    go_wp2_with (first | (go_at_call 20; refine (keepOk_any _ _).mono ?_; rintro e w' ⟨n9, rfl, rfl⟩; rw [h2]) | (go_at_call 21; refine (inE_any _ _ _ _).mono ?_; rintro e w' ⟨rfl, e9⟩; subst w'; rw [hz]))
    go_ret2
    rw [HF.out]
    refine ⟨_, rfl, ownsRow_nil', ?_⟩
    (repeat (first | assumption | (with_reducible exact Below.refl _ _) | (with_reducible refine Below.drewN ?_ _) | (with_reducible refine Below.drew ?_) | (with_reducible refine Below.allocS ?_ _) | ((with_reducible refine Below.setCell ?_ ?_ _); rotate_left; focus (first | omega | (simp; done) | (simp; omega))) | (with_reducible refine Below.step ?_ (by assumption))))
  cases h2 : keepB z1
  · have HF : Hid (runEB z0 z1 z2 z3 i = false) := by show _ = _; rw [HB.out, hsp, h1, h2]; rfl
    go_enter Try.func11, Try.ntmps11
    go_wp2_with fail
    refine (finite4_any z0 z1 z2 z3 _ _ ?_ ?_ ?_ ?_).mono ?_
    all_goals (try (simp [go_sem]; done))
    rintro e w' ⟨n9, rfl, rfl⟩
    rw [h1]
    go_wp2_with (first | (go_at_call 20; refine (keepOk_any _ _).mono ?_; rintro e w' ⟨n9, rfl, rfl⟩; rw [h2]) | (go_at_call 21; refine (inE_any _ _ _ _).mono ?_; rintro e w' ⟨rfl, e9⟩; subst w'; rw [hz]))
    go_ret2
    rw [HF.out]
    refine ⟨_, rfl, ownsRow_nil', ?_⟩
    (repeat (first | assumption | (with_reducible exact Below.refl _ _) | (with_reducible refine Below.drewN ?_ _) | (with_reducible refine Below.drew ?_) | (with_reducible refine Below.allocS ?_ _) | ((with_reducible refine Below.setCell ?_ ?_ _); rotate_left; focus (first | omega | (simp; done) | (simp; omega))) | (with_reducible refine Below.step ?_ (by assumption))))
  have he : escB z0 z1 z2 z3 = true := by rw [hsp, h1, h2]; rfl
  clear hsp
  cases hz : inE i 0 64
  · have HF : Hid (runEB z0 z1 z2 z3 i = false) := by show _ = _; rw [HB.out, hz, Bool.and_false, Bool.false_and]
    go_enter Try.func11, Try.ntmps11
    go_wp2_with fail
    refine (finite4_any z0 z1 z2 z3 _ _ ?_ ?_ ?_ ?_).mono ?_
    all_goals (try (simp [go_sem]; done))
    rintro e w' ⟨n9, rfl, rfl⟩
    rw [h1]
    go_wp2_with (first | (go_at_call 20; refine (keepOk_any _ _).mono ?_; rintro e w' ⟨n9, rfl, rfl⟩; rw [h2]) | (go_at_call 21; refine (inE_any _ _ _ _).mono ?_; rintro e w' ⟨rfl, e9⟩; subst w'; rw [hz]))
    go_ret2
    rw [HF.out]
    refine ⟨_, rfl, ownsRow_nil', ?_⟩
    (repeat (first | assumption | (with_reducible exact Below.refl _ _) | (with_reducible refine Below.drewN ?_ _) | (with_reducible refine Below.drew ?_) | (with_reducible refine Below.allocS ?_ _) | ((with_reducible refine Below.setCell ?_ ?_ _); rotate_left; focus (first | omega | (simp; done) | (simp; omega))) | (with_reducible refine Below.step ?_ (by assumption))))
  obtain ⟨T, rfl⟩ : ∃ T : Nat, i = (T : Int) := ⟨i.toNat, by unfold inE at hz; simp at hz; omega⟩
  have hT : T ≤ 64 := by unfold inE at hz; simp at hz; omega
  have HB2 : Hid (runEB z0 z1 z2 z3 (T : Int) = uptoE (fun j => finB .f32 (escS z0 z1 z2 z3 (j + 1))) T) := by show _ = _; rw [HB.out, he, hz]; rfl
  obtain ⟨i0, hi0, hz0, hz1, hz2⟩ := info_parts info_Float32
  clear HB
  simp only [Int.toNat_natCast]
  go_enter Try.func11, Try.ntmps11
  go_wp2_with fail
  refine (finite4_any z0 z1 z2 z3 _ _ ?_ ?_ ?_ ?_).mono ?_
  all_goals (try (simp [go_sem]; done))
  rintro e w' ⟨n9, rfl, rfl⟩
  rw [h1]
  go_wp2_with (first | (go_at_call 20; refine (keepOk_any _ _).mono ?_; rintro e w' ⟨n9, rfl, rfl⟩; rw [h2]) | (go_at_call 21; refine (inE_any _ _ _ _).mono ?_; rintro e w' ⟨rfl, e9⟩; subst w'; rw [hz]))
  go_loopw [35, 0, 12] (fun jv sv uv wr => ∃ k : Nat, k ≤ T ∧ jv = .int .i64 ((k : Int)) ∧ sv = .float .f32 (escS z0 z1 z2 z3 k) ∧ uptoE (fun j => finB .f32 (escS z0 z1 z2 z3 (j + 1))) k = true ∧ wr.ownsRow w.heap.size 24 1 uv (k + 1) (fl (escL z0 z1 z2 z3 k)) ∧ Below w.heap.size w wr) (fun jv _ _ _ => T - (intOf jv).toNat)
  case atStart =>
    refine ⟨0, Nat.zero_le _, by simp, rfl, rfl, ?_, by (repeat (first | assumption | (with_reducible exact Below.refl _ _) | (with_reducible refine Below.drewN ?_ _) | (with_reducible refine Below.drew ?_) | (with_reducible refine Below.allocS ?_ _) | ((with_reducible refine Below.setCell ?_ ?_ _); rotate_left; focus (first | omega | (simp; done) | (simp; omega))) | (with_reducible refine Below.step ?_ (by assumption))))⟩
    repeat (with_reducible refine ownsRow_drewN ?_ _)
    first | exact (World.ownsRow_lit (base := w.heap.size) (e := 24) (size := 1) w #[.float .f32 z0] 1 (Nat.le_refl _) (by decide) rfl) | (have h9 := World.ownsRow_lit (base := w.heap.size) (e := 24) (size := 1) (w.alloc (.cells #[.float .f32 z0, .float .f32 z1, .float .f32 z2, .float .f32 z3] 24)) #[.float .f32 z0] 1 (by simp) (by decide) rfl; simp only [World.size_alloc] at h9; exact h9)
  case round =>
    obtain ⟨k, hk, rfl, rfl, hup, ho, hBr⟩ := hrel
    have UP := Lib.hid hup
    have OV := Lib.hid ho
    have hzr := hBr.size
    clear ho hup
    by_cases hlt : k < T
    · have d1 : decide ((k : Int) < (T : Int)) = true := decide_eq_true (by omega)
      cases e1 : finB .f32 (escS z0 z1 z2 z3 (k + 1))
      all_goals have E1 := Lib.hid e1
      all_goals
        have hpe : escB (escS z0 z1 z2 z3 k) z1 z2 z3 = true := by
          have hf : finB .f32 (escS z0 z1 z2 z3 k) = true := by
            cases k with
            | zero => unfold escB at he; simp only [Bool.and_eq_true] at he; exact he.1.1.1
            | succ q => have h7 := UP.out; rw [uptoE_succ] at h7; simp only [Bool.and_eq_true] at h7; exact h7.2
          unfold escB at he ⊢
          simp only [Bool.and_eq_true] at he ⊢
          exact ⟨⟨⟨hf, he.1.1.2⟩, he.1.2⟩, he.2⟩
        have hre : escR (escS z0 z1 z2 z3 k) z1 z2 z3 = finB .f32 (escS z0 z1 z2 z3 (k + 1)) := by unfold escR; rw [hpe, Bool.true_and]; rfl
        rw [E1.out] at hre
        clear hpe e1
        go_wp2_with fail
        refine (implEscapeOnce_any _ _ _ _ _).mono ?_
        rintro e w5 ⟨r, rfl, hq, hb5⟩
        rw [hre] at hq ⊢
      · go_wp2_with fail
        go_ret2
        rw [HB2.out, uptoE_false hlt E1.out]
        refine ⟨_, rfl, ownsRow_nil', ?_⟩
        (repeat (first | assumption | (with_reducible exact Below.refl _ _) | (with_reducible refine Below.drewN ?_ _) | (with_reducible refine Below.drew ?_) | (with_reducible refine Below.allocS ?_ _) | ((with_reducible refine Below.setCell ?_ ?_ _); rotate_left; focus (first | omega | (simp; done) | (simp; omega))) | (with_reducible refine Below.step ?_ (by assumption))))
      · obtain rfl : r = escS z0 z1 z2 z3 (k + 1) := exact_ofE hq (isN_of_fin E1.out)
        clear hq hre
        have B5 : Below wr.heap.size wr w5 := by
          refine Below.step ?_ hb5
          (repeat (first | (with_reducible exact Below.refl _ _) | (with_reducible refine Below.drewN ?_ _) | (with_reducible refine Below.drew ?_) | (with_reducible refine Below.allocS ?_ _) | ((with_reducible refine Below.setCell ?_ ?_ _); rotate_left; focus (first | omega | (simp; done) | (simp; omega)))))
        have hB5 : Below w.heap.size w w5 := by (repeat (first | assumption | (with_reducible exact Below.refl _ _) | (with_reducible refine Below.drewN ?_ _) | (with_reducible refine Below.drew ?_) | (with_reducible refine Below.allocS ?_ _) | ((with_reducible refine Below.setCell ?_ ?_ _); rotate_left; focus (first | omega | (simp; done) | (simp; omega))) | (with_reducible refine Below.step ?_ (by assumption))))
        have hz5 := B5.size
        replace OV := Lib.hid (ownsRow_below OV.out B5)
        go_wp2_with (first | (at_builtin; refine wpList_append_own_at _ rfl _ _ 32 rfl w.heap.size 24 i0 (.float .f32 0) 1 4 Try.underlying32 hi0 hz0 hz1 hz2 rfl (by decide) _ (k + 1) (fl (escL z0 z1 z2 z3 k)) rfl (by have h9 := OV.out; (repeat (first | (with_reducible refine World.ownsRow.alloc ?_ _) | (with_reducible refine ownsRow_drewN ?_ _) | ((with_reducible refine ownsRow_setCell_below ?_ ?_ _); rotate_left; focus (first | omega | (simp; done) | (simp; omega))))); exact h9) ⟨_, 0, none⟩ 1 1 [.float .f32 _] rfl rfl (cell_one_new _ _ _) (float_oneE _) (by simp only [maxLen]; omega) (by omega) (by first | omega | (simp; omega)) ?_))
        intro v8 w8 ho8 hg8 _ _
        have hB8 : Below w.heap.size w w8 := by
          refine grown_belowE (w := w) ?_ hg8 (base := w.heap.size) (e := 24) (c := 1) (n := k + 1) (xs := fl (escL z0 z1 z2 z3 k)) (by have h9 := OV.out; (repeat (first | (with_reducible refine World.ownsRow.alloc ?_ _) | (with_reducible refine ownsRow_drewN ?_ _) | ((with_reducible refine ownsRow_setCell_below ?_ ?_ _); rotate_left; focus (first | omega | (simp; done) | (simp; omega))))); exact h9) (Nat.le_refl _) (by first | omega | (simp; omega))
          (repeat (first | assumption | (with_reducible exact Below.refl _ _) | (with_reducible refine Below.drewN ?_ _) | (with_reducible refine Below.drew ?_) | (with_reducible refine Below.allocS ?_ _) | ((with_reducible refine Below.setCell ?_ ?_ _); rotate_left; focus (first | omega | (simp; done) | (simp; omega))) | (with_reducible refine Below.step ?_ (by assumption))))
        have O8 : Hid (w8.ownsRow w.heap.size 24 1 v8 (k + 1 + 1) (fl (escL z0 z1 z2 z3 (k + 1)))) := by
          show World.ownsRow _ _ _ _ _ _ _
          rw [escL_snoc, fl_append]
          exact ho8
        clear ho8 hg8
        go_wp2_with fail
        go_roundw
        case rel => exact ⟨k + 1, hlt, (by first | go_num | (congr 1; omega)), rfl, (by rw [uptoE_succ, UP.out, E1.out]; rfl), O8.out, hB8⟩
        case measure => simp [intOf]; omega
    · obtain rfl : k = T := by omega
      have d1 : decide ((k : Int) < (k : Int)) = false := decide_eq_false (by omega)
      go_wp2_with fail
      go_ret2
      rw [HB2.out, UP.out]
      exact ⟨_, rfl, OV.out, by (repeat (first | assumption | (with_reducible exact Below.refl _ _) | (with_reducible refine Below.drewN ?_ _) | (with_reducible refine Below.drew ?_) | (with_reducible refine Below.allocS ?_ _) | ((with_reducible refine Below.setCell ?_ ?_ _); rotate_left; focus (first | omega | (simp; done) | (simp; omega))) | (with_reducible refine Below.step ?_ (by assumption))))⟩

theorem implRunEscape_lit {z0 z1 z2 z3 : Nat} {i : Int} {B : Bool} (hB : runEB z0 z1 z2 z3 i = B) (w : World) : Calls Try.prog 11 #[.float .f32 z0, .float .f32 z1, .float .f32 z2, .float .f32 z3, .int .i64 i] w (GiveE (cNE B (i.toNat + 1)) (cLE B (escL z0 z1 z2 z3 i.toNat)) B w) := hB ▸ implRunEscape_any z0 z1 z2 z3 i w

set_option maxRecDepth 100000 in
set_option maxHeartbeats 8000000 in
theorem SineTurns_spec (x : Nat) (w : World) : Calls Try.prog 8 #[.float .f32 x] w (RF .f32 (sineQ (cn .f32 x)) w) := by
  go_enter Try.func8, Try.ntmps8
  go_wp2_with (first | (go_at_call 18; refine (l01Sine_any _ _).mono ?_; rintro e w' ⟨r, n9, rfl, hq, rfl⟩; have HQ := Lib.hid hq; clear hq))
  go_ret
  exact ⟨_, _, rfl, HQ.out, rfl⟩
set_option maxRecDepth 100000 in
set_option maxHeartbeats 8000000 in
theorem SameNumber_spec {x y : Nat} {b : Bool} (hs : sameB x y = b) (w : World) (hx : x < 4294967296) (hy : y < 4294967296) : Calls Try.prog 12 #[.float .f32 x, .float .f32 y] w (RB b w) := by
  go_enter Try.func12, Try.ntmps12
  go_wp2_with (first | (go_at_call 22; refine (l01Same_lit hs hx hy).mono ?_; rintro e w' ⟨n9, rfl, rfl⟩))
  go_ret
  exact ⟨_, rfl, rfl⟩
def gapF (x y : Nat) : Nat := if ltF .f64 x y then fbin .sub .f64 y x else fbin .sub .f64 x y
set_option maxRecDepth 100000 in
set_option maxHeartbeats 8000000 in
theorem b10Gap_any (x y : Nat) (w : World) : Calls Try.prog 7 #[.float .f64 x, .float .f64 y] w (RF .f64 (gapF (cn .f64 x) (cn .f64 y)) w) := by
  cases h : ltF .f64 x y
  all_goals
    go_enter Try.func7, Try.ntmps7
    go_wp2_with (first | (refine wpList_fbin rfl rfl rfl rfl rfl (fun r n9 hr => ?_)))
    go_ret
    refine ⟨_, _, rfl, ?_, rfl⟩
    unfold gapF
    rw [ltF_cn, h]
    first | exact hr | exact hr.out
end Go.Proofs.Ytoiomgofbohmoaa
