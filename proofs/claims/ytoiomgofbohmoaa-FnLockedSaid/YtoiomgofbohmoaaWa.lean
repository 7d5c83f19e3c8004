/-
  The walks of the functions that ask whether numbers are finite.
-/
import Derived.Test.YtoiomgofbohmoaaFl
import Derived.Test.YtoiomgofbohmoaaChecked
import Derived.Outline
import Derived.BigGuardPart
import Derived.StillTailTactics
import Derived.Deep.RegionHeld3
set_option linter.unusedVariables false
set_option linter.unusedSimpArgs false
namespace Go.Proofs.Ytoiomgofbohmoaa
open Go.RowKit

theorem IsFinite_any (x : Nat) (w : World) : Calls Try.prog 23 #[.float .f32 x] w (RB (finB .f32 x) w) := by
  go_enter Try.func23, Try.ntmps23
  go_wp2_with (refine wpList_fbin rfl rfl rfl rfl rfl (fun r n hr => ?_))
  go_ret
  exact ⟨n, congrArg (fun b => Ending.returned (.bool b)) (fin_law hr.out), rfl⟩

theorem finite1_any (x : Nat) (w : World) : Calls Try.prog 32 #[.float .f32 x] w (RB (!finB .f32 x) w) := by
  go_enter Try.func32, Try.ntmps32
  go_wp2_with (first | (go_at_call 23; refine (IsFinite_any _ _).mono ?_; rintro e w' ⟨n, rfl, rfl⟩))
  go_ret
  exact ⟨n, rfl, rfl⟩

theorem indexFunc_any (l : List Nat) (b o c : Nat) (w : World) (hl : l.length ≤ maxLen) (hc : ∀ i, i < l.length → w.cell? ⟨b, o + i, none⟩ = some (.float .f32 (l.getD i 0))) :
    Calls Try.prog 37 #[.slice (some ⟨b, o, none⟩) l.length c, .func (.func 32) #[] #[]] w (RV (.int .i64 (badAt l)) w) := by
  unfold maxLen at hl
  go_enter Try.func37, Try.ntmps37
  go_wp2
  go_loopw [8] (fun v wr => ∃ k n : Nat, k ≤ l.length ∧ v = .int .i64 k ∧ wr = w.drewN n ∧ Hid (allFin (l.take k) = true)) (fun v _ => l.length - (intOf v).toNat)
  case atStart => exact ⟨0, 0, Nat.zero_le _, rfl, rfl, rfl⟩
  case round =>
    obtain ⟨k, n, hk, rfl, rfl, hall⟩ := hrel
    by_cases hlt : k < l.length
    · obtain ⟨x, hxl, hcell⟩ : ∃ x, Hid (l.getD k 0 = x) ∧ w.cell? ⟨b, o + k, none⟩ = some (.float .f32 x) := ⟨_, rfl, hc k hlt⟩
      clear hc
      cases hx : finB .f32 x
      · go_wp2_with (first | (go_at_call 32; refine (finite1_any _ _).mono ?_; rintro e w' ⟨n', rfl, rfl⟩))
        go_ret
        have hb := badAt_here hlt hall.out (by rw [hxl.out]; exact hx)
        exact ⟨_, ret_int hb.symm, rfl⟩
      · go_wp2_with (first | (go_at_call 32; refine (finite1_any _ _).mono ?_; rintro e w' ⟨n', rfl, rfl⟩))
        go_roundw
        case rel => exact ⟨k + 1, n + n', by omega, by go_num, rfl, allFin_snoc hlt hall.out (by rw [hxl.out]; exact hx)⟩
        case measure => simp [intOf]; omega
    · have hkl : k = l.length := by omega
      have h2 : Hid (badAt l = -1) := badAt_of_all (by have := hall.out; rw [hkl, List.take_length] at this; exact this)
      clear hc
      go_wp2
      go_ret
      exact ⟨n, ret_int h2.out.symm, rfl⟩

theorem containsFunc_any (l : List Nat) (b o c : Nat) (w : World) (hl : l.length ≤ maxLen) (hc : ∀ i, i < l.length → w.cell? ⟨b, o + i, none⟩ = some (.float .f32 (l.getD i 0))) :
    Calls Try.prog 31 #[.slice (some ⟨b, o, none⟩) l.length c, .func (.func 32) #[] #[]] w (RB (!allFin l) w) := by
  have H := Lib.hid hc
  clear hc
  have hb : Hid (decide (0 ≤ badAt l) = !(allFin l)) := badAt_ge l
  go_enter Try.func31, Try.ntmps31
  go_wp2_with (first | (go_at_call 37; refine (indexFunc_any l b o c _ hl H.out).mono ?_; rintro e w' ⟨n, rfl, rfl⟩))
  go_ret
  exact ⟨n, ret_bool hb.out, rfl⟩

theorem finite_any (l : List Nat) (b o c : Nat) (w : World) (hl : l.length ≤ maxLen) (hc : ∀ i, i < l.length → w.cell? ⟨b, o + i, none⟩ = some (.float .f32 (l.getD i 0))) :
    Calls Try.prog 19 #[.slice (some ⟨b, o, none⟩) l.length c] w (RB (allFin l) w) := by
  have H := Lib.hid hc
  clear hc
  go_enter Try.func19, Try.ntmps19
  go_wp2_with (first | (go_at_call 31; refine (containsFunc_any l b o c _ hl H.out).mono ?_; rintro e w' ⟨n, rfl, rfl⟩))
  go_ret
  exact ⟨n, ret_bool (by simp), rfl⟩

theorem finite2_any (x0 x1 : Nat) (b : Nat) (w : World) (h0 : w.cell? ⟨b, 0, none⟩ = some (.float .f32 x0)) (h1 : w.cell? ⟨b, 1, none⟩ = some (.float .f32 x1)) :
    Calls Try.prog 19 #[.slice (some ⟨b, 0, none⟩) 2 2] w (RB (fin2 x0 x1) w) := by
  have h := finite_any [x0, x1] b 0 2 w (by simp [maxLen]) (by
    intro i hi
    match i, hi with
    | 0, _ => simpa using h0
    | 1, _ => simpa using h1)
  have e : allFin [x0, x1] = fin2 x0 x1 := by simp [allFin, fin2, Bool.and_assoc]
  rw [e] at h
  exact h

theorem finite3_any (x0 x1 x2 : Nat) (b : Nat) (w : World) (h0 : w.cell? ⟨b, 0, none⟩ = some (.float .f32 x0)) (h1 : w.cell? ⟨b, 1, none⟩ = some (.float .f32 x1)) (h2 : w.cell? ⟨b, 2, none⟩ = some (.float .f32 x2)) :
    Calls Try.prog 19 #[.slice (some ⟨b, 0, none⟩) 3 3] w (RB (fin3 x0 x1 x2) w) := by
  have h := finite_any [x0, x1, x2] b 0 3 w (by simp [maxLen]) (by
    intro i hi
    match i, hi with
    | 0, _ => simpa using h0
    | 1, _ => simpa using h1
    | 2, _ => simpa using h2)
  have e : allFin [x0, x1, x2] = fin3 x0 x1 x2 := by simp [allFin, fin3, Bool.and_assoc]
  rw [e] at h
  exact h

theorem finite4_any (x0 x1 x2 x3 : Nat) (b : Nat) (w : World) (h0 : w.cell? ⟨b, 0, none⟩ = some (.float .f32 x0)) (h1 : w.cell? ⟨b, 1, none⟩ = some (.float .f32 x1)) (h2 : w.cell? ⟨b, 2, none⟩ = some (.float .f32 x2)) (h3 : w.cell? ⟨b, 3, none⟩ = some (.float .f32 x3)) :
    Calls Try.prog 19 #[.slice (some ⟨b, 0, none⟩) 4 4] w (RB (fin4 x0 x1 x2 x3) w) := by
  have h := finite_any [x0, x1, x2, x3] b 0 4 w (by simp [maxLen]) (by
    intro i hi
    match i, hi with
    | 0, _ => simpa using h0
    | 1, _ => simpa using h1
    | 2, _ => simpa using h2
    | 3, _ => simpa using h3)
  have e : allFin [x0, x1, x2, x3] = fin4 x0 x1 x2 x3 := by simp [allFin, fin4, Bool.and_assoc]
  rw [e] at h
  exact h

theorem finite5_any (x0 x1 x2 x3 x4 : Nat) (b : Nat) (w : World) (h0 : w.cell? ⟨b, 0, none⟩ = some (.float .f32 x0)) (h1 : w.cell? ⟨b, 1, none⟩ = some (.float .f32 x1)) (h2 : w.cell? ⟨b, 2, none⟩ = some (.float .f32 x2)) (h3 : w.cell? ⟨b, 3, none⟩ = some (.float .f32 x3)) (h4 : w.cell? ⟨b, 4, none⟩ = some (.float .f32 x4)) :
    Calls Try.prog 19 #[.slice (some ⟨b, 0, none⟩) 5 5] w (RB (fin5 x0 x1 x2 x3 x4) w) := by
  have h := finite_any [x0, x1, x2, x3, x4] b 0 5 w (by simp [maxLen]) (by
    intro i hi
    match i, hi with
    | 0, _ => simpa using h0
    | 1, _ => simpa using h1
    | 2, _ => simpa using h2
    | 3, _ => simpa using h3
    | 4, _ => simpa using h4)
  have e : allFin [x0, x1, x2, x3, x4] = fin5 x0 x1 x2 x3 x4 := by simp [allFin, fin5, Bool.and_assoc]
  rw [e] at h
  exact h

end Go.Proofs.Ytoiomgofbohmoaa
