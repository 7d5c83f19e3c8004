/-
  The facts that the law Locked needs, for every number that the bytes pick.
-/
import Derived.Test.YtoiomgofbohmoaaLc
import Derived.Test.YtoiomgofbohmoaaLd
import Derived.Test.YtoiomgofbohmoaaLe
import Derived.Test.YtoiomgofbohmoaaLf
import Derived.Test.YtoiomgofbohmoaaLg
import Derived.Test.YtoiomgofbohmoaaLh
import Derived.Test.YtoiomgofbohmoaaLi
set_option linter.unusedVariables false
set_option linter.unusedSimpArgs false
namespace Go.Proofs.Ytoiomgofbohmoaa
open Go.RowKit

theorem ownsRow_shape {w : World} {base : Nat} {e : TypeId} {c n : Nat} {v : Value} {xs : List Value} (h : w.ownsRow base e c v n xs) : ∃ ao k d, v = .slice ao k d := by
  obtain ⟨_, h2⟩ := h
  rcases h2 with ⟨rfl, _⟩ | ⟨g, cap, cur, rfl, _⟩
  · exact ⟨_, _, _, rfl⟩
  · exact ⟨_, _, _, rfl⟩
theorem ownsRow_own {w : World} {base : Nat} {e : TypeId} {c n : Nat} {v : Value} {xs : List Value} (h : w.ownsRow base e c v n xs) (hn : 0 < n) : ∃ g cap, v = .slice (some ⟨g, 0, none⟩) n cap := by
  obtain ⟨_, h2⟩ := h
  rcases h2 with ⟨_, h0⟩ | ⟨g, cap, cur, rfl, _⟩
  · omega
  · exact ⟨_, _, rfl⟩
theorem chk1_all {a b : Nat} (ha : a < 16) (hb : b < 33) : chk1 a b = true := by
  have key : ((List.range 33).all fun b => chk1 a b) = true := by
    match a, ha with
    | 0, _ => exact chk1_0
    | 1, _ => exact chk1_1
    | 2, _ => exact chk1_2
    | 3, _ => exact chk1_3
    | 4, _ => exact chk1_4
    | 5, _ => exact chk1_5
    | 6, _ => exact chk1_6
    | 7, _ => exact chk1_7
    | 8, _ => exact chk1_8
    | 9, _ => exact chk1_9
    | 10, _ => exact chk1_10
    | 11, _ => exact chk1_11
    | 12, _ => exact chk1_12
    | 13, _ => exact chk1_13
    | 14, _ => exact chk1_14
    | 15, _ => exact chk1_15
    | n + 16, h => exact absurd h (by omega)
  exact List.all_eq_true.1 key b (List.mem_range.2 hb)
theorem chk2_all {c d : Nat} (hc : c < 7) (hd : d < 8) : chk2 c d = true := by
  have key : ((List.range 8).all fun d => chk2 c d) = true := by
    match c, hc with
    | 0, _ => exact chk2_0
    | 1, _ => exact chk2_1
    | 2, _ => exact chk2_2
    | 3, _ => exact chk2_3
    | 4, _ => exact chk2_4
    | 5, _ => exact chk2_5
    | 6, _ => exact chk2_6
  exact List.all_eq_true.1 key d (List.mem_range.2 hd)
theorem wide_num {x : Nat} (h : finB .f32 x = true) : cn .f64 (wideQ x) = wideQ x := cn_of_not (isN_of_fin (by unfold wideQ; rw [widen_fin]; exact h))
theorem link_some {a link : Nat} (ha : a < 16) (h : linkQ a = link) : floatBits .quo .f32 (floatOfInt .f32 (1 + (a : Int))) 1082130432 = some link := by
  have hc := chk1_all ha (show 0 < 33 by decide)
  unfold chk1 chkA at hc
  simp only [Bool.and_eq_true] at hc
  rw [← h]
  exact fbits hc.1
/-- What is known of a link and of what a clock is faster by. -/
theorem facts1 {a b link : Nat} (ha : a < 16) (hb : b < 33) (h : linkQ a = link) : ∃ prod less two ap S LW SW MW DW G : Nat,
    floatBits .mul .f32 link (floatOfInt .f32 ((b : Int) - 16)) = some prod ∧ floatBits .quo .f32 prod 1098907648 = some less ∧ floatBits .mul .f32 1073741824 link = some two ∧ less < 4294967296 ∧ two < 4294967296
    ∧ (lockB less link && finB .f32 (lockQ less link)) = true ∧ lockQ less link = ap ∧ isN .f32 ap = false ∧ (lockB two link && finB .f32 (lockQ two link)) = false ∧ ltF .f32 ap 3196059648 = false ∧ gtF .f32 ap 1048576000 = false
    ∧ sineQ (cn .f32 ap) = S ∧ isN .f32 S = false ∧ finB .f32 link = true ∧ finB .f32 less = true ∧ finB .f32 S = true ∧ fconv .f32 .f64 link = LW ∧ fconv .f32 .f64 S = SW ∧ floatBits .mul .f64 LW SW = some MW ∧ fconv .f32 .f64 less = DW
    ∧ gapF (cn .f64 MW) (cn .f64 DW) = G ∧ isN .f64 G = false ∧ gtF .f64 G 4562254508917369340 = false := by
  have hc := chk1_all ha hb
  unfold chk1 chkA at hc
  simp only [Bool.and_eq_true, decide_eq_true_eq, Bool.not_eq_true'] at hc
  obtain ⟨k1, k2, k3, k4, k5, k6, k7, k8, k9, k10, k11, k12, k13, k14, k15⟩ := hc
  unfold shareQ lessQ twoQ shareQ at *
  rw [h] at k1 k2 k3 k4 k5 k6 k7 k8 k9 k10 k11 k12 k13 k14 k15
  obtain ⟨prod, hp⟩ : ∃ y, fbin .mul .f32 link (floatOfInt .f32 ((b : Int) - 16)) = y := ⟨_, rfl⟩
  have q2 := fbits k2
  rw [hp] at k2 k3 k5 k6 k8 k10 k11 k12 k13 k14 k15 q2
  obtain ⟨less, hL⟩ : ∃ y, fbin .quo .f32 prod 1098907648 = y := ⟨_, rfl⟩
  have q3 := fbits k3
  rw [hL] at k3 k5 k6 k8 k10 k11 k12 k13 k14 k15 q3
  have hapn : cn .f32 (lockQ less link) = lockQ less link := cn_of_not (isN_of_fin k5)
  refine ⟨prod, less, _, lockQ less link, sineQ (lockQ less link), wideQ link, wideQ (sineQ (lockQ less link)), pullG link (lockQ less link), wideQ less, gapG link less (lockQ less link), q2, q3, fbits k4, k6, k7, by rw [k8, k5]; rfl, rfl, isN_of_fin k5, by rw [k9]; rfl, k10, k11, by rw [hapn], isN_of_fin k12, k1, k3, k12, rfl, rfl, fbits k13, rfl, ?_, isN_of_fin k14, k15⟩
  show gapF (cn .f64 (pullG link (lockQ less link))) (cn .f64 (wideQ less)) = gapF (pullG link (lockQ less link)) (wideQ less)
  rw [wide_num k3, cn_of_not (isN_of_fin k13)]
/-- What is known of an escapement. -/
theorem kept_some {c keep : Nat} (hc : c < 7) (h : keepQ c = keep) : floatBits .quo .f32 (floatOfInt .f32 (c : Int)) 1090519040 = some keep := by
  have h1 := chk2_all hc (show 0 < 8 by decide)
  unfold chk2 chkB at h1
  simp only [Bool.and_eq_true] at h1
  rw [← h]
  exact fbits h1.1
theorem kick_some {d kick : Nat} (hd : d < 8) (h : kickQ d = kick) : floatBits .quo .f32 (floatOfInt .f32 (1 + (d : Int))) 1082130432 = some kick := by
  have h1 := chk2_all (show 0 < 7 by decide) hd
  unfold chk2 chkB at h1
  simp only [Bool.and_eq_true] at h1
  rw [← h]
  exact fbits h1.2.1
def swingAt (keep kick k : Nat) : Nat := escS 1065353216 keep kick 0 k
theorem facts2 {c d keep kick : Nat} (hc : c < 7) (hd : d < 8) (h : keepQ c = keep) (h' : kickQ d = kick) : ∃ rest same none SW RW G : Nat,
    restB keep kick = true ∧ restQ keep kick = rest ∧ isN .f32 rest = false ∧ escR rest keep kick 0 = true ∧ escQ rest keep kick 0 = same ∧ isN .f32 same = false ∧ finB .f32 same = true ∧ finB .f32 rest = true
    ∧ fconv .f32 .f64 same = SW ∧ fconv .f32 .f64 rest = RW ∧ gapF (cn .f64 SW) (cn .f64 RW) = G ∧ isN .f64 G = false ∧ gtF .f64 G 4562254508917369340 = false ∧ runEB 1065353216 keep kick 0 40 = true
    ∧ escR 1065353216 keep kick 1073741824 = true ∧ escQ 1065353216 keep kick 1073741824 = none ∧ isN .f32 none = false ∧ eqF .f32 none keep = true
    ∧ ∀ k, k < 40 → ∃ x y XW YW GX GY MX : Nat, swingAt keep kick k = x ∧ swingAt keep kick (k + 1) = y ∧ escR x keep kick 0 = true ∧ escQ x keep kick 0 = y ∧ isN .f32 y = false ∧ y < 4294967296 ∧ finB .f32 x = true ∧ finB .f32 y = true ∧ sameB y y = true
      ∧ fconv .f32 .f64 x = XW ∧ fconv .f32 .f64 y = YW ∧ gapF (cn .f64 XW) (cn .f64 RW) = GX ∧ isN .f64 GX = false ∧ gapF (cn .f64 YW) (cn .f64 RW) = GY ∧ isN .f64 GY = false ∧ floatBits .add .f64 GX 4562254508917369340 = some MX ∧ gtF .f64 GY MX = false := by
  have h1 := chk2_all hc hd
  unfold chk2 chkB at h1
  rw [h, h'] at h1
  simp only [Bool.and_eq_true, Bool.not_eq_true'] at h1
  obtain ⟨k1, k2, k3, k4, k5, k6, k7, k8, k9, k10, k11⟩ := h1
  have hS : finB .f32 (escQ (restQ keep kick) keep kick 0) = true := by unfold escR at k5; simp only [Bool.and_eq_true] at k5; exact k5.2
  have hN : finB .f32 (escQ 1065353216 keep kick 1073741824) = true := by unfold escR at k9; simp only [Bool.and_eq_true] at k9; exact k9.2
  refine ⟨_, _, _, _, _, _, k4, rfl, isN_of_fin k3, k5, rfl, isN_of_fin hS, hS, k3, rfl, rfl, rfl, ?_, ?_, k8, k9, rfl, isN_of_fin hN, k10, ?_⟩
  · show isN .f64 (gapF (cn .f64 (wideQ _)) (cn .f64 (wideQ _))) = false
    rw [wide_num hS, wide_num k3]
    exact isN_of_fin k6
  · show gtF .f64 (gapF (cn .f64 (wideQ _)) (cn .f64 (wideQ _))) _ = false
    rw [wide_num hS, wide_num k3]
    exact k7
  · intro k hk
    have h2 := List.all_eq_true.1 k11 k (List.mem_range.2 hk)
    unfold stepOk at h2
    simp only [Bool.and_eq_true, decide_eq_true_eq, Bool.not_eq_true'] at h2
    obtain ⟨m1, m2, m3, m4, m5, m6, m7⟩ := h2
    have hX : finB .f32 (escS 1065353216 keep kick 0 k) = true := by unfold escR escB at m1; simp only [Bool.and_eq_true] at m1; exact m1.1.1.1.1
    have e1 : gapF (cn .f64 (fconv .f32 .f64 (escS 1065353216 keep kick 0 k))) (cn .f64 (fconv .f32 .f64 (restQ keep kick))) = gapR (escS 1065353216 keep kick 0 k) (restQ keep kick) := by
      show gapF (cn .f64 (wideQ _)) (cn .f64 (wideQ _)) = _
      rw [wide_num hX, wide_num k3]
      rfl
    have e2 : gapF (cn .f64 (fconv .f32 .f64 (escS 1065353216 keep kick 0 (k + 1)))) (cn .f64 (fconv .f32 .f64 (restQ keep kick))) = gapR (escS 1065353216 keep kick 0 (k + 1)) (restQ keep kick) := by
      show gapF (cn .f64 (wideQ _)) (cn .f64 (wideQ _)) = _
      rw [wide_num m2, wide_num k3]
      rfl
    exact ⟨_, _, _, _, _, _, _, rfl, rfl, m1, rfl, isN_of_fin m2, m3, hX, m2, beq_self_eq_true _, rfl, rfl, e1, isN_of_fin m4, e2, isN_of_fin m5, fbits m6, m7⟩
end Go.Proofs.Ytoiomgofbohmoaa
