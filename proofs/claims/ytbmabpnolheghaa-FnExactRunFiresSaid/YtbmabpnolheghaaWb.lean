/-
  The walks of the functions that ask whether numbers, vectors, swings, spins and pendulums are the same.
-/
import Derived.Test.YtbmabpnolheghaaWa
import Derived.Deep.RegionWith
import Derived.BigQuiet
set_option linter.unusedVariables false
set_option linter.unusedSimpArgs false
namespace Go.Proofs.Ytbmabpnolheghaa
open Go.RowKit

@[go_sem] theorem f32bits_call (b : Nat) (w : World) : (callFunc 124 #[.float .f32 b]).run Try.prog w = .ok (.value (.int .u32 b)) w := by
  rw [run_callFunc_extern Try.func124 (by kernel_rfl) (by kernel_rfl) (by kernel_rfl) (e := Extern.MathFloatBits.float32bits) (by kernel_rfl)]
  rfl

theorem isNaN_any (x : Nat) (w : World) : Calls Try.prog 123 #[.float .f32 x] w (RB (isN .f32 x) w) := by
  go_enter Try.func123, Try.ntmps123
  go_wp2_with fail
  go_ret
  exact ⟨0, ret_bool (by simp [eqF_self]), rfl⟩

theorem SameNumber_any (x y : Nat) (w : World) : Calls Try.prog 68 #[.float .f32 x, .float .f32 y] w (RB (sameB x y) w) := by
  have e1 := sameB_of x y
  have e2 := sameB_nan x y
  have E1 := Lib.hid e1
  have E2 := Lib.hid e2
  clear e1 e2
  cases hx : isN .f32 x <;> cases hy : isN .f32 y
  all_goals
    go_enter Try.func68, Try.ntmps68
    go_wp2_with (first | (go_at_call 123; refine (isNaN_any _ _).mono ?_; rintro e w' ⟨n, rfl, rfl⟩))
    go_ret
    refine ⟨_, ret_bool ?_, rfl⟩
  · exact E1.out hx hy
  · rw [← E2.out (.inr hy), hx]; simp
  · rw [← E2.out (.inl hx), hy]; simp
  · rw [← E2.out (.inl hx), hx, hy]; simp

theorem l01Bits_any (x : Nat) (w : World) (hx : x < 4294967296) : Calls Try.prog 122 #[.float .f32 x] w fun e w' => e = .returned (.int .i64 (cn .f32 x)) ∧ w' = w := by
  have e0 := eqF_self .f32 x
  have E1 : Hid (isN .f32 x = false → cn .f32 x = x) := cn_of_not
  have E2 : Hid (isN .f32 x = true → cn .f32 x = nanOf .f32) := cn_of_nan
  cases h : isN .f32 x
  all_goals
    rw [h] at e0
    go_enter Try.func122, Try.ntmps122
    go_wp2
    go_ret
    refine ⟨ret_int ?_, rfl⟩
  · rw [E1.out h]
  · rw [E2.out h]; rfl

theorem l01Same_any (x y : Nat) (w : World) (hx : x < 4294967296) (hy : y < 4294967296) : Calls Try.prog 65 #[.float .f32 x, .float .f32 y] w (RB (sameB x y) w) := by
  go_enter Try.func65, Try.ntmps65
  go_wp2_with (first | (go_at_call 122; refine (l01Bits_any _ _ (by assumption)).mono ?_; rintro e w' ⟨rfl, rfl⟩))
  go_ret
  exact ⟨0, ret_bool (sameB_int x y), rfl⟩

theorem l01Same_lit {x y : Nat} {w : World} {v : Bool} (h : sameB x y = v) (hx : x < 4294967296) (hy : y < 4294967296) : Calls Try.prog 65 #[.float .f32 x, .float .f32 y] w (RB v w) := h ▸ l01Same_any x y w hx hy

theorem equalFunc_any (l m : List Nat) (b o c b' o' c' : Nat) (w : World) (hl : l.length ≤ maxLen) (hm : m.length ≤ maxLen)
    (hc : ∀ i, i < l.length → w.cell? ⟨b, o + i, none⟩ = some (.float .f32 (l.getD i 0))) (hd : ∀ i, i < m.length → w.cell? ⟨b', o' + i, none⟩ = some (.float .f32 (m.getD i 0))) :
    Calls Try.prog 134 #[.slice (some ⟨b, o, none⟩) l.length c, .slice (some ⟨b', o', none⟩) m.length c', .func (.func 68) #[] #[]] w (RB (sameL l m) w) := by
  unfold maxLen at hl hm
  by_cases he : l.length = m.length
  · have HE := Lib.hid he
    have hmb : (((l.length : Nat) : Int) != ((m.length : Nat) : Int)) = false := by simp [he]
    have hle : l.length ≤ m.length := Nat.le_of_eq he
    have hge : m.length ≤ l.length := Nat.le_of_eq he.symm
    clear he
    go_enter Try.func134, Try.ntmps134
    go_wp2
    clear hmb
    go_loopw [17] (fun v wr => ∃ k n : Nat, k ≤ l.length ∧ v = .int .i64 k ∧ wr = w.drewN n ∧ Hid (∀ i, i < k → sameB (l.getD i 0) (m.getD i 0) = true)) (fun v _ => l.length - (intOf v).toNat)
    case atStart => exact ⟨0, 0, Nat.zero_le _, rfl, rfl, fun i h => absurd h (by omega)⟩
    case round =>
      obtain ⟨k, n, hk, rfl, rfl, hall⟩ := hrel
      by_cases hlt : k < l.length
      · have hlt' : k < m.length := by omega
        obtain ⟨x, hxl, hcell⟩ : ∃ x, Hid (l.getD k 0 = x) ∧ w.cell? ⟨b, o + k, none⟩ = some (.float .f32 x) := ⟨_, rfl, hc k hlt⟩
        obtain ⟨y, hyl, hcell'⟩ : ∃ y, Hid (m.getD k 0 = y) ∧ w.cell? ⟨b', o' + k, none⟩ = some (.float .f32 y) := ⟨_, rfl, hd k hlt'⟩
        clear hc hd
        cases hx : sameB x y
        · go_wp2_with (first | (go_at_call 68; refine (SameNumber_any _ _ _).mono ?_; rintro e w' ⟨n', rfl, rfl⟩))
          go_ret
          have hb := sameL_here l m k hlt hlt' (by rw [hxl.out, hyl.out]; exact hx)
          exact ⟨_, ret_bool hb.symm, rfl⟩
        · go_wp2_with (first | (go_at_call 68; refine (SameNumber_any _ _ _).mono ?_; rintro e w' ⟨n', rfl, rfl⟩))
          go_roundw
          case rel =>
            refine ⟨k + 1, n + n', by omega, by go_num, rfl, fun i hi => ?_⟩
            by_cases hik : i = k
            · subst hik; rw [hxl.out, hyl.out]; exact hx
            · exact hall.out i (by omega)
          case measure => simp [intOf]; omega
      · have hkl : k = l.length := by omega
        have h2 : Hid (sameL l m = true) := sameL_all l m HE.out (fun i hi => hall.out i (by omega))
        clear hc hd
        go_wp2
        go_ret
        exact ⟨n, ret_bool h2.out.symm, rfl⟩
  · have hmb : (((l.length : Nat) : Int) != ((m.length : Nat) : Int)) = true := by simp; omega
    have h2 : Hid (sameL l m = false) := sameL_of_len l m he
    clear hc hd
    go_enter Try.func134, Try.ntmps134
    go_wp2
    go_ret
    exact ⟨0, ret_bool h2.out.symm, rfl⟩

theorem sameList_any (l m : List Nat) (b o c b' o' c' : Nat) (w : World) (hl : l.length ≤ maxLen) (hm : m.length ≤ maxLen)
    (hc : ∀ i, i < l.length → w.cell? ⟨b, o + i, none⟩ = some (.float .f32 (l.getD i 0))) (hd : ∀ i, i < m.length → w.cell? ⟨b', o' + i, none⟩ = some (.float .f32 (m.getD i 0))) :
    Calls Try.prog 84 #[.slice (some ⟨b, o, none⟩) l.length c, .slice (some ⟨b', o', none⟩) m.length c'] w (RB (sameL l m) w) := by
  have H := Lib.hid hc
  have H' := Lib.hid hd
  clear hc hd
  go_enter Try.func84, Try.ntmps84
  go_wp2_with (first | (go_at_call 134; refine (equalFunc_any l m b o c b' o' c' _ hl hm H.out H'.out).mono ?_; rintro e w' ⟨n, rfl, rfl⟩))
  go_ret
  exact ⟨n, rfl, rfl⟩

def same3 (x0 x1 x2 y0 y1 y2 : Nat) : Bool := sameB x0 y0 && sameB x1 y1 && sameB x2 y2
theorem sameList3_any (x0 x1 x2 y0 y1 y2 b b' : Nat) (w : World) (h0 : w.cell? ⟨b, 0, none⟩ = some (.float .f32 x0)) (h1 : w.cell? ⟨b, 1, none⟩ = some (.float .f32 x1)) (h2 : w.cell? ⟨b, 2, none⟩ = some (.float .f32 x2)) (k0 : w.cell? ⟨b', 0, none⟩ = some (.float .f32 y0)) (k1 : w.cell? ⟨b', 1, none⟩ = some (.float .f32 y1)) (k2 : w.cell? ⟨b', 2, none⟩ = some (.float .f32 y2)) :
    Calls Try.prog 84 #[.slice (some ⟨b, 0, none⟩) 3 3, .slice (some ⟨b', 0, none⟩) 3 3] w (RB (same3 x0 x1 x2 y0 y1 y2) w) := by
  have h := sameList_any [x0, x1, x2] [y0, y1, y2] b 0 3 b' 0 3 w (by simp [maxLen]) (by simp [maxLen]) (by
    intro i hi
    match i, hi with
    | 0, _ => simpa using h0
    | 1, _ => simpa using h1
    | 2, _ => simpa using h2) (by
    intro i hi
    match i, hi with
    | 0, _ => simpa using k0
    | 1, _ => simpa using k1
    | 2, _ => simpa using k2)
  have e : sameL [x0, x1, x2] [y0, y1, y2] = same3 x0 x1 x2 y0 y1 y2 := by simp [sameL, same3, Bool.and_assoc]
  rw [e] at h
  exact h

def same4 (x0 x1 x2 x3 y0 y1 y2 y3 : Nat) : Bool := sameB x0 y0 && sameB x1 y1 && sameB x2 y2 && sameB x3 y3
theorem sameList4_any (x0 x1 x2 x3 y0 y1 y2 y3 b b' : Nat) (w : World) (h0 : w.cell? ⟨b, 0, none⟩ = some (.float .f32 x0)) (h1 : w.cell? ⟨b, 1, none⟩ = some (.float .f32 x1)) (h2 : w.cell? ⟨b, 2, none⟩ = some (.float .f32 x2)) (h3 : w.cell? ⟨b, 3, none⟩ = some (.float .f32 x3)) (k0 : w.cell? ⟨b', 0, none⟩ = some (.float .f32 y0)) (k1 : w.cell? ⟨b', 1, none⟩ = some (.float .f32 y1)) (k2 : w.cell? ⟨b', 2, none⟩ = some (.float .f32 y2)) (k3 : w.cell? ⟨b', 3, none⟩ = some (.float .f32 y3)) :
    Calls Try.prog 84 #[.slice (some ⟨b, 0, none⟩) 4 4, .slice (some ⟨b', 0, none⟩) 4 4] w (RB (same4 x0 x1 x2 x3 y0 y1 y2 y3) w) := by
  have h := sameList_any [x0, x1, x2, x3] [y0, y1, y2, y3] b 0 4 b' 0 4 w (by simp [maxLen]) (by simp [maxLen]) (by
    intro i hi
    match i, hi with
    | 0, _ => simpa using h0
    | 1, _ => simpa using h1
    | 2, _ => simpa using h2
    | 3, _ => simpa using h3) (by
    intro i hi
    match i, hi with
    | 0, _ => simpa using k0
    | 1, _ => simpa using k1
    | 2, _ => simpa using k2
    | 3, _ => simpa using k3)
  have e : sameL [x0, x1, x2, x3] [y0, y1, y2, y3] = same4 x0 x1 x2 x3 y0 y1 y2 y3 := by simp [sameL, same4, Bool.and_assoc]
  rw [e] at h
  exact h

def same5 (x0 x1 x2 x3 x4 y0 y1 y2 y3 y4 : Nat) : Bool := sameB x0 y0 && sameB x1 y1 && sameB x2 y2 && sameB x3 y3 && sameB x4 y4
theorem sameList5_any (x0 x1 x2 x3 x4 y0 y1 y2 y3 y4 b b' : Nat) (w : World) (h0 : w.cell? ⟨b, 0, none⟩ = some (.float .f32 x0)) (h1 : w.cell? ⟨b, 1, none⟩ = some (.float .f32 x1)) (h2 : w.cell? ⟨b, 2, none⟩ = some (.float .f32 x2)) (h3 : w.cell? ⟨b, 3, none⟩ = some (.float .f32 x3)) (h4 : w.cell? ⟨b, 4, none⟩ = some (.float .f32 x4)) (k0 : w.cell? ⟨b', 0, none⟩ = some (.float .f32 y0)) (k1 : w.cell? ⟨b', 1, none⟩ = some (.float .f32 y1)) (k2 : w.cell? ⟨b', 2, none⟩ = some (.float .f32 y2)) (k3 : w.cell? ⟨b', 3, none⟩ = some (.float .f32 y3)) (k4 : w.cell? ⟨b', 4, none⟩ = some (.float .f32 y4)) :
    Calls Try.prog 84 #[.slice (some ⟨b, 0, none⟩) 5 5, .slice (some ⟨b', 0, none⟩) 5 5] w (RB (same5 x0 x1 x2 x3 x4 y0 y1 y2 y3 y4) w) := by
  have h := sameList_any [x0, x1, x2, x3, x4] [y0, y1, y2, y3, y4] b 0 5 b' 0 5 w (by simp [maxLen]) (by simp [maxLen]) (by
    intro i hi
    match i, hi with
    | 0, _ => simpa using h0
    | 1, _ => simpa using h1
    | 2, _ => simpa using h2
    | 3, _ => simpa using h3
    | 4, _ => simpa using h4) (by
    intro i hi
    match i, hi with
    | 0, _ => simpa using k0
    | 1, _ => simpa using k1
    | 2, _ => simpa using k2
    | 3, _ => simpa using k3
    | 4, _ => simpa using k4)
  have e : sameL [x0, x1, x2, x3, x4] [y0, y1, y2, y3, y4] = same5 x0 x1 x2 x3 x4 y0 y1 y2 y3 y4 := by simp [sameL, same5, Bool.and_assoc]
  rw [e] at h
  exact h

theorem numbersVector_any (x0 x1 x2 : Nat) (w : World) :
    Calls Try.prog 71 #[.agg #[.float .f32 x0, .float .f32 x1, .float .f32 x2]] w fun e w' => e = .returned (.slice (some ⟨w.heap.size + 1, 0, none⟩) 3 3) ∧ w' = (w.alloc (.cells #[.float .f32 x0, .float .f32 x1, .float .f32 x2] 38)).alloc (.cells #[.float .f32 x0, .float .f32 x1, .float .f32 x2] 23) := by
  go_enter Try.func71, Try.ntmps71
  go_wp2
  go_ret
  exact ⟨rfl, rfl⟩







end Go.Proofs.Ytbmabpnolheghaa
