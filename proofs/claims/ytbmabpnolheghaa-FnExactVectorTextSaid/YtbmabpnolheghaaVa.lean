/-
  The walks of texts of numbers.
-/
import Derived.Test.YtbmabpnolheghaaWb
import Derived.Test.YtbmabpnolheghaaSb
import Derived.Laws.BytesArg
import Derived.Maps.AppendAt
set_option linter.unusedVariables false
set_option linter.unusedSimpArgs false
namespace Go.Proofs.Ytbmabpnolheghaa
open Go.RowKit

theorem cnN_lt {x : Nat} (h : x < 4294967296) : cn .f32 x < 4294967296 := by
  unfold cn
  split
  · decide
  · exact h
def bl (l : List Int) : List Value := l.map (Value.int .u8)
def hexLit : ByteArray := { data := #[48, 49, 50, 51, 52, 53, 54, 55, 56, 57, 97, 98, 99, 100, 101, 102] }
theorem hexLit_size : hexLit.size = 16 := rfl
def hexC (d : Nat) : Int := if h : d < 16 then ((hexLit[d]'h).toNat : Int) else 0
theorem hexC_eq {d : Nat} (h : d < 16) : hexC d = ((hexLit[d]'h).toNat : Int) := dif_pos h
def hexV (N i : Nat) : Int := hexC (N / 16 ^ (7 - i) % 16)
def hexI (N i : Nat) : List Int := (List.range i).map (hexV N)
theorem hexI_snoc (N i : Nat) : bl (hexI N (i + 1)) = bl (hexI N i) ++ [.int .u8 (hexV N i)] := by
  unfold bl hexI
  rw [List.range_succ, List.map_append, List.map_append]
  rfl
theorem hexI_len (N i : Nat) : (hexI N i).length = i := by unfold hexI; rw [List.length_map, List.length_range]
theorem bl_get {l : List Int} {j : Nat} (h : j < l.length) : (bl l)[j]? = some (.int .u8 (l.getD j 0)) := by
  unfold bl
  rw [List.getElem?_map, List.getElem?_eq_getElem h, List.getD_eq_getElem?_getD, List.getElem?_eq_getElem h]
  rfl
theorem and15 (n : Int) : bits .and .i64 n 15 = n % 16 := by
  have h15 : (BitVec.ofInt 64 15).toNat = 2 ^ 4 - 1 := by decide
  have key : (BitVec.ofInt 64 n &&& BitVec.ofInt 64 15).toNat = (n % ((2 ^ 64 : Nat) : Int)).toNat % 2 ^ 4 := by
    rw [BitVec.toNat_and, BitVec.toNat_ofInt, h15, Nat.and_two_pow_sub_one_eq_mod]
  show IntKind.i64.wrap ((BitVec.ofInt 64 n &&& BitVec.ofInt 64 15).toNat : Nat) = n % 16
  rw [key, IntKind.wrap_i64]
  omega
theorem byte_one (x : Int) : ∀ u ∈ [Value.int .u8 x], u.oneCell' = true := by
  intro u hu
  rw [List.mem_singleton.1 hu]
  rfl
theorem info_Byte : (Try.prog.info? 5).map (fun i => (i.zero, i.size, i.bytes)) = some (some (.int .u8 0), 1, 1) := by kernel_rfl
theorem own_none {W : World} {g base : Nat} {e : TypeId} (hg : g = W.heap.size) (hb : base ≤ g) : (W.alloc (.cells #[] e)).ownsRow base e 1 (.slice (some ⟨g, 0, none⟩) 0 0) 0 [] := by
  subst hg
  exact World.ownsRow_made (base := base) (e := e) (size := 1) W #[] 0 hb (Nat.zero_le _) (by simp)
theorem own_len {w : World} {base : Nat} {e : TypeId} {c n : Nat} {v : Value} {xs : List Value} (h : w.ownsRow base e c v n xs) : ∃ ao d, v = .slice ao n d := by
  obtain ⟨_, h2⟩ := h
  rcases h2 with ⟨rfl, rfl⟩ | ⟨g, cap, cur, rfl, _⟩
  · exact ⟨_, _, rfl⟩
  · exact ⟨_, _, rfl⟩
theorem own_at {w : World} {base : Nat} {e : TypeId} {c n : Nat} {v : Value} {xs : List Value} (h : w.ownsRow base e c v n xs) (hn : 0 < n) : ∃ g cap, v = .slice (some ⟨g, 0, none⟩) n cap := by
  obtain ⟨_, h2⟩ := h
  rcases h2 with ⟨_, h0⟩ | ⟨g, cap, cur, rfl, _⟩
  · omega
  · exact ⟨_, _, rfl⟩
/-- The text of one number. -/
def hexT (x : Nat) : ByteArray := strOfNums (hexI (cn .f32 x) 8)

theorem isNaN_w (x : Nat) (w : World) : Calls Try.prog 123 #[.float .f32 x] w fun e w' => e = .returned (.bool (isN .f32 x)) ∧ w' = w := by
  go_enter Try.func123, Try.ntmps123
  go_wp2_with fail
  go_ret
  exact ⟨ret_bool (by simp [eqF_self]), rfl⟩

set_option maxRecDepth 100000 in
set_option maxHeartbeats 8000000 in
theorem BitsOf_any (x : Nat) (w : World) (hx : x < 4294967296) : Calls Try.prog 127 #[.float .f32 x] w fun e w' => e = .returned (.int .i64 ((cn .f32 x : Nat) : Int)) ∧ w' = w := by
  have e0 := eqF_self .f32 x
  have E1 : Hid (isN .f32 x = false → cn .f32 x = x) := cn_of_not
  have E2 : Hid (isN .f32 x = true → cn .f32 x = nanOf .f32) := cn_of_nan
  have hx2 : x ≤ 9223372036854775807 := by omega
  cases hn : isN .f32 x
  all_goals
    go_enter Try.func127, Try.ntmps127
    go_wp2_with (first | (go_at_call 123; refine (isNaN_w _ _).mono ?_; rintro e w' ⟨rfl, hw9⟩; rw [hn, hw9]))
    go_ret
    refine ⟨ret_int ?_, ?_⟩
    · first | (rw [E1.out hn]) | (rw [E2.out hn]; rfl)
    · rfl

theorem grown_below9 {B : Nat} {w a b : World} {base : Nat} {e : TypeId} {c n : Nat} {v : Value} {xs : List Value} (hb : Below B w a) (hg : a.grownBy b v.ownBlock) (ho : a.ownsRow base e c v n xs) (hB : B ≤ base) (h : B ≤ a.heap.size) : Below B w b := by
  refine hb.grown hg h (fun k hk => Nat.le_trans hB ?_)
  obtain ⟨_, h2⟩ := ho
  rcases h2 with ⟨rfl, _⟩ | ⟨g, cap, cur, rfl, h3, _⟩
  · cases hk
  · cases hk; exact h3

set_option maxRecDepth 100000 in
set_option maxHeartbeats 8000000 in
theorem l01Hex_any (x : Nat) (w : World) (hx : x < 4294967296) : Calls Try.prog 163 #[.float .f32 x] w fun e w' => e = .returned (.string (hexT x)) ∧ Below w.heap.size w w' := by
  have hN := cnN_lt hx
  unfold hexT
  obtain ⟨N, hN9⟩ : ∃ N, cn .f32 x = N := ⟨_, rfl⟩
  rw [hN9] at hN ⊢
  have HN9 := Lib.hid hN9
  obtain ⟨i0, hi0, hz0, hz1, hz2⟩ := info_parts info_Byte
  clear hN9
  go_enter Try.func163, Try.ntmps163
  go_wp2_with (first | (go_at_call 122; refine (l01Bits_any x _ hx).mono ?_; rintro e w' ⟨rfl, e9⟩; subst w'; rw [HN9.out]))
  go_loopw [5, 4] (fun jv uv wr => ∃ i : Nat, i ≤ 8 ∧ jv = .int .i64 (28 - 4 * (i : Int)) ∧ wr.ownsRow w.heap.size 5 1 uv i (bl (hexI N i)) ∧ Below w.heap.size w wr) (fun jv _ _ => (intOf jv + 4).toNat)
  case atStart => exact ⟨0, by omega, rfl, own_none rfl (Nat.le_refl _), by (repeat (first | assumption | (with_reducible exact Below.refl _ _) | (with_reducible refine Below.drewN ?_ _) | (with_reducible refine Below.drew ?_) | (with_reducible refine Below.allocS ?_ _) | ((with_reducible refine Below.setCell ?_ ?_ _); rotate_left; focus (first | omega | (simp; done) | (simp; omega))) | (with_reducible refine Below.step ?_ (by assumption))))⟩
  case round =>
    obtain ⟨i, hi, rfl, ho, hBr⟩ := hrel
    obtain ⟨ua, uc, rfl⟩ := own_len ho
    have OI := Lib.hid ho
    have hzr := hBr.size
    clear ho
    rcases (show i = 0 ∨ i = 1 ∨ i = 2 ∨ i = 3 ∨ i = 4 ∨ i = 5 ∨ i = 6 ∨ i = 7 ∨ i = 8 by omega) with hi0' | hi1 | hi2 | hi3 | hi4 | hi5 | hi6 | hi7 | hi8
    · obtain rfl : i = 0 := hi0'
      have hbit : bits .and .i64 ((N : Int) / 268435456) 15 = ((N / 16 ^ (7 - 0) % 16 : Nat) : Int) := by rw [and15]; simp; try omega
      obtain ⟨d, hd⟩ : ∃ d, N / 16 ^ (7 - 0) % 16 = d := ⟨_, rfl⟩
      rw [hd] at hbit
      have hd16 : d < 16 := by rw [← hd]; exact Nat.mod_lt _ (by decide)
      have hd16' : ((d : Int) < 16) := by omega
      have HV : Hid (hexV N 0 = ((hexLit[d]'hd16).toNat : Int)) := by show hexC (N / 16 ^ (7 - 0) % 16) = _; rw [hd]; exact hexC_eq hd16
      clear hd
      rw [show (28 - 4 * ((0 : Nat) : Int)) = 28 from rfl]
      go_wp2_with (first | (at_builtin; refine wpList_append_own_at _ rfl _ _ 159 rfl (w.heap.size) 5 i0 (.int .u8 0) 1 1 Try.underlying159 hi0 hz0 hz1 hz2 rfl (by decide) _ 0 (bl (hexI N 0)) rfl (by have h9 := OI.out; (repeat (first | (with_reducible refine World.ownsRow.alloc ?_ _) | (with_reducible refine ownsRow_drewN ?_ _) | ((with_reducible refine ownsRow_setCell_below ?_ ?_ _); rotate_left; focus (first | omega | (simp; done) | (simp; omega))))); exact h9) ⟨_, 0, none⟩ 1 1 [_] rfl rfl (cell_one_new _ _ _) (byte_one _) (by simp only [maxLen]; omega) (by omega) (by first | omega | (simp; omega)) ?_))
      intro v8 w8 ho8 hg8 _ _
      have O8 : Hid (w8.ownsRow w.heap.size 5 1 v8 (0 + 1) (bl (hexI N (0 + 1)))) := by
        show World.ownsRow _ _ _ _ _ _ _
        rw [hexI_snoc, HV.out]
        exact ho8
      have hb8 : Below w.heap.size w w8 := by
        refine grown_below9 (w := w) ?_ hg8 (base := w.heap.size) (e := 5) (c := 1) (n := 0) (xs := bl (hexI N 0)) (by have h9 := OI.out; (repeat (first | (with_reducible refine World.ownsRow.alloc ?_ _) | (with_reducible refine ownsRow_drewN ?_ _) | ((with_reducible refine ownsRow_setCell_below ?_ ?_ _); rotate_left; focus (first | omega | (simp; done) | (simp; omega))))); exact h9) (by first | omega | (simp; omega)) (by first | omega | (simp; omega))
        (repeat (first | assumption | (with_reducible exact Below.refl _ _) | (with_reducible refine Below.drewN ?_ _) | (with_reducible refine Below.drew ?_) | (with_reducible refine Below.allocS ?_ _) | ((with_reducible refine Below.setCell ?_ ?_ _); rotate_left; focus (first | omega | (simp; done) | (simp; omega))) | (with_reducible refine Below.step ?_ (by assumption))))
      clear ho8 hg8
      go_wp2_with fail
      go_roundw
      case rel => exact ⟨0 + 1, by omega, rfl, O8.out, hb8⟩
      case measure => simp [intOf]
    · obtain rfl : i = 1 := hi1
      have hbit : bits .and .i64 ((N : Int) / 16777216) 15 = ((N / 16 ^ (7 - 1) % 16 : Nat) : Int) := by rw [and15]; simp; try omega
      obtain ⟨d, hd⟩ : ∃ d, N / 16 ^ (7 - 1) % 16 = d := ⟨_, rfl⟩
      rw [hd] at hbit
      have hd16 : d < 16 := by rw [← hd]; exact Nat.mod_lt _ (by decide)
      have hd16' : ((d : Int) < 16) := by omega
      have HV : Hid (hexV N 1 = ((hexLit[d]'hd16).toNat : Int)) := by show hexC (N / 16 ^ (7 - 1) % 16) = _; rw [hd]; exact hexC_eq hd16
      clear hd
      rw [show (28 - 4 * ((1 : Nat) : Int)) = 24 from rfl]
      go_wp2_with (first | (at_builtin; refine wpList_append_own_at _ rfl _ _ 159 rfl (w.heap.size) 5 i0 (.int .u8 0) 1 1 Try.underlying159 hi0 hz0 hz1 hz2 rfl (by decide) _ 1 (bl (hexI N 1)) rfl (by have h9 := OI.out; (repeat (first | (with_reducible refine World.ownsRow.alloc ?_ _) | (with_reducible refine ownsRow_drewN ?_ _) | ((with_reducible refine ownsRow_setCell_below ?_ ?_ _); rotate_left; focus (first | omega | (simp; done) | (simp; omega))))); exact h9) ⟨_, 0, none⟩ 1 1 [_] rfl rfl (cell_one_new _ _ _) (byte_one _) (by simp only [maxLen]; omega) (by omega) (by first | omega | (simp; omega)) ?_))
      intro v8 w8 ho8 hg8 _ _
      have O8 : Hid (w8.ownsRow w.heap.size 5 1 v8 (1 + 1) (bl (hexI N (1 + 1)))) := by
        show World.ownsRow _ _ _ _ _ _ _
        rw [hexI_snoc, HV.out]
        exact ho8
      have hb8 : Below w.heap.size w w8 := by
        refine grown_below9 (w := w) ?_ hg8 (base := w.heap.size) (e := 5) (c := 1) (n := 1) (xs := bl (hexI N 1)) (by have h9 := OI.out; (repeat (first | (with_reducible refine World.ownsRow.alloc ?_ _) | (with_reducible refine ownsRow_drewN ?_ _) | ((with_reducible refine ownsRow_setCell_below ?_ ?_ _); rotate_left; focus (first | omega | (simp; done) | (simp; omega))))); exact h9) (by first | omega | (simp; omega)) (by first | omega | (simp; omega))
        (repeat (first | assumption | (with_reducible exact Below.refl _ _) | (with_reducible refine Below.drewN ?_ _) | (with_reducible refine Below.drew ?_) | (with_reducible refine Below.allocS ?_ _) | ((with_reducible refine Below.setCell ?_ ?_ _); rotate_left; focus (first | omega | (simp; done) | (simp; omega))) | (with_reducible refine Below.step ?_ (by assumption))))
      clear ho8 hg8
      go_wp2_with fail
      go_roundw
      case rel => exact ⟨1 + 1, by omega, rfl, O8.out, hb8⟩
      case measure => simp [intOf]
    · obtain rfl : i = 2 := hi2
      have hbit : bits .and .i64 ((N : Int) / 1048576) 15 = ((N / 16 ^ (7 - 2) % 16 : Nat) : Int) := by rw [and15]; simp; try omega
      obtain ⟨d, hd⟩ : ∃ d, N / 16 ^ (7 - 2) % 16 = d := ⟨_, rfl⟩
      rw [hd] at hbit
      have hd16 : d < 16 := by rw [← hd]; exact Nat.mod_lt _ (by decide)
      have hd16' : ((d : Int) < 16) := by omega
      have HV : Hid (hexV N 2 = ((hexLit[d]'hd16).toNat : Int)) := by show hexC (N / 16 ^ (7 - 2) % 16) = _; rw [hd]; exact hexC_eq hd16
      clear hd
      rw [show (28 - 4 * ((2 : Nat) : Int)) = 20 from rfl]
      go_wp2_with (first | (at_builtin; refine wpList_append_own_at _ rfl _ _ 159 rfl (w.heap.size) 5 i0 (.int .u8 0) 1 1 Try.underlying159 hi0 hz0 hz1 hz2 rfl (by decide) _ 2 (bl (hexI N 2)) rfl (by have h9 := OI.out; (repeat (first | (with_reducible refine World.ownsRow.alloc ?_ _) | (with_reducible refine ownsRow_drewN ?_ _) | ((with_reducible refine ownsRow_setCell_below ?_ ?_ _); rotate_left; focus (first | omega | (simp; done) | (simp; omega))))); exact h9) ⟨_, 0, none⟩ 1 1 [_] rfl rfl (cell_one_new _ _ _) (byte_one _) (by simp only [maxLen]; omega) (by omega) (by first | omega | (simp; omega)) ?_))
      intro v8 w8 ho8 hg8 _ _
      have O8 : Hid (w8.ownsRow w.heap.size 5 1 v8 (2 + 1) (bl (hexI N (2 + 1)))) := by
        show World.ownsRow _ _ _ _ _ _ _
        rw [hexI_snoc, HV.out]
        exact ho8
      have hb8 : Below w.heap.size w w8 := by
        refine grown_below9 (w := w) ?_ hg8 (base := w.heap.size) (e := 5) (c := 1) (n := 2) (xs := bl (hexI N 2)) (by have h9 := OI.out; (repeat (first | (with_reducible refine World.ownsRow.alloc ?_ _) | (with_reducible refine ownsRow_drewN ?_ _) | ((with_reducible refine ownsRow_setCell_below ?_ ?_ _); rotate_left; focus (first | omega | (simp; done) | (simp; omega))))); exact h9) (by first | omega | (simp; omega)) (by first | omega | (simp; omega))
        (repeat (first | assumption | (with_reducible exact Below.refl _ _) | (with_reducible refine Below.drewN ?_ _) | (with_reducible refine Below.drew ?_) | (with_reducible refine Below.allocS ?_ _) | ((with_reducible refine Below.setCell ?_ ?_ _); rotate_left; focus (first | omega | (simp; done) | (simp; omega))) | (with_reducible refine Below.step ?_ (by assumption))))
      clear ho8 hg8
      go_wp2_with fail
      go_roundw
      case rel => exact ⟨2 + 1, by omega, rfl, O8.out, hb8⟩
      case measure => simp [intOf]
    · obtain rfl : i = 3 := hi3
      have hbit : bits .and .i64 ((N : Int) / 65536) 15 = ((N / 16 ^ (7 - 3) % 16 : Nat) : Int) := by rw [and15]; simp; try omega
      obtain ⟨d, hd⟩ : ∃ d, N / 16 ^ (7 - 3) % 16 = d := ⟨_, rfl⟩
      rw [hd] at hbit
      have hd16 : d < 16 := by rw [← hd]; exact Nat.mod_lt _ (by decide)
      have hd16' : ((d : Int) < 16) := by omega
      have HV : Hid (hexV N 3 = ((hexLit[d]'hd16).toNat : Int)) := by show hexC (N / 16 ^ (7 - 3) % 16) = _; rw [hd]; exact hexC_eq hd16
      clear hd
      rw [show (28 - 4 * ((3 : Nat) : Int)) = 16 from rfl]
      go_wp2_with (first | (at_builtin; refine wpList_append_own_at _ rfl _ _ 159 rfl (w.heap.size) 5 i0 (.int .u8 0) 1 1 Try.underlying159 hi0 hz0 hz1 hz2 rfl (by decide) _ 3 (bl (hexI N 3)) rfl (by have h9 := OI.out; (repeat (first | (with_reducible refine World.ownsRow.alloc ?_ _) | (with_reducible refine ownsRow_drewN ?_ _) | ((with_reducible refine ownsRow_setCell_below ?_ ?_ _); rotate_left; focus (first | omega | (simp; done) | (simp; omega))))); exact h9) ⟨_, 0, none⟩ 1 1 [_] rfl rfl (cell_one_new _ _ _) (byte_one _) (by simp only [maxLen]; omega) (by omega) (by first | omega | (simp; omega)) ?_))
      intro v8 w8 ho8 hg8 _ _
      have O8 : Hid (w8.ownsRow w.heap.size 5 1 v8 (3 + 1) (bl (hexI N (3 + 1)))) := by
        show World.ownsRow _ _ _ _ _ _ _
        rw [hexI_snoc, HV.out]
        exact ho8
      have hb8 : Below w.heap.size w w8 := by
        refine grown_below9 (w := w) ?_ hg8 (base := w.heap.size) (e := 5) (c := 1) (n := 3) (xs := bl (hexI N 3)) (by have h9 := OI.out; (repeat (first | (with_reducible refine World.ownsRow.alloc ?_ _) | (with_reducible refine ownsRow_drewN ?_ _) | ((with_reducible refine ownsRow_setCell_below ?_ ?_ _); rotate_left; focus (first | omega | (simp; done) | (simp; omega))))); exact h9) (by first | omega | (simp; omega)) (by first | omega | (simp; omega))
        (repeat (first | assumption | (with_reducible exact Below.refl _ _) | (with_reducible refine Below.drewN ?_ _) | (with_reducible refine Below.drew ?_) | (with_reducible refine Below.allocS ?_ _) | ((with_reducible refine Below.setCell ?_ ?_ _); rotate_left; focus (first | omega | (simp; done) | (simp; omega))) | (with_reducible refine Below.step ?_ (by assumption))))
      clear ho8 hg8
      go_wp2_with fail
      go_roundw
      case rel => exact ⟨3 + 1, by omega, rfl, O8.out, hb8⟩
      case measure => simp [intOf]
    · obtain rfl : i = 4 := hi4
      have hbit : bits .and .i64 ((N : Int) / 4096) 15 = ((N / 16 ^ (7 - 4) % 16 : Nat) : Int) := by rw [and15]; simp; try omega
      obtain ⟨d, hd⟩ : ∃ d, N / 16 ^ (7 - 4) % 16 = d := ⟨_, rfl⟩
      rw [hd] at hbit
      have hd16 : d < 16 := by rw [← hd]; exact Nat.mod_lt _ (by decide)
      have hd16' : ((d : Int) < 16) := by omega
      have HV : Hid (hexV N 4 = ((hexLit[d]'hd16).toNat : Int)) := by show hexC (N / 16 ^ (7 - 4) % 16) = _; rw [hd]; exact hexC_eq hd16
      clear hd
      rw [show (28 - 4 * ((4 : Nat) : Int)) = 12 from rfl]
      go_wp2_with (first | (at_builtin; refine wpList_append_own_at _ rfl _ _ 159 rfl (w.heap.size) 5 i0 (.int .u8 0) 1 1 Try.underlying159 hi0 hz0 hz1 hz2 rfl (by decide) _ 4 (bl (hexI N 4)) rfl (by have h9 := OI.out; (repeat (first | (with_reducible refine World.ownsRow.alloc ?_ _) | (with_reducible refine ownsRow_drewN ?_ _) | ((with_reducible refine ownsRow_setCell_below ?_ ?_ _); rotate_left; focus (first | omega | (simp; done) | (simp; omega))))); exact h9) ⟨_, 0, none⟩ 1 1 [_] rfl rfl (cell_one_new _ _ _) (byte_one _) (by simp only [maxLen]; omega) (by omega) (by first | omega | (simp; omega)) ?_))
      intro v8 w8 ho8 hg8 _ _
      have O8 : Hid (w8.ownsRow w.heap.size 5 1 v8 (4 + 1) (bl (hexI N (4 + 1)))) := by
        show World.ownsRow _ _ _ _ _ _ _
        rw [hexI_snoc, HV.out]
        exact ho8
      have hb8 : Below w.heap.size w w8 := by
        refine grown_below9 (w := w) ?_ hg8 (base := w.heap.size) (e := 5) (c := 1) (n := 4) (xs := bl (hexI N 4)) (by have h9 := OI.out; (repeat (first | (with_reducible refine World.ownsRow.alloc ?_ _) | (with_reducible refine ownsRow_drewN ?_ _) | ((with_reducible refine ownsRow_setCell_below ?_ ?_ _); rotate_left; focus (first | omega | (simp; done) | (simp; omega))))); exact h9) (by first | omega | (simp; omega)) (by first | omega | (simp; omega))
        (repeat (first | assumption | (with_reducible exact Below.refl _ _) | (with_reducible refine Below.drewN ?_ _) | (with_reducible refine Below.drew ?_) | (with_reducible refine Below.allocS ?_ _) | ((with_reducible refine Below.setCell ?_ ?_ _); rotate_left; focus (first | omega | (simp; done) | (simp; omega))) | (with_reducible refine Below.step ?_ (by assumption))))
      clear ho8 hg8
      go_wp2_with fail
      go_roundw
      case rel => exact ⟨4 + 1, by omega, rfl, O8.out, hb8⟩
      case measure => simp [intOf]
    · obtain rfl : i = 5 := hi5
      have hbit : bits .and .i64 ((N : Int) / 256) 15 = ((N / 16 ^ (7 - 5) % 16 : Nat) : Int) := by rw [and15]; simp; try omega
      obtain ⟨d, hd⟩ : ∃ d, N / 16 ^ (7 - 5) % 16 = d := ⟨_, rfl⟩
      rw [hd] at hbit
      have hd16 : d < 16 := by rw [← hd]; exact Nat.mod_lt _ (by decide)
      have hd16' : ((d : Int) < 16) := by omega
      have HV : Hid (hexV N 5 = ((hexLit[d]'hd16).toNat : Int)) := by show hexC (N / 16 ^ (7 - 5) % 16) = _; rw [hd]; exact hexC_eq hd16
      clear hd
      rw [show (28 - 4 * ((5 : Nat) : Int)) = 8 from rfl]
      go_wp2_with (first | (at_builtin; refine wpList_append_own_at _ rfl _ _ 159 rfl (w.heap.size) 5 i0 (.int .u8 0) 1 1 Try.underlying159 hi0 hz0 hz1 hz2 rfl (by decide) _ 5 (bl (hexI N 5)) rfl (by have h9 := OI.out; (repeat (first | (with_reducible refine World.ownsRow.alloc ?_ _) | (with_reducible refine ownsRow_drewN ?_ _) | ((with_reducible refine ownsRow_setCell_below ?_ ?_ _); rotate_left; focus (first | omega | (simp; done) | (simp; omega))))); exact h9) ⟨_, 0, none⟩ 1 1 [_] rfl rfl (cell_one_new _ _ _) (byte_one _) (by simp only [maxLen]; omega) (by omega) (by first | omega | (simp; omega)) ?_))
      intro v8 w8 ho8 hg8 _ _
      have O8 : Hid (w8.ownsRow w.heap.size 5 1 v8 (5 + 1) (bl (hexI N (5 + 1)))) := by
        show World.ownsRow _ _ _ _ _ _ _
        rw [hexI_snoc, HV.out]
        exact ho8
      have hb8 : Below w.heap.size w w8 := by
        refine grown_below9 (w := w) ?_ hg8 (base := w.heap.size) (e := 5) (c := 1) (n := 5) (xs := bl (hexI N 5)) (by have h9 := OI.out; (repeat (first | (with_reducible refine World.ownsRow.alloc ?_ _) | (with_reducible refine ownsRow_drewN ?_ _) | ((with_reducible refine ownsRow_setCell_below ?_ ?_ _); rotate_left; focus (first | omega | (simp; done) | (simp; omega))))); exact h9) (by first | omega | (simp; omega)) (by first | omega | (simp; omega))
        (repeat (first | assumption | (with_reducible exact Below.refl _ _) | (with_reducible refine Below.drewN ?_ _) | (with_reducible refine Below.drew ?_) | (with_reducible refine Below.allocS ?_ _) | ((with_reducible refine Below.setCell ?_ ?_ _); rotate_left; focus (first | omega | (simp; done) | (simp; omega))) | (with_reducible refine Below.step ?_ (by assumption))))
      clear ho8 hg8
      go_wp2_with fail
      go_roundw
      case rel => exact ⟨5 + 1, by omega, rfl, O8.out, hb8⟩
      case measure => simp [intOf]
    · obtain rfl : i = 6 := hi6
      have hbit : bits .and .i64 ((N : Int) / 16) 15 = ((N / 16 ^ (7 - 6) % 16 : Nat) : Int) := by rw [and15]; simp; try omega
      obtain ⟨d, hd⟩ : ∃ d, N / 16 ^ (7 - 6) % 16 = d := ⟨_, rfl⟩
      rw [hd] at hbit
      have hd16 : d < 16 := by rw [← hd]; exact Nat.mod_lt _ (by decide)
      have hd16' : ((d : Int) < 16) := by omega
      have HV : Hid (hexV N 6 = ((hexLit[d]'hd16).toNat : Int)) := by show hexC (N / 16 ^ (7 - 6) % 16) = _; rw [hd]; exact hexC_eq hd16
      clear hd
      rw [show (28 - 4 * ((6 : Nat) : Int)) = 4 from rfl]
      go_wp2_with (first | (at_builtin; refine wpList_append_own_at _ rfl _ _ 159 rfl (w.heap.size) 5 i0 (.int .u8 0) 1 1 Try.underlying159 hi0 hz0 hz1 hz2 rfl (by decide) _ 6 (bl (hexI N 6)) rfl (by have h9 := OI.out; (repeat (first | (with_reducible refine World.ownsRow.alloc ?_ _) | (with_reducible refine ownsRow_drewN ?_ _) | ((with_reducible refine ownsRow_setCell_below ?_ ?_ _); rotate_left; focus (first | omega | (simp; done) | (simp; omega))))); exact h9) ⟨_, 0, none⟩ 1 1 [_] rfl rfl (cell_one_new _ _ _) (byte_one _) (by simp only [maxLen]; omega) (by omega) (by first | omega | (simp; omega)) ?_))
      intro v8 w8 ho8 hg8 _ _
      have O8 : Hid (w8.ownsRow w.heap.size 5 1 v8 (6 + 1) (bl (hexI N (6 + 1)))) := by
        show World.ownsRow _ _ _ _ _ _ _
        rw [hexI_snoc, HV.out]
        exact ho8
      have hb8 : Below w.heap.size w w8 := by
        refine grown_below9 (w := w) ?_ hg8 (base := w.heap.size) (e := 5) (c := 1) (n := 6) (xs := bl (hexI N 6)) (by have h9 := OI.out; (repeat (first | (with_reducible refine World.ownsRow.alloc ?_ _) | (with_reducible refine ownsRow_drewN ?_ _) | ((with_reducible refine ownsRow_setCell_below ?_ ?_ _); rotate_left; focus (first | omega | (simp; done) | (simp; omega))))); exact h9) (by first | omega | (simp; omega)) (by first | omega | (simp; omega))
        (repeat (first | assumption | (with_reducible exact Below.refl _ _) | (with_reducible refine Below.drewN ?_ _) | (with_reducible refine Below.drew ?_) | (with_reducible refine Below.allocS ?_ _) | ((with_reducible refine Below.setCell ?_ ?_ _); rotate_left; focus (first | omega | (simp; done) | (simp; omega))) | (with_reducible refine Below.step ?_ (by assumption))))
      clear ho8 hg8
      go_wp2_with fail
      go_roundw
      case rel => exact ⟨6 + 1, by omega, rfl, O8.out, hb8⟩
      case measure => simp [intOf]
    · obtain rfl : i = 7 := hi7
      have hbit : bits .and .i64 (N : Int) 15 = ((N / 16 ^ (7 - 7) % 16 : Nat) : Int) := by rw [and15]; simp; try omega
      obtain ⟨d, hd⟩ : ∃ d, N / 16 ^ (7 - 7) % 16 = d := ⟨_, rfl⟩
      rw [hd] at hbit
      have hd16 : d < 16 := by rw [← hd]; exact Nat.mod_lt _ (by decide)
      have hd16' : ((d : Int) < 16) := by omega
      have HV : Hid (hexV N 7 = ((hexLit[d]'hd16).toNat : Int)) := by show hexC (N / 16 ^ (7 - 7) % 16) = _; rw [hd]; exact hexC_eq hd16
      clear hd
      rw [show (28 - 4 * ((7 : Nat) : Int)) = 0 from rfl]
      go_wp2_with (first | (at_builtin; refine wpList_append_own_at _ rfl _ _ 159 rfl (w.heap.size) 5 i0 (.int .u8 0) 1 1 Try.underlying159 hi0 hz0 hz1 hz2 rfl (by decide) _ 7 (bl (hexI N 7)) rfl (by have h9 := OI.out; (repeat (first | (with_reducible refine World.ownsRow.alloc ?_ _) | (with_reducible refine ownsRow_drewN ?_ _) | ((with_reducible refine ownsRow_setCell_below ?_ ?_ _); rotate_left; focus (first | omega | (simp; done) | (simp; omega))))); exact h9) ⟨_, 0, none⟩ 1 1 [_] rfl rfl (cell_one_new _ _ _) (byte_one _) (by simp only [maxLen]; omega) (by omega) (by first | omega | (simp; omega)) ?_))
      intro v8 w8 ho8 hg8 _ _
      have O8 : Hid (w8.ownsRow w.heap.size 5 1 v8 (7 + 1) (bl (hexI N (7 + 1)))) := by
        show World.ownsRow _ _ _ _ _ _ _
        rw [hexI_snoc, HV.out]
        exact ho8
      have hb8 : Below w.heap.size w w8 := by
        refine grown_below9 (w := w) ?_ hg8 (base := w.heap.size) (e := 5) (c := 1) (n := 7) (xs := bl (hexI N 7)) (by have h9 := OI.out; (repeat (first | (with_reducible refine World.ownsRow.alloc ?_ _) | (with_reducible refine ownsRow_drewN ?_ _) | ((with_reducible refine ownsRow_setCell_below ?_ ?_ _); rotate_left; focus (first | omega | (simp; done) | (simp; omega))))); exact h9) (by first | omega | (simp; omega)) (by first | omega | (simp; omega))
        (repeat (first | assumption | (with_reducible exact Below.refl _ _) | (with_reducible refine Below.drewN ?_ _) | (with_reducible refine Below.drew ?_) | (with_reducible refine Below.allocS ?_ _) | ((with_reducible refine Below.setCell ?_ ?_ _); rotate_left; focus (first | omega | (simp; done) | (simp; omega))) | (with_reducible refine Below.step ?_ (by assumption))))
      clear ho8 hg8
      go_wp2_with fail
      go_roundw
      case rel => exact ⟨7 + 1, by omega, rfl, O8.out, hb8⟩
      case measure => simp [intOf]
    · obtain rfl : i = 8 := hi8
      have o9 := OI.out
      obtain ⟨g, cap, e9⟩ := own_at o9 (by omega)
      cases e9
      have hconv := run_convert_bytes_arg (P := Try.prog) wr 159 5 Try.underlying159 Try.underlying5 g 0 8 uc (hexI N 8) (hexI_len _ _) (fun i hi => by rw [Nat.zero_add]; exact (o9.cellAt i (by omega)).trans (bl_get (by rw [hexI_len]; exact hi))) 9 Try.underlying9
      have HCV := Lib.hid hconv
      clear o9
      rw [show (28 - 4 * ((8 : Nat) : Int)) = -4 from rfl]
      go_wp2_with fail
      go_ret
      exact ⟨rfl, hBr⟩

end Go.Proofs.Ytbmabpnolheghaa
