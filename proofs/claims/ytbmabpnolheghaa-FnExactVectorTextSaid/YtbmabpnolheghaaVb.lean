/-
  The walks of the text of a vector.
-/
import Derived.Test.YtbmabpnolheghaaVa
import Derived.Shelf.Strings.OnBuilder
import Derived.Ground.SlgnProg
set_option linter.unusedVariables false
set_option linter.unusedSimpArgs false
namespace Go.Proofs.Ytbmabpnolheghaa
open Go.RowKit

def commaB : ByteArray := { data := #[44] }
theorem strOfNums_size (l : List Int) : (strOfNums l).size = l.length := by
  unfold strOfNums
  show (List.map _ l).toArray.size = l.length
  simp
theorem hexT_size (x : Nat) : (hexT x).size = 8 := by unfold hexT; rw [strOfNums_size, hexI_len]
/-- The text of the first 'i' of three numbers. -/
def txtV (x0 x1 x2 : Nat) : Nat → ByteArray
  | 0 => ByteArray.empty
  | 1 => hexT x0
  | 2 => hexT x0 ++ ({ data := #[44] } ++ hexT x1)
  | _ => hexT x0 ++ ({ data := #[44] } ++ hexT x1) ++ ({ data := #[44] } ++ hexT x2)

set_option maxRecDepth 100000 in
set_option maxHeartbeats 8000000 in
theorem l01NText_any (x0 x1 x2 b c : Nat) (w : World) (hx0 : x0 < 4294967296) (hx1 : x1 < 4294967296) (hx2 : x2 < 4294967296) (hc : Held [(⟨b, 0, none⟩, .float .f32 x0), (⟨b, 1, none⟩, .float .f32 x1), (⟨b, 2, none⟩, .float .f32 x2)] w) : Calls Try.prog 125 #[.slice (some ⟨b, 0, none⟩) 3 c] w fun e w' => e = .returned (.string (txtV x0 x1 x2 3)) ∧ Below w.heap.size w w' := by
  have HC := Lib.hid hc
  simp only [Held, and_true] at hc
  have s0 := hexT_size x0
  have s1 := hexT_size x1
  have s2 := hexT_size x2
  have z1 : (txtV x0 x1 x2 1).size = 8 := s0
  have z2 : (txtV x0 x1 x2 2).size = 17 := by show (hexT x0 ++ ({ data := #[44] } ++ hexT x1)).size = 17; rw [ByteArray.size_append, ByteArray.size_append, s0, s1]; rfl
  go_enter Try.func125, Try.ntmps125
  go_wp2_with (first | (go_at_call 163; refine (l01Hex_any x0 _ hx0).mono ?_; rintro e w1 ⟨rfl, hb⟩; have hk := Held.below hb (l := [(⟨b, 0, none⟩, .float .f32 x0), (⟨b, 1, none⟩, .float .f32 x1), (⟨b, 2, none⟩, .float .f32 x2)]) (by simp [Held, *]); have HK := Lib.hid hk; simp only [Held, and_true] at hk))
  go_loopw [4, 3] (fun jv uv wr => ∃ i : Nat, 1 ≤ i ∧ i ≤ 3 ∧ jv = .int .i64 (i : Int) ∧ uv = .string (txtV x0 x1 x2 i) ∧ Below w.heap.size w wr ∧ Held [(⟨b, 0, none⟩, .float .f32 x0), (⟨b, 1, none⟩, .float .f32 x1), (⟨b, 2, none⟩, .float .f32 x2)] wr) (fun jv _ _ => 3 - (intOf jv).toNat)
  case atStart => exact ⟨1, by omega, by omega, rfl, rfl, hb, HK.out⟩
  case round =>
    obtain ⟨i, h1, h3, rfl, rfl, hBr, hH⟩ := hrel
    have HH := Lib.hid hH
    simp only [Held, and_true] at hH
    clear hk HK hb
    rcases (show i = 1 ∨ i = 2 ∨ i = 3 by omega) with hi1 | hi2 | hi3
    · obtain rfl : i = 1 := hi1
      go_wp2_with (first | (go_at_call 163; refine (l01Hex_any x1 _ hx1).mono ?_; rintro e w1 ⟨rfl, hb⟩; have hk := Held.below hb (l := [(⟨b, 0, none⟩, .float .f32 x0), (⟨b, 1, none⟩, .float .f32 x1), (⟨b, 2, none⟩, .float .f32 x2)]) (by simp [Held, *]); have HK := Lib.hid hk; simp only [Held, and_true] at hk))
      go_roundw
      case rel => exact ⟨2, by omega, by omega, rfl, rfl, by (repeat (first | assumption | (with_reducible exact Below.refl _ _) | (with_reducible refine Below.drewN ?_ _) | (with_reducible refine Below.drew ?_) | (with_reducible refine Below.allocS ?_ _) | ((with_reducible refine Below.setCell ?_ ?_ _); rotate_left; focus (first | omega | (simp; done) | (simp; omega))) | (with_reducible refine Below.step ?_ (by assumption)))), HK.out⟩
      case measure => simp [intOf]
    · obtain rfl : i = 2 := hi2
      go_wp2_with (first | (go_at_call 163; refine (l01Hex_any x2 _ hx2).mono ?_; rintro e w1 ⟨rfl, hb⟩; have hk := Held.below hb (l := [(⟨b, 0, none⟩, .float .f32 x0), (⟨b, 1, none⟩, .float .f32 x1), (⟨b, 2, none⟩, .float .f32 x2)]) (by simp [Held, *]); have HK := Lib.hid hk; simp only [Held, and_true] at hk))
      go_roundw
      case rel => exact ⟨3, by omega, by omega, rfl, rfl, by (repeat (first | assumption | (with_reducible exact Below.refl _ _) | (with_reducible refine Below.drewN ?_ _) | (with_reducible refine Below.drew ?_) | (with_reducible refine Below.allocS ?_ _) | ((with_reducible refine Below.setCell ?_ ?_ _); rotate_left; focus (first | omega | (simp; done) | (simp; omega))) | (with_reducible refine Below.step ?_ (by assumption)))), HK.out⟩
      case measure => simp [intOf]
    · obtain rfl : i = 3 := hi3
      go_wp2_with fail
      go_ret
      exact ⟨rfl, hBr⟩

set_option maxRecDepth 100000 in
set_option maxHeartbeats 8000000 in
theorem l01VText_any (x0 x1 x2 : Nat) (w : World) (hx0 : x0 < 4294967296) (hx1 : x1 < 4294967296) (hx2 : x2 < 4294967296) : Calls Try.prog 69 #[.agg #[.float .f32 x0, .float .f32 x1, .float .f32 x2]] w (fun e w' => e = .returned (.string (txtV x0 x1 x2 3)) ∧ Below w.heap.size w w') := by
  go_enter Try.func69, Try.ntmps69
  go_wp2_with (first | (go_at_call 125; refine (l01NText_any x0 x1 x2 _ _ _ hx0 hx1 hx2 (by simp [Held, go_sem])).mono ?_; rintro e w1 ⟨rfl, hb⟩))
  go_ret
  refine ⟨rfl, ?_⟩
  (repeat (first | assumption | (with_reducible exact Below.refl _ _) | (with_reducible refine Below.drewN ?_ _) | (with_reducible refine Below.drew ?_) | (with_reducible refine Below.allocS ?_ _) | ((with_reducible refine Below.setCell ?_ ?_ _); rotate_left; focus (first | omega | (simp; done) | (simp; omega))) | (with_reducible refine Below.step ?_ (by assumption))))

set_option maxRecDepth 100000 in
set_option maxHeartbeats 8000000 in
theorem specVectorText_any (x0 x1 x2 : Nat) (w : World) (hx0 : x0 < 4294967296) (hx1 : x1 < 4294967296) (hx2 : x2 < 4294967296) : Calls Try.prog 23 #[.agg #[.float .f32 x0, .float .f32 x1, .float .f32 x2]] w (fun e w' => e = .returned (.string (txtV x0 x1 x2 3)) ∧ Below w.heap.size w w') := by
  go_enter Try.func23, Try.ntmps23
  go_wp2_with (first | (go_at_call 69; refine (l01VText_any x0 x1 x2 _ hx0 hx1 hx2).mono ?_; rintro e w1 ⟨rfl, hb⟩))
  go_ret
  refine ⟨rfl, ?_⟩
  (repeat (first | assumption | (with_reducible exact Below.refl _ _) | (with_reducible refine Below.drewN ?_ _) | (with_reducible refine Below.drew ?_) | (with_reducible refine Below.allocS ?_ _) | ((with_reducible refine Below.setCell ?_ ?_ _); rotate_left; focus (first | omega | (simp; done) | (simp; omega))) | (with_reducible refine Below.step ?_ (by assumption))))

open Go.Shelf
def joinRen : Go.Shelf.Ren := ⟨fun | 156 => 164 | 165 => 181 | 166 => 182 | 169 => 183 | 240 => 202 | 241 => 203 | 276 => 213 | 277 => 214 | n => n, fun | 31 => 158 | 9 => 9 | 3 => 3 | 4 => 4 | 0 => 0 | 20 => 20 | 72 => 199 | 76 => 203 | 70 => 197 | 37 => 159 | 75 => 202 | 127 => 222 | 164 => 230 | 5 => 5 | 80 => 205 | n => n, fun | n => n⟩
theorem joinLays : Lays.n156 Try.prog joinRen := {
  mixed := by kernel_rfl
  f156 := Try.func164.trans (congrArg some (by kernel_rfl))
  f165 := Try.func181.trans (congrArg some (by kernel_rfl))
  f166 := Try.func182.trans (congrArg some (by kernel_rfl))
  f169 := Try.func183.trans (congrArg some (by kernel_rfl))
  f240 := Try.func202.trans (congrArg some (by kernel_rfl))
  f241 := Try.func203.trans (congrArg some (by kernel_rfl))
  f276 := Try.func213.trans (congrArg some (by kernel_rfl))
  f277 := Try.func214.trans (congrArg some (by kernel_rfl))
  t0 := Try.underlying0
  a0 := Try.isAgg0
  z0 := Try.sizeOf0
  v0 := Try.zeroValue0
  t3 := Try.underlying3
  a3 := Try.isAgg3
  z3 := Try.sizeOf3
  v3 := Try.zeroValue3
  t4 := Try.underlying4
  a4 := Try.isAgg4
  z4 := Try.sizeOf4
  v4 := Try.zeroValue4
  t9 := Try.underlying9
  a9 := Try.isAgg9
  z9 := Try.sizeOf9
  v9 := Try.zeroValue9
  t20 := Try.underlying20
  a20 := Try.isAgg20
  z20 := Try.sizeOf20
  v20 := Try.zeroValue20
  t31 := Try.underlying158
  a31 := Try.isAgg158
  z31 := Try.sizeOf158
  v31 := Try.zeroValue158
  t37 := Try.underlying159
  a37 := Try.isAgg159
  z37 := Try.sizeOf159
  v37 := Try.zeroValue159
  t70 := Try.underlying197
  a70 := Try.isAgg197
  z70 := Try.sizeOf197
  v70 := Try.zeroValue197
  t72 := Try.underlying199
  a72 := Try.isAgg199
  z72 := Try.sizeOf199
  v72 := Try.zeroValue199
  t75 := Try.underlying202
  a75 := Try.isAgg202
  z75 := Try.sizeOf202
  v75 := Try.zeroValue202
  t76 := Try.underlying203
  a76 := Try.isAgg203
  z76 := Try.sizeOf203
  v76 := Try.zeroValue203
  t127 := Try.underlying222
  a127 := Try.isAgg222
  z127 := Try.sizeOf222
  v127 := Try.zeroValue222
  t164 := Try.underlying230
  a164 := Try.isAgg230
  z164 := Try.sizeOf230
  v164 := Try.zeroValue230 }
theorem joinExtra : Builder.Extra Try.prog joinRen := {
  sizeBuilder := by kernel_rfl
  liesBuilder := by kernel_rfl
  t5 := Try.underlying5
  a5 := Try.isAgg5
  z5 := Try.sizeOf5
  v5 := Try.zeroValue5
  infoByte := by kernel_rfl
  cellsByte := by kernel_rfl
  sizeByte := by kernel_rfl
  neB5 := by decide }
theorem stringsJoin_any (bk o c : Nat) (xs : List ByteArray) (sep : ByteArray) (w : World) (hcells : ∀ (j : Nat) x, xs[j]? = some x → w.cell? ⟨bk, o + j, none⟩ = some (.string x)) (hbk : bk < w.heap.size) (hN : xs.length ≤ 140737488355328) (hcap : xs.length ≤ c) (hlen : (Lib.join (xs.map (·.data.toList)) sep.data.toList).length ≤ 140737488355328) :
    Calls Try.prog 164 #[.slice (some ⟨bk, o, none⟩) xs.length c, .string sep] w fun e w' => e = .returned (.string ⟨(Lib.join (xs.map (·.data.toList)) sep.data.toList).toArray⟩) ∧ Below w.heap.size w w' := Any.strings_Join joinLays joinExtra bk o c xs sep w hcells hbk hN hcap hlen

theorem join_three (a b c : ByteArray) : (⟨(Lib.join ([a, b, c].map (·.data.toList)) (ByteArray.data { data := #[44] }).toList).toArray⟩ : ByteArray) = a ++ ({ data := #[44] } ++ b) ++ ({ data := #[44] } ++ c) := by
  apply ByteArray.ext
  simp [Lib.join, List.intercalate, ByteArray.data_append]
theorem own_fit {w : World} {base : Nat} {e : TypeId} {c n g cap : Nat} {xs : List Value} (h : w.ownsRow base e c (.slice (some ⟨g, 0, none⟩) n cap) n xs) : n ≤ cap ∧ g < w.heap.size ∧ base ≤ g := by
  obtain ⟨_, h2⟩ := h
  rcases h2 with ⟨h3, _⟩ | ⟨g', cap', cur, h3, h4, h5, h6, _⟩
  · cases h3
  · cases h3
    refine ⟨h6, ?_, h4⟩
    rcases Nat.lt_or_ge g w.heap.size with h | h
    · exact h
    · rw [Array.getElem?_eq_none h] at h5; cases h5
def sl (l : List ByteArray) : List Value := l.map Value.string
theorem sl_get {l : List ByteArray} {j : Nat} {x : ByteArray} (h : l[j]? = some x) : (sl l)[j]? = some (.string x) := by
  unfold sl
  rw [List.getElem?_map, h]
  rfl
def partV (L : List Nat) (k : Nat) : List ByteArray := (L.take k).map hexT
theorem partV_snoc (L : List Nat) {k : Nat} (h : k < L.length) : sl (partV L (k + 1)) = sl (partV L k) ++ [.string (hexT (L.getD k 0))] := by
  unfold sl partV
  rw [List.take_add_one, List.getElem?_eq_getElem h, List.map_append, List.map_append, List.getD_eq_getElem?_getD, List.getElem?_eq_getElem h]
  rfl
theorem str_one (x : ByteArray) : ∀ u ∈ [Value.string x], u.oneCell' = true := by
  intro u hu
  rw [List.mem_singleton.1 hu]
  rfl
theorem info_Str : (Try.prog.info? 9).map (fun i => (i.zero, i.size, i.bytes)) = some (some (.string { data := #[] }), 1, 16) := by kernel_rfl

set_option maxRecDepth 100000 in
set_option maxHeartbeats 8000000 in
theorem listOk_three (a : Option Addr) (c : Nat) (w : World) : Calls Try.prog 126 #[.slice a 3 c] w fun e w' => e = .returned (.bool true) ∧ w' = w := by
  go_enter Try.func126, Try.ntmps126
  go_wp2_with fail
  go_ret
  exact ⟨ret_bool (by simp), rfl⟩

set_option maxRecDepth 100000 in
set_option maxHeartbeats 8000000 in
theorem joined_three (x0 x1 x2 bk o c : Nat) (w : World) (hcells : ∀ (j : Nat) x, (partV [x0, x1, x2] 3)[j]? = some x → w.cell? ⟨bk, o + j, none⟩ = some (.string x)) (hbk : bk < w.heap.size) (hcap : 3 ≤ c) : Calls Try.prog 128 #[.slice (some ⟨bk, o, none⟩) 3 c] w fun e w' => e = .returned (.string (txtV x0 x1 x2 3)) ∧ Below w.heap.size w w' := by
  have HJ := stringsJoin_any bk o c (partV [x0, x1, x2] 3) { data := #[44] } w hcells hbk (by show 3 ≤ _; omega) hcap (by
    show (Lib.join ([hexT x0, hexT x1, hexT x2].map (·.data.toList)) _).length ≤ _
    have h0 := hexT_size x0
    have h1 := hexT_size x1
    have h2 := hexT_size x2
    have e := congrArg ByteArray.size (join_three (hexT x0) (hexT x1) (hexT x2))
    simp only [ByteArray.size_append, h0, h1, h2] at e
    have e2 : (ByteArray.mk (Lib.join ([hexT x0, hexT x1, hexT x2].map (·.data.toList)) (ByteArray.data { data := #[44] }).toList).toArray).size = (Lib.join ([hexT x0, hexT x1, hexT x2].map (·.data.toList)) (ByteArray.data { data := #[44] }).toList).length := by
      show (List.toArray _).size = _
      simp
    rw [e2] at e
    rw [e]
    decide)
  have HJ2 : Calls Try.prog 164 #[.slice (some ⟨bk, o, none⟩) 3 c, .string { data := #[44] }] w fun e w' => e = .returned (.string (txtV x0 x1 x2 3)) ∧ Below w.heap.size w w' := by
    refine HJ.mono ?_
    rintro e w' ⟨rfl, hb⟩
    exact ⟨congrArg (fun s => Ending.returned (.string s)) (join_three (hexT x0) (hexT x1) (hexT x2)), hb⟩
  go_enter Try.func128, Try.ntmps128
  go_wp2_with (first | (go_at_call 164; refine HJ2.mono ?_; rintro e w1 ⟨rfl, hb⟩))
  go_ret
  exact ⟨rfl, hb⟩

set_option maxRecDepth 100000 in
set_option maxHeartbeats 8000000 in
theorem NumbersText_any (x0 x1 x2 b c : Nat) (w : World) (hx0 : x0 < 4294967296) (hx1 : x1 < 4294967296) (hx2 : x2 < 4294967296) (hc : Held [(⟨b, 0, none⟩, .float .f32 x0), (⟨b, 1, none⟩, .float .f32 x1), (⟨b, 2, none⟩, .float .f32 x2)] w) : Calls Try.prog 70 #[.slice (some ⟨b, 0, none⟩) 3 c] w fun e w' => e = .returned (.tuple #[.string (txtV x0 x1 x2 3), .bool true]) ∧ Below w.heap.size w w' := by
  have HC := Lib.hid hc
  simp only [Held, and_true] at hc
  obtain ⟨i0, hi0, hz0, hz1, hz2⟩ := info_parts info_Byte
  obtain ⟨j0, hj0, hy0, hy1, hy2⟩ := info_parts info_Str
  go_enter Try.func70, Try.ntmps70
  go_wp2_with (first | (go_at_call 126; refine (listOk_three _ _ _).mono ?_; rintro e w' ⟨rfl, e9⟩; subst w'))
  go_loopw [15, 4] (fun jv uv wr => ∃ k : Nat, k ≤ 3 ∧ jv = .int .i64 (k : Int) ∧ wr.ownsRow w.heap.size 9 1 uv k (sl (partV [x0, x1, x2] k)) ∧ Below w.heap.size w wr ∧ Held [(⟨b, 0, none⟩, .float .f32 x0), (⟨b, 1, none⟩, .float .f32 x1), (⟨b, 2, none⟩, .float .f32 x2)] wr) (fun jv _ _ => 3 - (intOf jv).toNat)
  case atStart => exact ⟨0, by omega, rfl, own_none rfl (Nat.le_refl _), by (repeat (first | assumption | (with_reducible exact Below.refl _ _) | (with_reducible refine Below.drewN ?_ _) | (with_reducible refine Below.drew ?_) | (with_reducible refine Below.allocS ?_ _) | ((with_reducible refine Below.setCell ?_ ?_ _); rotate_left; focus (first | omega | (simp; done) | (simp; omega))) | (with_reducible refine Below.step ?_ (by assumption)))), by simp [Held, go_sem, *]⟩
  case round =>
    obtain ⟨k, hk, rfl, ho, hBr, hH⟩ := hrel
    obtain ⟨W0, rfl⟩ : ∃ W0, W0 = wr := ⟨wr, rfl⟩
    obtain ⟨pa, pc, rfl⟩ := own_len ho
    have OP := Lib.hid ho
    have hzr := hBr.size
    have HH := Lib.hid hH
    simp only [Held, and_true] at hH
    clear ho hc
    by_cases hlt : k < 3
    · have d1 : decide ((k : Int) < 3) = true := decide_eq_true (by omega)
      obtain ⟨x, HX, hxc, hxf⟩ : ∃ x, Hid ([x0, x1, x2].getD k 0 = x ∧ x < 4294967296) ∧ W0.cell? ⟨b, k, none⟩ = some (.float .f32 x) ∧ W0.frozen? ⟨b, k, none⟩ = false := by
        rcases (show k = 0 ∨ k = 1 ∨ k = 2 by omega) with rfl | rfl | rfl
        · exact ⟨x0, ⟨rfl, hx0⟩, hH.1.2⟩
        · exact ⟨x1, ⟨rfl, hx1⟩, hH.2.1.2⟩
        · exact ⟨x2, ⟨rfl, hx2⟩, hH.2.2.2⟩
      have hN := cnN_lt HX.out.2
      obtain ⟨N, hN9⟩ : ∃ N, cn .f32 x = N := ⟨_, rfl⟩
      rw [hN9] at hN
      have HN9 := Lib.hid hN9
      clear hN9
      go_wp2_with fail
      go_loopw [8, 7] (fun jv uv wr2 => ∃ i : Nat, i ≤ 8 ∧ jv = .int .i64 (28 - 4 * (i : Int)) ∧ wr2.ownsRow W0.heap.size 5 1 uv i (bl (hexI N i)) ∧ Below W0.heap.size W0 wr2) (fun jv _ _ => (intOf jv + 4).toNat)
      case atStart => exact ⟨0, by omega, rfl, own_none rfl (Nat.le_refl _), by (repeat (first | assumption | (with_reducible exact Below.refl _ _) | (with_reducible refine Below.drewN ?_ _) | (with_reducible refine Below.drew ?_) | (with_reducible refine Below.allocS ?_ _) | ((with_reducible refine Below.setCell ?_ ?_ _); rotate_left; focus (first | omega | (simp; done) | (simp; omega))) | (with_reducible refine Below.step ?_ (by assumption))))⟩
      case round =>
        obtain ⟨i, hi, rfl, ho2, hBr2⟩ := hrel
        obtain ⟨ua, uc, rfl⟩ := own_len ho2
        have OI := Lib.hid ho2
        have hzr2 := hBr2.size
        clear ho2
        rcases (show i = 0 ∨ i = 1 ∨ i = 2 ∨ i = 3 ∨ i = 4 ∨ i = 5 ∨ i = 6 ∨ i = 7 ∨ i = 8 by omega) with hi0' | hi1 | hi2 | hi3 | hi4 | hi5 | hi6 | hi7 | hi8
        · obtain rfl : i = 0 := hi0'
          have hbit : bits .and .i64 ((N : Int) / 268435456) 15 = ((N / 16 ^ (7 - 0) % 16 : Nat) : Int) := by rw [and15]; simp; try omega
          obtain ⟨d, hd⟩ : ∃ d, N / 16 ^ (7 - 0) % 16 = d := ⟨_, rfl⟩
          rw [hd] at hbit
          have hd16 : d < 16 := by rw [← hd]; exact Nat.mod_lt _ (by decide)
          have hd16' : ((d : Int) < 16) := by omega
          have HV : Hid (hexV N 0 = ((hexLit[d]'hd16).toNat : Int)) := by show hexC (N / 16 ^ (7 - 0) % 16) = _; rw [hd]; exact hexC_eq hd16
          clear hd
          rw [show (28 - 4 * ((0 : Nat) : Int)) = 28 from rfl]
          go_wp2_with (first | (go_at_call 127; refine (BitsOf_any x _ HX.out.2).mono ?_; rintro e w' ⟨rfl, e9⟩; subst w'; rw [HN9.out]) | (at_builtin; refine wpList_append_own_at _ rfl _ _ 159 rfl (W0.heap.size) 5 i0 (.int .u8 0) 1 1 Try.underlying159 hi0 hz0 hz1 hz2 rfl (by decide) _ 0 (bl (hexI N 0)) rfl (by have h9 := OI.out; (repeat (first | (with_reducible refine World.ownsRow.alloc ?_ _) | (with_reducible refine ownsRow_drewN ?_ _) | ((with_reducible refine ownsRow_setCell_below ?_ ?_ _); rotate_left; focus (first | omega | (simp; done) | (simp; omega))))); exact h9) ⟨_, 0, none⟩ 1 1 [_] rfl rfl (cell_one_new _ _ _) (byte_one _) (by simp only [maxLen]; omega) (by omega) (by first | omega | (simp; omega)) ?_))
          intro v8 w8 ho8 hg8 _ _
          have O8 : Hid (w8.ownsRow W0.heap.size 5 1 v8 (0 + 1) (bl (hexI N (0 + 1)))) := by
            show World.ownsRow _ _ _ _ _ _ _
            rw [hexI_snoc, HV.out]
            exact ho8
          have hb8 : Below W0.heap.size W0 w8 := by
            refine grown_below9 (w := W0) ?_ hg8 (base := W0.heap.size) (e := 5) (c := 1) (n := 0) (xs := bl (hexI N 0)) (by have h9 := OI.out; (repeat (first | (with_reducible refine World.ownsRow.alloc ?_ _) | (with_reducible refine ownsRow_drewN ?_ _) | ((with_reducible refine ownsRow_setCell_below ?_ ?_ _); rotate_left; focus (first | omega | (simp; done) | (simp; omega))))); exact h9) (by first | omega | (simp; omega)) (by first | omega | (simp; omega))
            (repeat (first | assumption | (with_reducible exact Below.refl _ _) | (with_reducible refine Below.drewN ?_ _) | (with_reducible refine Below.drew ?_) | (with_reducible refine Below.allocS ?_ _) | ((with_reducible refine Below.setCell ?_ ?_ _); rotate_left; focus (first | omega | (simp; done) | (simp; omega))) | (with_reducible refine Below.step ?_ (by assumption))))
          clear ho8 hg8
          go_wp2_with fail
          go_roundw
          case rel => exact ⟨0 + 1, by omega, rfl, O8.out, hb8⟩
          case measure => simp [intOf]
        · obtain rfl : i = 1 := hi1
          have hbit : bits .and .i64 ((N : Int) / 16777216) 15 = ((N / 16 ^ (7 - 1) % 16 : Nat) : Int) := by rw [and15]; simp; try omega
          obtain ⟨d, hd⟩ : ∃ d, N / 16 ^ (7 - 1) % 16 = d := ⟨_, rfl⟩
          rw [hd] at hbit
          have hd16 : d < 16 := by rw [← hd]; exact Nat.mod_lt _ (by decide)
          have hd16' : ((d : Int) < 16) := by omega
          have HV : Hid (hexV N 1 = ((hexLit[d]'hd16).toNat : Int)) := by show hexC (N / 16 ^ (7 - 1) % 16) = _; rw [hd]; exact hexC_eq hd16
          clear hd
          rw [show (28 - 4 * ((1 : Nat) : Int)) = 24 from rfl]
          go_wp2_with (first | (go_at_call 127; refine (BitsOf_any x _ HX.out.2).mono ?_; rintro e w' ⟨rfl, e9⟩; subst w'; rw [HN9.out]) | (at_builtin; refine wpList_append_own_at _ rfl _ _ 159 rfl (W0.heap.size) 5 i0 (.int .u8 0) 1 1 Try.underlying159 hi0 hz0 hz1 hz2 rfl (by decide) _ 1 (bl (hexI N 1)) rfl (by have h9 := OI.out; (repeat (first | (with_reducible refine World.ownsRow.alloc ?_ _) | (with_reducible refine ownsRow_drewN ?_ _) | ((with_reducible refine ownsRow_setCell_below ?_ ?_ _); rotate_left; focus (first | omega | (simp; done) | (simp; omega))))); exact h9) ⟨_, 0, none⟩ 1 1 [_] rfl rfl (cell_one_new _ _ _) (byte_one _) (by simp only [maxLen]; omega) (by omega) (by first | omega | (simp; omega)) ?_))
          intro v8 w8 ho8 hg8 _ _
          have O8 : Hid (w8.ownsRow W0.heap.size 5 1 v8 (1 + 1) (bl (hexI N (1 + 1)))) := by
            show World.ownsRow _ _ _ _ _ _ _
            rw [hexI_snoc, HV.out]
            exact ho8
          have hb8 : Below W0.heap.size W0 w8 := by
            refine grown_below9 (w := W0) ?_ hg8 (base := W0.heap.size) (e := 5) (c := 1) (n := 1) (xs := bl (hexI N 1)) (by have h9 := OI.out; (repeat (first | (with_reducible refine World.ownsRow.alloc ?_ _) | (with_reducible refine ownsRow_drewN ?_ _) | ((with_reducible refine ownsRow_setCell_below ?_ ?_ _); rotate_left; focus (first | omega | (simp; done) | (simp; omega))))); exact h9) (by first | omega | (simp; omega)) (by first | omega | (simp; omega))
            (repeat (first | assumption | (with_reducible exact Below.refl _ _) | (with_reducible refine Below.drewN ?_ _) | (with_reducible refine Below.drew ?_) | (with_reducible refine Below.allocS ?_ _) | ((with_reducible refine Below.setCell ?_ ?_ _); rotate_left; focus (first | omega | (simp; done) | (simp; omega))) | (with_reducible refine Below.step ?_ (by assumption))))
          clear ho8 hg8
          go_wp2_with fail
          go_roundw
          case rel => exact ⟨1 + 1, by omega, rfl, O8.out, hb8⟩
          case measure => simp [intOf]
        · obtain rfl : i = 2 := hi2
          have hbit : bits .and .i64 ((N : Int) / 1048576) 15 = ((N / 16 ^ (7 - 2) % 16 : Nat) : Int) := by rw [and15]; simp; try omega
          obtain ⟨d, hd⟩ : ∃ d, N / 16 ^ (7 - 2) % 16 = d := ⟨_, rfl⟩
          rw [hd] at hbit
          have hd16 : d < 16 := by rw [← hd]; exact Nat.mod_lt _ (by decide)
          have hd16' : ((d : Int) < 16) := by omega
          have HV : Hid (hexV N 2 = ((hexLit[d]'hd16).toNat : Int)) := by show hexC (N / 16 ^ (7 - 2) % 16) = _; rw [hd]; exact hexC_eq hd16
          clear hd
          rw [show (28 - 4 * ((2 : Nat) : Int)) = 20 from rfl]
          go_wp2_with (first | (go_at_call 127; refine (BitsOf_any x _ HX.out.2).mono ?_; rintro e w' ⟨rfl, e9⟩; subst w'; rw [HN9.out]) | (at_builtin; refine wpList_append_own_at _ rfl _ _ 159 rfl (W0.heap.size) 5 i0 (.int .u8 0) 1 1 Try.underlying159 hi0 hz0 hz1 hz2 rfl (by decide) _ 2 (bl (hexI N 2)) rfl (by have h9 := OI.out; (repeat (first | (with_reducible refine World.ownsRow.alloc ?_ _) | (with_reducible refine ownsRow_drewN ?_ _) | ((with_reducible refine ownsRow_setCell_below ?_ ?_ _); rotate_left; focus (first | omega | (simp; done) | (simp; omega))))); exact h9) ⟨_, 0, none⟩ 1 1 [_] rfl rfl (cell_one_new _ _ _) (byte_one _) (by simp only [maxLen]; omega) (by omega) (by first | omega | (simp; omega)) ?_))
          intro v8 w8 ho8 hg8 _ _
          have O8 : Hid (w8.ownsRow W0.heap.size 5 1 v8 (2 + 1) (bl (hexI N (2 + 1)))) := by
            show World.ownsRow _ _ _ _ _ _ _
            rw [hexI_snoc, HV.out]
            exact ho8
          have hb8 : Below W0.heap.size W0 w8 := by
            refine grown_below9 (w := W0) ?_ hg8 (base := W0.heap.size) (e := 5) (c := 1) (n := 2) (xs := bl (hexI N 2)) (by have h9 := OI.out; (repeat (first | (with_reducible refine World.ownsRow.alloc ?_ _) | (with_reducible refine ownsRow_drewN ?_ _) | ((with_reducible refine ownsRow_setCell_below ?_ ?_ _); rotate_left; focus (first | omega | (simp; done) | (simp; omega))))); exact h9) (by first | omega | (simp; omega)) (by first | omega | (simp; omega))
            (repeat (first | assumption | (with_reducible exact Below.refl _ _) | (with_reducible refine Below.drewN ?_ _) | (with_reducible refine Below.drew ?_) | (with_reducible refine Below.allocS ?_ _) | ((with_reducible refine Below.setCell ?_ ?_ _); rotate_left; focus (first | omega | (simp; done) | (simp; omega))) | (with_reducible refine Below.step ?_ (by assumption))))
          clear ho8 hg8
          go_wp2_with fail
          go_roundw
          case rel => exact ⟨2 + 1, by omega, rfl, O8.out, hb8⟩
          case measure => simp [intOf]
        · obtain rfl : i = 3 := hi3
          have hbit : bits .and .i64 ((N : Int) / 65536) 15 = ((N / 16 ^ (7 - 3) % 16 : Nat) : Int) := by rw [and15]; simp; try omega
          obtain ⟨d, hd⟩ : ∃ d, N / 16 ^ (7 - 3) % 16 = d := ⟨_, rfl⟩
          rw [hd] at hbit
          have hd16 : d < 16 := by rw [← hd]; exact Nat.mod_lt _ (by decide)
          have hd16' : ((d : Int) < 16) := by omega
          have HV : Hid (hexV N 3 = ((hexLit[d]'hd16).toNat : Int)) := by show hexC (N / 16 ^ (7 - 3) % 16) = _; rw [hd]; exact hexC_eq hd16
          clear hd
          rw [show (28 - 4 * ((3 : Nat) : Int)) = 16 from rfl]
          go_wp2_with (first | (go_at_call 127; refine (BitsOf_any x _ HX.out.2).mono ?_; rintro e w' ⟨rfl, e9⟩; subst w'; rw [HN9.out]) | (at_builtin; refine wpList_append_own_at _ rfl _ _ 159 rfl (W0.heap.size) 5 i0 (.int .u8 0) 1 1 Try.underlying159 hi0 hz0 hz1 hz2 rfl (by decide) _ 3 (bl (hexI N 3)) rfl (by have h9 := OI.out; (repeat (first | (with_reducible refine World.ownsRow.alloc ?_ _) | (with_reducible refine ownsRow_drewN ?_ _) | ((with_reducible refine ownsRow_setCell_below ?_ ?_ _); rotate_left; focus (first | omega | (simp; done) | (simp; omega))))); exact h9) ⟨_, 0, none⟩ 1 1 [_] rfl rfl (cell_one_new _ _ _) (byte_one _) (by simp only [maxLen]; omega) (by omega) (by first | omega | (simp; omega)) ?_))
          intro v8 w8 ho8 hg8 _ _
          have O8 : Hid (w8.ownsRow W0.heap.size 5 1 v8 (3 + 1) (bl (hexI N (3 + 1)))) := by
            show World.ownsRow _ _ _ _ _ _ _
            rw [hexI_snoc, HV.out]
            exact ho8
          have hb8 : Below W0.heap.size W0 w8 := by
            refine grown_below9 (w := W0) ?_ hg8 (base := W0.heap.size) (e := 5) (c := 1) (n := 3) (xs := bl (hexI N 3)) (by have h9 := OI.out; (repeat (first | (with_reducible refine World.ownsRow.alloc ?_ _) | (with_reducible refine ownsRow_drewN ?_ _) | ((with_reducible refine ownsRow_setCell_below ?_ ?_ _); rotate_left; focus (first | omega | (simp; done) | (simp; omega))))); exact h9) (by first | omega | (simp; omega)) (by first | omega | (simp; omega))
            (repeat (first | assumption | (with_reducible exact Below.refl _ _) | (with_reducible refine Below.drewN ?_ _) | (with_reducible refine Below.drew ?_) | (with_reducible refine Below.allocS ?_ _) | ((with_reducible refine Below.setCell ?_ ?_ _); rotate_left; focus (first | omega | (simp; done) | (simp; omega))) | (with_reducible refine Below.step ?_ (by assumption))))
          clear ho8 hg8
          go_wp2_with fail
          go_roundw
          case rel => exact ⟨3 + 1, by omega, rfl, O8.out, hb8⟩
          case measure => simp [intOf]
        · obtain rfl : i = 4 := hi4
          have hbit : bits .and .i64 ((N : Int) / 4096) 15 = ((N / 16 ^ (7 - 4) % 16 : Nat) : Int) := by rw [and15]; simp; try omega
          obtain ⟨d, hd⟩ : ∃ d, N / 16 ^ (7 - 4) % 16 = d := ⟨_, rfl⟩
          rw [hd] at hbit
          have hd16 : d < 16 := by rw [← hd]; exact Nat.mod_lt _ (by decide)
          have hd16' : ((d : Int) < 16) := by omega
          have HV : Hid (hexV N 4 = ((hexLit[d]'hd16).toNat : Int)) := by show hexC (N / 16 ^ (7 - 4) % 16) = _; rw [hd]; exact hexC_eq hd16
          clear hd
          rw [show (28 - 4 * ((4 : Nat) : Int)) = 12 from rfl]
          go_wp2_with (first | (go_at_call 127; refine (BitsOf_any x _ HX.out.2).mono ?_; rintro e w' ⟨rfl, e9⟩; subst w'; rw [HN9.out]) | (at_builtin; refine wpList_append_own_at _ rfl _ _ 159 rfl (W0.heap.size) 5 i0 (.int .u8 0) 1 1 Try.underlying159 hi0 hz0 hz1 hz2 rfl (by decide) _ 4 (bl (hexI N 4)) rfl (by have h9 := OI.out; (repeat (first | (with_reducible refine World.ownsRow.alloc ?_ _) | (with_reducible refine ownsRow_drewN ?_ _) | ((with_reducible refine ownsRow_setCell_below ?_ ?_ _); rotate_left; focus (first | omega | (simp; done) | (simp; omega))))); exact h9) ⟨_, 0, none⟩ 1 1 [_] rfl rfl (cell_one_new _ _ _) (byte_one _) (by simp only [maxLen]; omega) (by omega) (by first | omega | (simp; omega)) ?_))
          intro v8 w8 ho8 hg8 _ _
          have O8 : Hid (w8.ownsRow W0.heap.size 5 1 v8 (4 + 1) (bl (hexI N (4 + 1)))) := by
            show World.ownsRow _ _ _ _ _ _ _
            rw [hexI_snoc, HV.out]
            exact ho8
          have hb8 : Below W0.heap.size W0 w8 := by
            refine grown_below9 (w := W0) ?_ hg8 (base := W0.heap.size) (e := 5) (c := 1) (n := 4) (xs := bl (hexI N 4)) (by have h9 := OI.out; (repeat (first | (with_reducible refine World.ownsRow.alloc ?_ _) | (with_reducible refine ownsRow_drewN ?_ _) | ((with_reducible refine ownsRow_setCell_below ?_ ?_ _); rotate_left; focus (first | omega | (simp; done) | (simp; omega))))); exact h9) (by first | omega | (simp; omega)) (by first | omega | (simp; omega))
            (repeat (first | assumption | (with_reducible exact Below.refl _ _) | (with_reducible refine Below.drewN ?_ _) | (with_reducible refine Below.drew ?_) | (with_reducible refine Below.allocS ?_ _) | ((with_reducible refine Below.setCell ?_ ?_ _); rotate_left; focus (first | omega | (simp; done) | (simp; omega))) | (with_reducible refine Below.step ?_ (by assumption))))
          clear ho8 hg8
          go_wp2_with fail
          go_roundw
          case rel => exact ⟨4 + 1, by omega, rfl, O8.out, hb8⟩
          case measure => simp [intOf]
        · obtain rfl : i = 5 := hi5
          have hbit : bits .and .i64 ((N : Int) / 256) 15 = ((N / 16 ^ (7 - 5) % 16 : Nat) : Int) := by rw [and15]; simp; try omega
          obtain ⟨d, hd⟩ : ∃ d, N / 16 ^ (7 - 5) % 16 = d := ⟨_, rfl⟩
          rw [hd] at hbit
          have hd16 : d < 16 := by rw [← hd]; exact Nat.mod_lt _ (by decide)
          have hd16' : ((d : Int) < 16) := by omega
          have HV : Hid (hexV N 5 = ((hexLit[d]'hd16).toNat : Int)) := by show hexC (N / 16 ^ (7 - 5) % 16) = _; rw [hd]; exact hexC_eq hd16
          clear hd
          rw [show (28 - 4 * ((5 : Nat) : Int)) = 8 from rfl]
          go_wp2_with (first | (go_at_call 127; refine (BitsOf_any x _ HX.out.2).mono ?_; rintro e w' ⟨rfl, e9⟩; subst w'; rw [HN9.out]) | (at_builtin; refine wpList_append_own_at _ rfl _ _ 159 rfl (W0.heap.size) 5 i0 (.int .u8 0) 1 1 Try.underlying159 hi0 hz0 hz1 hz2 rfl (by decide) _ 5 (bl (hexI N 5)) rfl (by have h9 := OI.out; (repeat (first | (with_reducible refine World.ownsRow.alloc ?_ _) | (with_reducible refine ownsRow_drewN ?_ _) | ((with_reducible refine ownsRow_setCell_below ?_ ?_ _); rotate_left; focus (first | omega | (simp; done) | (simp; omega))))); exact h9) ⟨_, 0, none⟩ 1 1 [_] rfl rfl (cell_one_new _ _ _) (byte_one _) (by simp only [maxLen]; omega) (by omega) (by first | omega | (simp; omega)) ?_))
          intro v8 w8 ho8 hg8 _ _
          have O8 : Hid (w8.ownsRow W0.heap.size 5 1 v8 (5 + 1) (bl (hexI N (5 + 1)))) := by
            show World.ownsRow _ _ _ _ _ _ _
            rw [hexI_snoc, HV.out]
            exact ho8
          have hb8 : Below W0.heap.size W0 w8 := by
            refine grown_below9 (w := W0) ?_ hg8 (base := W0.heap.size) (e := 5) (c := 1) (n := 5) (xs := bl (hexI N 5)) (by have h9 := OI.out; (repeat (first | (with_reducible refine World.ownsRow.alloc ?_ _) | (with_reducible refine ownsRow_drewN ?_ _) | ((with_reducible refine ownsRow_setCell_below ?_ ?_ _); rotate_left; focus (first | omega | (simp; done) | (simp; omega))))); exact h9) (by first | omega | (simp; omega)) (by first | omega | (simp; omega))
            (repeat (first | assumption | (with_reducible exact Below.refl _ _) | (with_reducible refine Below.drewN ?_ _) | (with_reducible refine Below.drew ?_) | (with_reducible refine Below.allocS ?_ _) | ((with_reducible refine Below.setCell ?_ ?_ _); rotate_left; focus (first | omega | (simp; done) | (simp; omega))) | (with_reducible refine Below.step ?_ (by assumption))))
          clear ho8 hg8
          go_wp2_with fail
          go_roundw
          case rel => exact ⟨5 + 1, by omega, rfl, O8.out, hb8⟩
          case measure => simp [intOf]
        · obtain rfl : i = 6 := hi6
          have hbit : bits .and .i64 ((N : Int) / 16) 15 = ((N / 16 ^ (7 - 6) % 16 : Nat) : Int) := by rw [and15]; simp; try omega
          obtain ⟨d, hd⟩ : ∃ d, N / 16 ^ (7 - 6) % 16 = d := ⟨_, rfl⟩
          rw [hd] at hbit
          have hd16 : d < 16 := by rw [← hd]; exact Nat.mod_lt _ (by decide)
          have hd16' : ((d : Int) < 16) := by omega
          have HV : Hid (hexV N 6 = ((hexLit[d]'hd16).toNat : Int)) := by show hexC (N / 16 ^ (7 - 6) % 16) = _; rw [hd]; exact hexC_eq hd16
          clear hd
          rw [show (28 - 4 * ((6 : Nat) : Int)) = 4 from rfl]
          go_wp2_with (first | (go_at_call 127; refine (BitsOf_any x _ HX.out.2).mono ?_; rintro e w' ⟨rfl, e9⟩; subst w'; rw [HN9.out]) | (at_builtin; refine wpList_append_own_at _ rfl _ _ 159 rfl (W0.heap.size) 5 i0 (.int .u8 0) 1 1 Try.underlying159 hi0 hz0 hz1 hz2 rfl (by decide) _ 6 (bl (hexI N 6)) rfl (by have h9 := OI.out; (repeat (first | (with_reducible refine World.ownsRow.alloc ?_ _) | (with_reducible refine ownsRow_drewN ?_ _) | ((with_reducible refine ownsRow_setCell_below ?_ ?_ _); rotate_left; focus (first | omega | (simp; done) | (simp; omega))))); exact h9) ⟨_, 0, none⟩ 1 1 [_] rfl rfl (cell_one_new _ _ _) (byte_one _) (by simp only [maxLen]; omega) (by omega) (by first | omega | (simp; omega)) ?_))
          intro v8 w8 ho8 hg8 _ _
          have O8 : Hid (w8.ownsRow W0.heap.size 5 1 v8 (6 + 1) (bl (hexI N (6 + 1)))) := by
            show World.ownsRow _ _ _ _ _ _ _
            rw [hexI_snoc, HV.out]
            exact ho8
          have hb8 : Below W0.heap.size W0 w8 := by
            refine grown_below9 (w := W0) ?_ hg8 (base := W0.heap.size) (e := 5) (c := 1) (n := 6) (xs := bl (hexI N 6)) (by have h9 := OI.out; (repeat (first | (with_reducible refine World.ownsRow.alloc ?_ _) | (with_reducible refine ownsRow_drewN ?_ _) | ((with_reducible refine ownsRow_setCell_below ?_ ?_ _); rotate_left; focus (first | omega | (simp; done) | (simp; omega))))); exact h9) (by first | omega | (simp; omega)) (by first | omega | (simp; omega))
            (repeat (first | assumption | (with_reducible exact Below.refl _ _) | (with_reducible refine Below.drewN ?_ _) | (with_reducible refine Below.drew ?_) | (with_reducible refine Below.allocS ?_ _) | ((with_reducible refine Below.setCell ?_ ?_ _); rotate_left; focus (first | omega | (simp; done) | (simp; omega))) | (with_reducible refine Below.step ?_ (by assumption))))
          clear ho8 hg8
          go_wp2_with fail
          go_roundw
          case rel => exact ⟨6 + 1, by omega, rfl, O8.out, hb8⟩
          case measure => simp [intOf]
        · obtain rfl : i = 7 := hi7
          have hbit : bits .and .i64 (N : Int) 15 = ((N / 16 ^ (7 - 7) % 16 : Nat) : Int) := by rw [and15]; simp; try omega
          obtain ⟨d, hd⟩ : ∃ d, N / 16 ^ (7 - 7) % 16 = d := ⟨_, rfl⟩
          rw [hd] at hbit
          have hd16 : d < 16 := by rw [← hd]; exact Nat.mod_lt _ (by decide)
          have hd16' : ((d : Int) < 16) := by omega
          have HV : Hid (hexV N 7 = ((hexLit[d]'hd16).toNat : Int)) := by show hexC (N / 16 ^ (7 - 7) % 16) = _; rw [hd]; exact hexC_eq hd16
          clear hd
          rw [show (28 - 4 * ((7 : Nat) : Int)) = 0 from rfl]
          go_wp2_with (first | (go_at_call 127; refine (BitsOf_any x _ HX.out.2).mono ?_; rintro e w' ⟨rfl, e9⟩; subst w'; rw [HN9.out]) | (at_builtin; refine wpList_append_own_at _ rfl _ _ 159 rfl (W0.heap.size) 5 i0 (.int .u8 0) 1 1 Try.underlying159 hi0 hz0 hz1 hz2 rfl (by decide) _ 7 (bl (hexI N 7)) rfl (by have h9 := OI.out; (repeat (first | (with_reducible refine World.ownsRow.alloc ?_ _) | (with_reducible refine ownsRow_drewN ?_ _) | ((with_reducible refine ownsRow_setCell_below ?_ ?_ _); rotate_left; focus (first | omega | (simp; done) | (simp; omega))))); exact h9) ⟨_, 0, none⟩ 1 1 [_] rfl rfl (cell_one_new _ _ _) (byte_one _) (by simp only [maxLen]; omega) (by omega) (by first | omega | (simp; omega)) ?_))
          intro v8 w8 ho8 hg8 _ _
          have O8 : Hid (w8.ownsRow W0.heap.size 5 1 v8 (7 + 1) (bl (hexI N (7 + 1)))) := by
            show World.ownsRow _ _ _ _ _ _ _
            rw [hexI_snoc, HV.out]
            exact ho8
          have hb8 : Below W0.heap.size W0 w8 := by
            refine grown_below9 (w := W0) ?_ hg8 (base := W0.heap.size) (e := 5) (c := 1) (n := 7) (xs := bl (hexI N 7)) (by have h9 := OI.out; (repeat (first | (with_reducible refine World.ownsRow.alloc ?_ _) | (with_reducible refine ownsRow_drewN ?_ _) | ((with_reducible refine ownsRow_setCell_below ?_ ?_ _); rotate_left; focus (first | omega | (simp; done) | (simp; omega))))); exact h9) (by first | omega | (simp; omega)) (by first | omega | (simp; omega))
            (repeat (first | assumption | (with_reducible exact Below.refl _ _) | (with_reducible refine Below.drewN ?_ _) | (with_reducible refine Below.drew ?_) | (with_reducible refine Below.allocS ?_ _) | ((with_reducible refine Below.setCell ?_ ?_ _); rotate_left; focus (first | omega | (simp; done) | (simp; omega))) | (with_reducible refine Below.step ?_ (by assumption))))
          clear ho8 hg8
          go_wp2_with fail
          go_roundw
          case rel => exact ⟨7 + 1, by omega, rfl, O8.out, hb8⟩
          case measure => simp [intOf]
        · obtain rfl : i = 8 := hi8
          have o9 := OI.out
          obtain ⟨g, cap, e9⟩ := own_at o9 (by omega)
          cases e9
          have hconv := run_convert_bytes_arg (P := Try.prog) wr 159 5 Try.underlying159 Try.underlying5 g 0 8 uc (hexI N 8) (hexI_len _ _) (fun i hi => by rw [Nat.zero_add]; exact (o9.cellAt i (by omega)).trans (bl_get (by rw [hexI_len]; exact hi))) 9 Try.underlying9
          have OP2 := Lib.hid (ownsRow_below OP.out hBr2)
          have hBw : Below w.heap.size w wr := hBr.trans (hBr2.mono hzr)
          have hk2 := Held.below hBr2 HH.out
          have HK2 := Lib.hid hk2
          clear o9 hk2
          rw [show (28 - 4 * ((8 : Nat) : Int)) = -4 from rfl]
          go_wp2_with (first | (at_builtin; refine wpList_append_own_at _ rfl _ _ 158 rfl w.heap.size 9 j0 (.string { data := #[] }) 1 16 Try.underlying158 hj0 hy0 hy1 hy2 rfl (by decide) _ k (sl (partV [x0, x1, x2] k)) rfl (by have h9 := OP2.out; (repeat (first | (with_reducible refine World.ownsRow.alloc ?_ _) | (with_reducible refine ownsRow_drewN ?_ _) | ((with_reducible refine ownsRow_setCell_below ?_ ?_ _); rotate_left; focus (first | omega | (simp; done) | (simp; omega))))); exact h9) ⟨_, 0, none⟩ 1 1 [.string (strOfNums (hexI N 8))] rfl rfl (cell_one_new _ _ _) (str_one _) (by simp only [maxLen]; omega) (by omega) (by first | omega | (simp; omega)) ?_))
          intro v8 w8 ho8 hg8 _ _
          have O8 : Hid (w8.ownsRow w.heap.size 9 1 v8 (k + 1) (sl (partV [x0, x1, x2] (k + 1)))) := by
            show World.ownsRow _ _ _ _ _ _ _
            rw [partV_snoc _ (by simpa using hlt), HX.out.1, show hexT x = strOfNums (hexI N 8) by unfold hexT; rw [HN9.out]]
            exact ho8
          have hb8 : Below w.heap.size w w8 := by
            refine grown_below9 (w := w) ?_ hg8 (base := w.heap.size) (e := 9) (c := 1) (n := k) (xs := sl (partV [x0, x1, x2] k)) (by have h9 := OP2.out; (repeat (first | (with_reducible refine World.ownsRow.alloc ?_ _) | (with_reducible refine ownsRow_drewN ?_ _) | ((with_reducible refine ownsRow_setCell_below ?_ ?_ _); rotate_left; focus (first | omega | (simp; done) | (simp; omega))))); exact h9) (Nat.le_refl _) (by first | omega | (simp; omega))
            (repeat (first | assumption | (with_reducible exact Below.refl _ _) | (with_reducible refine Below.drewN ?_ _) | (with_reducible refine Below.drew ?_) | (with_reducible refine Below.allocS ?_ _) | ((with_reducible refine Below.setCell ?_ ?_ _); rotate_left; focus (first | omega | (simp; done) | (simp; omega))) | (with_reducible refine Below.step ?_ (by assumption))))
          have hk8 : Held [(⟨b, 0, none⟩, .float .f32 x0), (⟨b, 1, none⟩, .float .f32 x1), (⟨b, 2, none⟩, .float .f32 x2)] w8 := Held_kept (Kept.of_grown hg8) (fun q9 hq9 hm => by
            have h9 := List.mem_singleton.1 hm
            have hbb := HC.out.1.1
            have h5 := OP2.out
            rcases h5.2 with ⟨h6, _⟩ | ⟨g', cap', cur, h6, h7, _⟩
            · rw [h6] at h9; cases h9
            · rw [h6] at h9
              simp only [List.mem_cons, List.not_mem_nil, or_false] at hq9
              rcases hq9 with rfl | rfl | rfl <;> (simp [Value.ownBlock] at h9; dsimp only at hbb; omega)) (Held.below (Below.allocS (Below.refl _ _) _) HK2.out)
          clear ho8 hg8
          go_wp2_with fail
          go_roundw
          case rel => exact ⟨k + 1, by omega, by go_num, O8.out, hb8, hk8⟩
          case measure => simp [intOf]; omega
    · obtain rfl : k = 3 := by omega
      have d1 : decide (((3 : Nat) : Int) < 3) = false := rfl
      have o9 := OP.out
      obtain ⟨g, cap, e9⟩ := own_at o9 (by omega)
      cases e9
      obtain ⟨hf1, hf2, hf3⟩ := own_fit o9
      have HJ := joined_three x0 x1 x2 g 0 pc W0 (fun j x hj => by
        rw [Nat.zero_add]
        have hj3 : j < 3 := by
          rcases Nat.lt_or_ge j 3 with h | h
          · exact h
          · rw [List.getElem?_eq_none (by simpa [partV] using h)] at hj; cases hj
        exact (o9.cellAt j (by omega)).trans (sl_get hj)) hf2 hf1
      clear o9
      go_wp2_with (first | (go_at_call 128; refine HJ.mono ?_; rintro e w1 ⟨rfl, hb⟩))
      refine bodyPost_ret (v := ?_) (by first | (simp [results, Try.results70, go_sem, *]; rfl) | (simp [results, Try.results70, go_sem, *]; done)) rfl ?_
      exact ⟨rfl, by (repeat (first | assumption | (with_reducible exact Below.refl _ _) | (with_reducible refine Below.drewN ?_ _) | (with_reducible refine Below.drew ?_) | (with_reducible refine Below.allocS ?_ _) | ((with_reducible refine Below.setCell ?_ ?_ _); rotate_left; focus (first | omega | (simp; done) | (simp; omega))) | (with_reducible refine Below.step ?_ (by assumption))))⟩

set_option maxRecDepth 100000 in
set_option maxHeartbeats 8000000 in
theorem implVectorText_any (x0 x1 x2 : Nat) (w : World) (hx0 : x0 < 4294967296) (hx1 : x1 < 4294967296) (hx2 : x2 < 4294967296) : Calls Try.prog 25 #[.agg #[.float .f32 x0, .float .f32 x1, .float .f32 x2]] w (fun e w' => e = .returned (.string (txtV x0 x1 x2 3)) ∧ Below w.heap.size w w') := by
  go_enter Try.func25, Try.ntmps25
  go_wp2_with (first | (go_at_call 71; refine (numbersVector_any x0 x1 x2 _).mono ?_; rintro e w' ⟨rfl, e9⟩; subst w') | (go_at_call 70; refine (NumbersText_any x0 x1 x2 _ _ _ hx0 hx1 hx2 (by simp [Held, go_sem])).mono ?_; rintro e w1 ⟨rfl, hb⟩))
  go_ret
  refine ⟨rfl, ?_⟩
  (repeat (first | assumption | (with_reducible exact Below.refl _ _) | (with_reducible refine Below.drewN ?_ _) | (with_reducible refine Below.drew ?_) | (with_reducible refine Below.allocS ?_ _) | ((with_reducible refine Below.setCell ?_ ?_ _); rotate_left; focus (first | omega | (simp; done) | (simp; omega))) | (with_reducible refine Below.step ?_ (by assumption))))

set_option maxRecDepth 100000 in
set_option maxHeartbeats 8000000 in
theorem lawVectorText_walk (x0 x1 x2 : Nat) (hx0 : x0 < 4294967296) (hx1 : x1 < 4294967296) (hx2 : x2 < 4294967296) (w : World) : Calls Try.prog 6 #[.agg #[.float .f32 x0, .float .f32 x1, .float .f32 x2]] w fun e w' => e = .returned (.bool true) ∧ Below w.heap.size w w' := by
  go_enter Try.func6, Try.ntmps6
  go_wp2_with (first | (go_at_call 24; refine (toVector_any x0 x1 x2 _).mono ?_; rintro e w1 ⟨rfl, hb⟩; have hk := Held.below hb (l := [(⟨w.heap.size, 0, none⟩, .float .f32 x0), (⟨w.heap.size, 1, none⟩, .float .f32 x1), (⟨w.heap.size, 2, none⟩, .float .f32 x2)]) (by simp [Held, go_sem, *]); simp only [Held, and_true] at hk) | (go_at_call 23; refine (specVectorText_any x0 x1 x2 _ hx0 hx1 hx2).mono ?_; rintro e w2 ⟨rfl, hb⟩; have hk := Held.below hb (l := [(⟨w.heap.size, 0, none⟩, .float .f32 x0), (⟨w.heap.size, 1, none⟩, .float .f32 x1), (⟨w.heap.size, 2, none⟩, .float .f32 x2)]) (by simp [Held, go_sem, *]); simp only [Held, and_true] at hk) | (go_at_call 25; refine (implVectorText_any x0 x1 x2 _ hx0 hx1 hx2).mono ?_; rintro e w3 ⟨rfl, hb⟩; have hk := Held.below hb (l := [(⟨w.heap.size, 0, none⟩, .float .f32 x0), (⟨w.heap.size, 1, none⟩, .float .f32 x1), (⟨w.heap.size, 2, none⟩, .float .f32 x2)]) (by simp [Held, go_sem, *]); simp only [Held, and_true] at hk))
  go_ret
  refine ⟨rfl, ?_⟩
  (repeat (first | assumption | (with_reducible exact Below.refl _ _) | (with_reducible refine Below.drewN ?_ _) | (with_reducible refine Below.drew ?_) | (with_reducible refine Below.allocS ?_ _) | ((with_reducible refine Below.setCell ?_ ?_ _); rotate_left; focus (first | omega | (simp; done) | (simp; omega))) | (with_reducible refine Below.step ?_ (by assumption))))

end Go.Proofs.Ytbmabpnolheghaa
