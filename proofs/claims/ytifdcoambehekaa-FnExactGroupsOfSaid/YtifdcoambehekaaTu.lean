/-
  The walks of slices.Repeat of one element.
-/
import Derived.Test.YtifdcoambehekaaTe
import Derived.Test.YtifdcoambehekaaCd
import Derived.Shelf.Bits.Mul64
import Derived.Laws.CopyOwn
set_option linter.unusedVariables false
set_option linter.unusedSimpArgs false
namespace Go.Proofs.Ytifdcoambehekaa
open Go.RowKit

/-- The first 'c' of 'm' cells of block 'g' are 'x'. -/
def Rep (g m c : Nat) (x : Value) (E : TypeId) (w : World) : Prop := ∃ cur : List Value, w.heap[g]? = some (.cells cur.toArray E (0, 0)) ∧ cur.length = m ∧ ∀ j, j < c → cur[j]? = some x
theorem Rep.cell {g m c : Nat} {x : Value} {E : TypeId} {w : World} (h : Rep g m c x E w) (j : Nat) (hj : j < c) : w.cell? ⟨g, j, none⟩ = some x := by
  obtain ⟨cur, h1, h2, h3⟩ := h
  have h4 := h3 j hj
  simp [World.cell?, h1, h4]
theorem Rep.below {g m c : Nat} {x : Value} {E : TypeId} {w w' : World} (h : Rep g m c x E w) (hb : Below w.heap.size w w') : Rep g m c x E w' := by
  obtain ⟨cur, h1, h2, h3⟩ := h
  have hg : g < w.heap.size := by
    rcases Nat.lt_or_ge g w.heap.size with h | h
    · exact h
    · rw [Array.getElem?_eq_none h] at h1; cases h1
  exact ⟨cur, by rw [hb.block g hg]; exact h1, h2, h3⟩
theorem Rep.mono {g m c d : Nat} {x : Value} {E : TypeId} {w : World} (h : Rep g m d x E w) (hc : c ≤ d) : Rep g m c x E w := by
  obtain ⟨cur, h1, h2, h3⟩ := h
  exact ⟨cur, h1, h2, fun j hj => h3 j (Nat.lt_of_lt_of_le hj hc)⟩
theorem Rep.of_own {g m : Nat} {x : Value} {E : TypeId} {w : World} {base : Nat} {xs : List Value} (h : w.ownsRow base E 1 (.slice (some ⟨g, 0, none⟩) m m) m xs) (hm0 : 0 < m) : Rep g m 0 x E w := by
  obtain ⟨h1, h2⟩ := h
  rcases h2 with ⟨h2, h3⟩ | ⟨g', cap, cur, h2, h3, h4, h5, h6, h7, h8⟩
  · cases h2
  · cases h2
    exact ⟨cur.toList, by simpa using h4, by simpa using h7, fun j hj => absurd hj (Nat.not_lt_zero _)⟩
theorem Rep.own {g m : Nat} {x : Value} {E : TypeId} {w : World} {base : Nat} (h : Rep g m m x E w) (hb : base ≤ g) (hm : m ≤ 1048576) : w.ownsRow base E 1 (.slice (some ⟨g, 0, none⟩) m m) m (List.replicate m x) := by
  obtain ⟨cur, h1, h2, h3⟩ := h
  refine ⟨by simp, .inr ⟨g, m, cur.toArray, rfl, hb, h1, Nat.le_refl _, by simp only [maxLen]; omega, by simpa using h2, ?_⟩⟩
  simp only [Nat.mul_one]
  rw [show m = cur.length from h2.symm]
  show cur.take cur.length = _
  rw [List.take_length]
  apply List.ext_getElem?
  intro j
  rw [List.getElem?_replicate]
  split
  · next hj => exact h3 j (by omega)
  · next hj => exact List.getElem?_eq_none (by omega)
theorem rep_get {k : Nat} {x : Value} {j : Nat} {v : Value} (h : (List.replicate k x)[j]? = some v) : j < k ∧ v = x := by
  rw [List.getElem?_replicate] at h
  split at h
  · next hj => cases h; exact ⟨hj, rfl⟩
  · cases h
theorem rep_one {k : Nat} {x : Value} (hx : x.oneCell' = true) : ∀ v ∈ List.replicate k x, v.oneCell' = true := by
  intro v hv
  rw [(List.mem_replicate.1 hv).2]
  exact hx
theorem Rep.splice {g m c k : Nat} {x : Value} {E : TypeId} {w : World} {cur : List Value} (h1 : w.heap[g]? = some (.cells (splice cur c (List.replicate k x)).toArray E (0, 0))) (h2 : cur.length = m) (h3 : ∀ j, j < c → cur[j]? = some x) (hk : c + k ≤ m) : Rep g m (c + k) x E w := by
  refine ⟨_, h1, ?_, ?_⟩
  · rw [length_splice _ _ _ (by rw [List.length_replicate]; omega)]; exact h2
  · intro j hj
    unfold Go.splice
    rcases Nat.lt_or_ge j c with h | h
    · rw [List.getElem?_append_left (by rw [List.length_take]; omega), List.getElem?_take_of_lt h]
      exact h3 j h
    · rw [List.getElem?_append_right (by rw [List.length_take]; omega), List.length_take, show min c cur.length = c by omega, List.getElem?_append_left (by rw [List.length_replicate]; omega), List.getElem?_replicate, if_pos (by omega)]

theorem Rep.copy {P : Program} {g m c k : Nat} {x : Value} {E T ty : TypeId} {w : World} (hu : P.underlying T = some (.slice E)) (hs : (P.info? E).map (·.size) = some 1) (h : Rep g m c x E w) (hx : x.oneCell' = true) (hk : k = min c (m - c)) (hc : c ≤ m) (d s : Nat) :
    ∃ w', (Builtin.copy_ #[T, T] ty #[.slice (some ⟨g, c, none⟩) (m - c) d, .slice (some ⟨g, 0, none⟩) c s]).run P w = .ok (goInt k) w' ∧ Rep g m (c + k) x E w' ∧ Below g w w' := by
  obtain ⟨cur, h1, h2, h3⟩ := h
  have hr := run_copy_row (P := P) w T T ty E g c (m - c) d ⟨g, 0, none⟩ c s cur.toArray E (List.replicate k x) hu hs h1 (by rw [List.length_replicate]; exact hk)
    (by intro j v hj
        obtain ⟨hj1, rfl⟩ := rep_get hj
        have h4 := h3 j (by omega)
        rw [Addr.add_lit]
        simp [World.cell?, h1, h4]) (by rw [List.length_replicate]; simp; omega) (rep_one hx)
  rw [List.length_replicate] at hr
  refine ⟨_, hr, Rep.splice (cur := cur) ?_ h2 h3 (by omega), below_setRow (Below.refl _ _) (Nat.le_refl _) _⟩
  have := setRow_heap w g cur.toArray (cur.take c ++ List.replicate k x ++ cur.drop (c + k)).toArray E (0, 0) h1
  simpa [Go.splice] using this
theorem run_op_copy {P : Program} {o : Oper} {a : Act} {w w' : World} {t : TypeId} {s x : Operand} {v u r : Value} (ho : o.op = .call { callee := .builtin .copy, args := #[s, x], argTypes := #[t, t] }) (hs : a.eval s = v) (hx : a.eval x = u) (hr : (Builtin.copy_ #[t, t] o.type #[v, u]).run P w = .ok r w') : (execOp a.eval o).run P w = .ok (.value r) w' := by
  unfold execOp
  simp only [ho, resolve, invoke, builtin, Sem.run_bind, Sem.run_pure, Result.andThen_ok, List.map_toArray, List.map_cons, List.map_nil, hs, hx, hr]

set_option maxRecDepth 100000 in
set_option maxHeartbeats 8000000 in
theorem bitsMul64_any (x y : Nat) (hx : x < 18446744073709551616) (hy : y < 18446744073709551616) (w : World) :
    Calls Try.prog 125 #[.int .u64 x, .int .u64 y] w fun e w' => e = .returned (.tuple #[.int .u64 ((x * y / 18446744073709551616 : Nat) : Int), .int .u64 ((x * y % 18446744073709551616 : Nat) : Int)]) ∧ w' = w := by
  obtain ⟨bd, bt, bw, hhi⟩ := Lib.mul64_hi x y hx hy
  have ba := Lib.half_mul_le (a := x / 4294967296) (b := y / 4294967296) (by omega) (by omega)
  have bb := Lib.half_mul_le (a := x / 4294967296) (b := y % 4294967296) (by omega) (by omega)
  have bc := Lib.half_mul_le (a := x % 4294967296) (b := y / 4294967296) (by omega) (by omega)
  have ba' : x / 4294967296 * (y / 4294967296) < 18446744073709551616 := by omega
  have bb' : x / 4294967296 * (y % 4294967296) < 18446744073709551616 := by omega
  have bc' : x % 4294967296 * (y / 4294967296) < 18446744073709551616 := by omega
  have bh1 : x / 4294967296 * (y / 4294967296) + (x / 4294967296 * (y % 4294967296) + x % 4294967296 * (y % 4294967296) / 4294967296) / 4294967296 < 18446744073709551616 := by omega
  have bh : x / 4294967296 * (y / 4294967296) + (x / 4294967296 * (y % 4294967296) + x % 4294967296 * (y % 4294967296) / 4294967296) / 4294967296 + ((x / 4294967296 * (y % 4294967296) + x % 4294967296 * (y % 4294967296) / 4294967296) % 4294967296 + x % 4294967296 * (y / 4294967296)) / 4294967296 < 18446744073709551616 := by omega
  go_enter Try.func125, Try.ntmps125
  go_wp2
  simp only [Mul64.maskN x hx, Mul64.maskN y hy, Mul64.divN, Mul64.mulN, Mul64.addN, Mul64.wrapN _ bd, Mul64.wrapN _ bb', Mul64.wrapN _ bt, Mul64.maskN _ bt, Mul64.wrapN _ bc', Mul64.wrapN _ bw, Mul64.wrapN _ ba', Mul64.wrapN _ bh1, Mul64.wrapN _ bh, Mul64.wrapM (x * y)]
  rw [hhi]
  go_ret2
  exact ⟨rfl, rfl⟩
theorem bitsMul_one (m : Nat) (hm : m < 9223372036854775808) (w : World) :
    Calls Try.prog 101 #[.int .u64 1, .int .u64 m] w fun e w' => e = .returned (.tuple #[.int .u64 0, .int .u64 m]) ∧ w' = w := by
  have c64 := bitsMul64_any 1 m (by decide) (by omega) w
  rw [Nat.one_mul, Nat.div_eq_of_lt (by omega), Nat.mod_eq_of_lt (by omega)] at c64
  go_enter Try.func101, Try.ntmps101
  go_wp2_with (go_at_call 125; refine c64.mono ?_; rintro e w' ⟨rfl, hw⟩; rw [hw])
  go_ret2
  exact ⟨rfl, rfl⟩

set_option maxRecDepth 100000 in
set_option maxHeartbeats 8000000 in
theorem repeatF_any (x : Nat) (m : Nat) (v : Value) (w : World) (h : RowAt w v 1 1 [.float .f32 x]) (hm0 : 0 < m) (hm : m ≤ 1048576) : Calls Try.prog 55 #[v, .int .i64 m] w (NewRow 22 1 m (List.replicate m (.float .f32 x)) w) := by
  obtain ⟨h1, h2, ao, cap, rfl, h3⟩ := h
  obtain ⟨b, o, rfl, hbl, hcell⟩ := h3.resolve_left (by omega)
  have q0 := hcell 0 (.float .f32 x) (by simp)
  have hb0 := Held.below (Below.refl w.heap.size w) (l := [(⟨b, o, none⟩, .float .f32 x)]) ⟨⟨hbl, by simpa using q0⟩, trivial⟩
  have HB0 := Lib.hid hb0
  simp only [Held, and_true] at hb0
  obtain ⟨i0, hi0, hz0, hz1, hz2⟩ := info_parts info_Float32
  have hsz : (Try.prog.info? 22).map (·.size) = some 1 := by rw [hi0]; exact congrArg some hz1
  clear hcell h3
  have hm63 : m ≤ 9223372036854775807 := by omega
  go_enter Try.func55, Try.ntmps55
  go_wp2_with (first | (go_at_call 101; refine (bitsMul_one m (by omega) _).mono ?_; rintro e w' ⟨rfl, e9⟩; subst w') | (at_make; refine wpList_make_full _ rfl _ _ 24 rfl w.heap.size 22 i0 (.float .f32 0) 1 Try.underlying24 hi0 hz0 hz1 .i64 .i64 _ _ m rfl rfl rfl rfl ?b2 ?b3 ?b4 ?_))
  case b2 => rw [hz2]; omega
  case b3 => simp only [maxLen]; omega
  case b4 => exact Nat.le_refl _
  intro w1 hown hgrow
  have R0 : Hid (Rep w.heap.size m 0 (.float .f32 x) 22 w1) := Rep.of_own hown hm0
  have B1 : Below w.heap.size w w1 := (Below.refl _ w).grown hgrow (Nat.le_refl _) (by intro k hk; cases hk)
  have hb1 := Held.below B1 HB0.out
  simp only [Held, and_true] at hb1
  obtain ⟨cur, hc1, hc2, hc3⟩ := R0.out
  have HC1 := Lib.hid hc1
  clear hown hgrow hc1
  go_wp2_with (refine wpList_copy_splice rfl _ _ 24 24 rfl 22 Try.underlying24 hsz _ _ _ _ _ _ rfl rfl w.heap.size 0 cur 22 HC1.out (List.replicate 1 (.float .f32 x)) ?hn ?hpos ?hfit ?h1 w.heap.size w B1 (Nat.le_refl _) ?_)
  case hn => rw [List.length_replicate]; exact (Nat.min_eq_left hm0).symm
  case hpos =>
    intro j v hj
    obtain ⟨hj1, rfl⟩ := rep_get (k := 1) hj
    obtain rfl : j = 0 := by omega
    exact hb1.2.1
  case hfit => rw [List.length_replicate]; omega
  case h1 => exact rep_one rfl
  intro w2 HG2 hB2
  have R1 : Hid (Rep w.heap.size m 1 (.float .f32 x) 22 w2) := Rep.splice (c := 0) (k := 1) HG2.out hc2 hc3 (by omega)
  clear hc3 HC1 HG2 R0
  have hw2 := hB2.size
  go_wp2_with fail
  go_loopw [8] (fun jv wr => ∃ c : Nat, 1 ≤ c ∧ c ≤ m ∧ jv = .int .i64 (c : Int) ∧ Rep w.heap.size m c (.float .f32 x) 22 wr ∧ Below w.heap.size w wr) (fun jv _ => m - (intOf jv).toNat)
  case atStart => exact ⟨1, Nat.le_refl _, by omega, rfl, R1.out, hB2⟩
  case round =>
    obtain ⟨c, hc0, hc, rfl, hR, hBr⟩ := hrel
    have HR := Lib.hid hR
    have hzr := hBr.size
    clear hR
    by_cases hlt : c < m
    · have d1 : decide ((c : Int) < (m : Int)) = true := decide_eq_true (by omega)
      obtain ⟨k, hk⟩ : ∃ k, k = min c (m - c) := ⟨_, rfl⟩
      have hk1 : 1 ≤ k ∧ c + k ≤ m ∧ k ≤ c := by omega
      have HK := Lib.hid hk
      clear hk
      obtain ⟨cr, hc1, hc2', hc3⟩ := HR.out
      have HC2 := Lib.hid hc1
      have HC3 := Lib.hid hc3
      clear hc1 hc3
      go_wp2_with fail
      have hDD : ∀ w8 w9, (fun w9 => Rep w.heap.size m c (.float .f32 x) 22 w9 ∧ Below w.heap.size w w9) w8 → Below w8.heap.size w8 w9 → (fun w9 => Rep w.heap.size m c (.float .f32 x) 22 w9 ∧ Below w.heap.size w w9) w9 := fun w8 w9 h8 hb8 => ⟨h8.1.below hb8, h8.2.trans (hb8.mono h8.2.size)⟩
      have hst : stableV [(7, 45, (fun v w9 => v = .int .i64 (k : Int) ∧ Rep w.heap.size m (c + k) (.float .f32 x) 22 w9))] := by
        intro q hq
        obtain rfl := List.mem_singleton.1 hq
        intro v w8 w9 hb8 hh
        exact ⟨hh.1, hh.2.below hb8⟩
      refine region_calmD_tail 9 (fun w9 => Rep w.heap.size m c (.float .f32 x) 22 w9 ∧ Below w.heap.size w w9) (fun _ _ _ => False) [(7, 45, (fun v w9 => v = .int .i64 (k : Int) ∧ Rep w.heap.size m (c + k) (.float .f32 x) 22 w9))] (by kernel_rfl) (by kernel_rfl) (by kernel_rfl) ⟨HR.out, hBr.drew⟩ ?_
      simp only [List.take_succ_cons, List.take_zero, List.drop_succ_cons, List.drop_zero]
      repeat (first | (refine calmD_plain hst hDD rfl rfl ?_ (fun K hK w1 hC => ?_); (focus (intro _ _; simp [RVF]; done)); go_wp2_with fail; refine ⟨rfl, (by first | exact Below.refl _ _ | exact below_drewN _), hK _ ?_⟩; clear hC hK K w1) | (refine calmD_check rfl rfl rfl ?_ ?_; (focus (intro _ _; simp [RVF]; done))))
      refine calmD_turn (Tv := fun v => v = .int .i64 (k : Int)) rfl (fun w1 hC hDp => ?_) ?_
      · obtain ⟨w5, hr5, hR5, hB5⟩ := hC.1.copy (P := Try.prog) (T := 24) (ty := 3) Try.underlying24 hsz rfl HK.out hc (m - c) m
        refine ⟨_, w5, run_op_copy rfl rfl rfl hr5, rfl, ?_, ?_, ?_⟩
        · exact ⟨hR5.mono (by omega), hC.2.trans (hB5.mono (Nat.le_refl _))⟩
        · exact ⟨fun _ => ⟨by simp [Act.put, Act.eval, goInt], hR5⟩, trivial⟩
        · intro j a' hj hR
          exact ⟨fun e9 => absurd e9.symm hj, trivial⟩
      rintro v rfl
      repeat (first | (refine calmD_plain hst hDD rfl rfl ?_ (fun K hK w1 hC => ?_); (focus (intro _ _; simp [RVF]; done)); go_wp2_with fail; refine ⟨rfl, (by first | exact Below.refl _ _ | exact below_drewN _), hK _ ?_⟩; clear hC hK K w1) | (refine calmD_check rfl rfl rfl ?_ ?_; (focus (intro _ _; simp [RVF]; done))))
      refine calmD_nil ?_
      intro w5 hC hF
      have f9 := RVF_get (hF 7 (by decide)) (List.mem_singleton.2 rfl)
      have F9 : Hid (Rep w.heap.size m (c + k) (.float .f32 x) 22 w5) := f9.2
      have hB5 : Below w.heap.size w w5 := hC.2
      clear hC hF f9 hst hDD
      go_wp2_with fail
      go_roundw
      case rel => exact ⟨c + k, by omega, hk1.2.1, by go_num, F9.out, hB5⟩
      case measure => simp [intOf]; omega
    · have d1 : decide ((c : Int) < (m : Int)) = false := decide_eq_false (by omega)
      obtain rfl : c = m := by omega
      have hO := HR.out.own (base := w.heap.size) (Nat.le_refl _) hm
      have HO := Lib.hid hO
      clear hO
      go_wp2_with fail
      refine bodyPost_ret (v := ?_) (by first | (simp [results, Try.results55, go_sem, *]; rfl) | (simp [results, Try.results55, go_sem, *]; done)) rfl ?_
      exact ⟨_, rfl, HO.out, hBr⟩

set_option maxRecDepth 100000 in
set_option maxHeartbeats 8000000 in
theorem repeatI_any (x : Int) (m : Nat) (v : Value) (w : World) (h : RowAt w v 1 1 [.int .i64 x]) (hm0 : 0 < m) (hm : m ≤ 1048576) : Calls Try.prog 89 #[v, .int .i64 m] w (NewRow 2 1 m (List.replicate m (.int .i64 x)) w) := by
  obtain ⟨h1, h2, ao, cap, rfl, h3⟩ := h
  obtain ⟨b, o, rfl, hbl, hcell⟩ := h3.resolve_left (by omega)
  have q0 := hcell 0 (.int .i64 x) (by simp)
  have hb0 := Held.below (Below.refl w.heap.size w) (l := [(⟨b, o, none⟩, .int .i64 x)]) ⟨⟨hbl, by simpa using q0⟩, trivial⟩
  have HB0 := Lib.hid hb0
  simp only [Held, and_true] at hb0
  obtain ⟨i0, hi0, hz0, hz1, hz2⟩ := info_parts info_Int64
  have hsz : (Try.prog.info? 2).map (·.size) = some 1 := by rw [hi0]; exact congrArg some hz1
  clear hcell h3
  have hm63 : m ≤ 9223372036854775807 := by omega
  go_enter Try.func89, Try.ntmps89
  go_wp2_with (first | (go_at_call 101; refine (bitsMul_one m (by omega) _).mono ?_; rintro e w' ⟨rfl, e9⟩; subst w') | (at_make; refine wpList_make_full _ rfl _ _ 45 rfl w.heap.size 2 i0 (.int .i64 0) 1 Try.underlying45 hi0 hz0 hz1 .i64 .i64 _ _ m rfl rfl rfl rfl ?b2 ?b3 ?b4 ?_))
  case b2 => rw [hz2]; omega
  case b3 => simp only [maxLen]; omega
  case b4 => exact Nat.le_refl _
  intro w1 hown hgrow
  have R0 : Hid (Rep w.heap.size m 0 (.int .i64 x) 2 w1) := Rep.of_own hown hm0
  have B1 : Below w.heap.size w w1 := (Below.refl _ w).grown hgrow (Nat.le_refl _) (by intro k hk; cases hk)
  have hb1 := Held.below B1 HB0.out
  simp only [Held, and_true] at hb1
  obtain ⟨cur, hc1, hc2, hc3⟩ := R0.out
  have HC1 := Lib.hid hc1
  clear hown hgrow hc1
  go_wp2_with (refine wpList_copy_splice rfl _ _ 45 45 rfl 2 Try.underlying45 hsz _ _ _ _ _ _ rfl rfl w.heap.size 0 cur 2 HC1.out (List.replicate 1 (.int .i64 x)) ?hn ?hpos ?hfit ?h1 w.heap.size w B1 (Nat.le_refl _) ?_)
  case hn => rw [List.length_replicate]; exact (Nat.min_eq_left hm0).symm
  case hpos =>
    intro j v hj
    obtain ⟨hj1, rfl⟩ := rep_get (k := 1) hj
    obtain rfl : j = 0 := by omega
    exact hb1.2.1
  case hfit => rw [List.length_replicate]; omega
  case h1 => exact rep_one rfl
  intro w2 HG2 hB2
  have R1 : Hid (Rep w.heap.size m 1 (.int .i64 x) 2 w2) := Rep.splice (c := 0) (k := 1) HG2.out hc2 hc3 (by omega)
  clear hc3 HC1 HG2 R0
  have hw2 := hB2.size
  go_wp2_with fail
  go_loopw [8] (fun jv wr => ∃ c : Nat, 1 ≤ c ∧ c ≤ m ∧ jv = .int .i64 (c : Int) ∧ Rep w.heap.size m c (.int .i64 x) 2 wr ∧ Below w.heap.size w wr) (fun jv _ => m - (intOf jv).toNat)
  case atStart => exact ⟨1, Nat.le_refl _, by omega, rfl, R1.out, hB2⟩
  case round =>
    obtain ⟨c, hc0, hc, rfl, hR, hBr⟩ := hrel
    have HR := Lib.hid hR
    have hzr := hBr.size
    clear hR
    by_cases hlt : c < m
    · have d1 : decide ((c : Int) < (m : Int)) = true := decide_eq_true (by omega)
      obtain ⟨k, hk⟩ : ∃ k, k = min c (m - c) := ⟨_, rfl⟩
      have hk1 : 1 ≤ k ∧ c + k ≤ m ∧ k ≤ c := by omega
      have HK := Lib.hid hk
      clear hk
      obtain ⟨cr, hc1, hc2', hc3⟩ := HR.out
      have HC2 := Lib.hid hc1
      have HC3 := Lib.hid hc3
      clear hc1 hc3
      go_wp2_with fail
      have hDD : ∀ w8 w9, (fun w9 => Rep w.heap.size m c (.int .i64 x) 2 w9 ∧ Below w.heap.size w w9) w8 → Below w8.heap.size w8 w9 → (fun w9 => Rep w.heap.size m c (.int .i64 x) 2 w9 ∧ Below w.heap.size w w9) w9 := fun w8 w9 h8 hb8 => ⟨h8.1.below hb8, h8.2.trans (hb8.mono h8.2.size)⟩
      have hst : stableV [(7, 45, (fun v w9 => v = .int .i64 (k : Int) ∧ Rep w.heap.size m (c + k) (.int .i64 x) 2 w9))] := by
        intro q hq
        obtain rfl := List.mem_singleton.1 hq
        intro v w8 w9 hb8 hh
        exact ⟨hh.1, hh.2.below hb8⟩
      refine region_calmD_tail 9 (fun w9 => Rep w.heap.size m c (.int .i64 x) 2 w9 ∧ Below w.heap.size w w9) (fun _ _ _ => False) [(7, 45, (fun v w9 => v = .int .i64 (k : Int) ∧ Rep w.heap.size m (c + k) (.int .i64 x) 2 w9))] (by kernel_rfl) (by kernel_rfl) (by kernel_rfl) ⟨HR.out, hBr.drew⟩ ?_
      simp only [List.take_succ_cons, List.take_zero, List.drop_succ_cons, List.drop_zero]
      repeat (first | (refine calmD_plain hst hDD rfl rfl ?_ (fun K hK w1 hC => ?_); (focus (intro _ _; simp [RVF]; done)); go_wp2_with fail; refine ⟨rfl, (by first | exact Below.refl _ _ | exact below_drewN _), hK _ ?_⟩; clear hC hK K w1) | (refine calmD_check rfl rfl rfl ?_ ?_; (focus (intro _ _; simp [RVF]; done))))
      refine calmD_turn (Tv := fun v => v = .int .i64 (k : Int)) rfl (fun w1 hC hDp => ?_) ?_
      · obtain ⟨w5, hr5, hR5, hB5⟩ := hC.1.copy (P := Try.prog) (T := 45) (ty := 3) Try.underlying45 hsz rfl HK.out hc (m - c) m
        refine ⟨_, w5, run_op_copy rfl rfl rfl hr5, rfl, ?_, ?_, ?_⟩
        · exact ⟨hR5.mono (by omega), hC.2.trans (hB5.mono (Nat.le_refl _))⟩
        · exact ⟨fun _ => ⟨by simp [Act.put, Act.eval, goInt], hR5⟩, trivial⟩
        · intro j a' hj hR
          exact ⟨fun e9 => absurd e9.symm hj, trivial⟩
      rintro v rfl
      repeat (first | (refine calmD_plain hst hDD rfl rfl ?_ (fun K hK w1 hC => ?_); (focus (intro _ _; simp [RVF]; done)); go_wp2_with fail; refine ⟨rfl, (by first | exact Below.refl _ _ | exact below_drewN _), hK _ ?_⟩; clear hC hK K w1) | (refine calmD_check rfl rfl rfl ?_ ?_; (focus (intro _ _; simp [RVF]; done))))
      refine calmD_nil ?_
      intro w5 hC hF
      have f9 := RVF_get (hF 7 (by decide)) (List.mem_singleton.2 rfl)
      have F9 : Hid (Rep w.heap.size m (c + k) (.int .i64 x) 2 w5) := f9.2
      have hB5 : Below w.heap.size w w5 := hC.2
      clear hC hF f9 hst hDD
      go_wp2_with fail
      go_roundw
      case rel => exact ⟨c + k, by omega, hk1.2.1, by go_num, F9.out, hB5⟩
      case measure => simp [intOf]; omega
    · have d1 : decide ((c : Int) < (m : Int)) = false := decide_eq_false (by omega)
      obtain rfl : c = m := by omega
      have hO := HR.out.own (base := w.heap.size) (Nat.le_refl _) hm
      have HO := Lib.hid hO
      clear hO
      go_wp2_with fail
      refine bodyPost_ret (v := ?_) (by first | (simp [results, Try.results89, go_sem, *]; rfl) | (simp [results, Try.results89, go_sem, *]; done)) rfl ?_
      exact ⟨_, rfl, HO.out, hBr⟩

end Go.Proofs.Ytifdcoambehekaa
