/-
  Bytes that pick a number; operations on floats whose answer is known.
-/
import Derived.Test.YtoiomgofbohmoaaLa
set_option linter.unusedVariables false
set_option linter.unusedSimpArgs false
namespace Go.Proofs.Ytoiomgofbohmoaa
open Go.RowKit

/-- A slice's bytes. -/
def bl (l : List Nat) : List Value := l.map fun (b : Nat) => Value.int .u8 (b : Int)
theorem byte_wrap : ∀ y : Nat, y < 256 → IntKind.i64.wrap (y : Int) = (y : Int) := by decide +kernel
theorem bl_get {l : List Nat} {i : Nat} (h : i < l.length) : (bl l)[i]? = some (.int .u8 ((l.getD i 0 : Nat) : Int)) := by
  unfold bl
  rw [List.getElem?_map, List.getElem?_eq_getElem h, List.getD_eq_getElem?_getD, List.getElem?_eq_getElem h]
  rfl
theorem bl_length (l : List Nat) : (bl l).length = l.length := by unfold bl; exact List.length_map ..

section
variable {P : Program} {ops : Array Oper} {Q : Exit → Act → World → Prop} {a : Act} {w : World} {rest : List Oper} {o : Oper}
/-- An operation on floats whose answer is known: no draw; under a guard, too. -/
theorem wpList_fx {op : BinOp} {t t' : TypeId} {x y : Operand} {k : FloatKind} {bx by' r : Nat} (hop : o.op = Op.binOp op t x y t') (hx : a.eval x = .float k bx) (hy : a.eval y = .float k by')
    (ho : arithOp op = true) (hw : Region.wanted o (yielded ops a.tmps) = true) (hr : floatBits op k bx by' = some r)
    (hK : wpList P ops Q rest (a.put o.dst (.float k r)) w) : wpList P ops Q (o :: rest) a w := by
  refine wpList_step fun K hK' => ?_
  rw [if_pos hw]
  unfold Oper.wp
  have hgd : eqGuard op t x y (.float k bx) (.float k by') = pure () := by cases op <;> simp_all [arithOp, eqGuard] <;> rfl
  simp [execOp, hop, hx, hy, hgd, run_float_arith w op t k bx by' _ hr, Result.andThen]
  exact hK' _ _ hK
/-- 'float64(x)' of a number. -/
theorem wpList_wx {src dst : TypeId} {x : Operand} {b r : Nat} (hop : o.op = Op.convert src dst x) (hx : a.eval x = .float .f32 b)
    (hd : P.underlying dst = some (.float .f64)) (hs : P.underlying src = some (.float .f32)) (hw : Region.wanted o (yielded ops a.tmps) = true) (hb : finB .f32 b = true) (hq : fconv .f32 .f64 b = r)
    (hK : ∀ n, wpList P ops Q rest (a.put o.dst (.float .f64 r)) (w.drewN n)) : wpList P ops Q (o :: rest) a w :=
  wpList_widen_g hop hx hd hs hw fun r' n hr => by
    have h1 : cn .f64 r' = fconv .f32 .f64 b := by have := hr.out; rwa [cn_of_not (isN_of_fin hb)] at this
    have h2 : isN .f64 (fconv .f32 .f64 b) = false := isN_of_fin (by rw [widen_fin]; exact hb)
    have h3 : r' = r := (exact_of h1 h2).trans hq
    rw [h3]
    exact hK n
end
theorem fbits {op : BinOp} {k : FloatKind} {x y : Nat} (h : finB k (fbin op k x y) = true) : floatBits op k x y = some (fbin op k x y) := by
  unfold fbin at h ⊢
  cases hc : floatBits op k x y with
  | some r => rfl
  | none =>
    rw [hc] at h
    have h1 : isN k (nanOf k) = true := isN_nanOf k
    have h2 := isN_of_fin h
    change isN k (nanOf k) = false at h2
    rw [h1] at h2
    cases h2

set_option maxRecDepth 100000 in
set_option maxHeartbeats 8000000 in
theorem b10Long_any (v v' : Value) (n n' : Nat) (l l' : List Nat) (w : World) (h : RowAt w v 1 n (bl l)) (h' : RowAt w v' 1 n' (bl l')) : Calls Try.prog 4 #[v, v'] w fun e w' => ∃ b, e = .returned (.bool b) ∧ w' = w := by
  obtain ⟨h1, h2, ao, cap, rfl, h3⟩ := h
  obtain ⟨h1', h2', ao', cap', rfl, h3'⟩ := h'
  clear h1 h2 h3 h1' h2' h3'
  cases d1 : decide ((1048576 : Int) < (n : Int)) <;> cases d2 : decide ((1048576 : Int) < (n' : Int))
  all_goals
    go_enter Try.func4, Try.ntmps4
    go_wp2
    go_ret
    exact ⟨_, rfl, rfl⟩

set_option maxRecDepth 100000 in
set_option maxHeartbeats 8000000 in
theorem b10At_0_16 (v : Value) (n : Nat) (l : List Nat) (w : World) (h : RowAt w v 1 n (bl l)) (hl : ∀ x ∈ l, x < 256) : Calls Try.prog 5 #[v, .int .i64 0, .int .i64 16] w fun e w' => ∃ m : Nat, m < 16 ∧ e = .returned (.int .i64 (m : Int)) ∧ w' = w := by
  obtain ⟨h1, h2, ao, cap, rfl, h3⟩ := h
  rw [bl_length] at h1
  by_cases hlt : 0 < n
  · have d1 : decide ((0 : Int) < (n : Int)) = true := decide_eq_true (by omega)
    obtain ⟨g, off, rfl, hg, hcell⟩ := h3.resolve_left (by omega)
    have hc := (hcell 0 _ (bl_get (l := l) (i := 0) (by omega))).1
    obtain ⟨x, hx⟩ : ∃ x, l.getD 0 0 = x := ⟨_, rfl⟩
    have hx9 : x < 256 := by
      rw [← hx, List.getD_eq_getElem?_getD, List.getElem?_eq_getElem (by omega)]
      exact hl _ (List.getElem_mem _)
    rw [hx] at hc
    (try rw [Nat.add_zero] at hc)
    clear hcell h3 h1
    have hcv : ∀ (w : World), (convert 5 2 (.int .u8 (x : Int))).run Try.prog w = .ok (.int .i64 (x : Int)) w := fun w => by
      have h9 := run_convert_int (P := Try.prog) w 5 2 .u8 (x : Int) (by kernel_rfl) (by kernel_rfl)
      rw [show Program.intKind Try.prog 2 = .i64 from by kernel_rfl, byte_wrap x hx9] at h9
      exact h9
    go_enter Try.func5, Try.ntmps5
    go_wp2
    go_ret
    exact ⟨x % 16, Nat.mod_lt _ (by decide), rfl, rfl⟩
  · have d1 : decide ((0 : Int) < (n : Int)) = false := decide_eq_false (by omega)
    clear h3 h1
    go_enter Try.func5, Try.ntmps5
    go_wp2
    go_ret
    exact ⟨11, by decide, rfl, rfl⟩

set_option maxRecDepth 100000 in
set_option maxHeartbeats 8000000 in
theorem b10At_1_33 (v : Value) (n : Nat) (l : List Nat) (w : World) (h : RowAt w v 1 n (bl l)) (hl : ∀ x ∈ l, x < 256) : Calls Try.prog 5 #[v, .int .i64 1, .int .i64 33] w fun e w' => ∃ m : Nat, m < 33 ∧ e = .returned (.int .i64 (m : Int)) ∧ w' = w := by
  obtain ⟨h1, h2, ao, cap, rfl, h3⟩ := h
  rw [bl_length] at h1
  by_cases hlt : 1 < n
  · have d1 : decide ((1 : Int) < (n : Int)) = true := decide_eq_true (by omega)
    obtain ⟨g, off, rfl, hg, hcell⟩ := h3.resolve_left (by omega)
    have hc := (hcell 1 _ (bl_get (l := l) (i := 1) (by omega))).1
    obtain ⟨x, hx⟩ : ∃ x, l.getD 1 0 = x := ⟨_, rfl⟩
    have hx9 : x < 256 := by
      rw [← hx, List.getD_eq_getElem?_getD, List.getElem?_eq_getElem (by omega)]
      exact hl _ (List.getElem_mem _)
    rw [hx] at hc
    (try rw [Nat.add_zero] at hc)
    clear hcell h3 h1
    have hcv : ∀ (w : World), (convert 5 2 (.int .u8 (x : Int))).run Try.prog w = .ok (.int .i64 (x : Int)) w := fun w => by
      have h9 := run_convert_int (P := Try.prog) w 5 2 .u8 (x : Int) (by kernel_rfl) (by kernel_rfl)
      rw [show Program.intKind Try.prog 2 = .i64 from by kernel_rfl, byte_wrap x hx9] at h9
      exact h9
    go_enter Try.func5, Try.ntmps5
    go_wp2
    go_ret
    exact ⟨x % 33, Nat.mod_lt _ (by decide), rfl, rfl⟩
  · have d1 : decide ((1 : Int) < (n : Int)) = false := decide_eq_false (by omega)
    clear h3 h1
    go_enter Try.func5, Try.ntmps5
    go_wp2
    go_ret
    exact ⟨15, by decide, rfl, rfl⟩

set_option maxRecDepth 100000 in
set_option maxHeartbeats 8000000 in
theorem b10At_0_7 (v : Value) (n : Nat) (l : List Nat) (w : World) (h : RowAt w v 1 n (bl l)) (hl : ∀ x ∈ l, x < 256) : Calls Try.prog 5 #[v, .int .i64 0, .int .i64 7] w fun e w' => ∃ m : Nat, m < 7 ∧ e = .returned (.int .i64 (m : Int)) ∧ w' = w := by
  obtain ⟨h1, h2, ao, cap, rfl, h3⟩ := h
  rw [bl_length] at h1
  by_cases hlt : 0 < n
  · have d1 : decide ((0 : Int) < (n : Int)) = true := decide_eq_true (by omega)
    obtain ⟨g, off, rfl, hg, hcell⟩ := h3.resolve_left (by omega)
    have hc := (hcell 0 _ (bl_get (l := l) (i := 0) (by omega))).1
    obtain ⟨x, hx⟩ : ∃ x, l.getD 0 0 = x := ⟨_, rfl⟩
    have hx9 : x < 256 := by
      rw [← hx, List.getD_eq_getElem?_getD, List.getElem?_eq_getElem (by omega)]
      exact hl _ (List.getElem_mem _)
    rw [hx] at hc
    (try rw [Nat.add_zero] at hc)
    clear hcell h3 h1
    have hcv : ∀ (w : World), (convert 5 2 (.int .u8 (x : Int))).run Try.prog w = .ok (.int .i64 (x : Int)) w := fun w => by
      have h9 := run_convert_int (P := Try.prog) w 5 2 .u8 (x : Int) (by kernel_rfl) (by kernel_rfl)
      rw [show Program.intKind Try.prog 2 = .i64 from by kernel_rfl, byte_wrap x hx9] at h9
      exact h9
    go_enter Try.func5, Try.ntmps5
    go_wp2
    go_ret
    exact ⟨x % 7, Nat.mod_lt _ (by decide), rfl, rfl⟩
  · have d1 : decide ((0 : Int) < (n : Int)) = false := decide_eq_false (by omega)
    clear h3 h1
    go_enter Try.func5, Try.ntmps5
    go_wp2
    go_ret
    exact ⟨4, by decide, rfl, rfl⟩

set_option maxRecDepth 100000 in
set_option maxHeartbeats 8000000 in
theorem b10At_1_8 (v : Value) (n : Nat) (l : List Nat) (w : World) (h : RowAt w v 1 n (bl l)) (hl : ∀ x ∈ l, x < 256) : Calls Try.prog 5 #[v, .int .i64 1, .int .i64 8] w fun e w' => ∃ m : Nat, m < 8 ∧ e = .returned (.int .i64 (m : Int)) ∧ w' = w := by
  obtain ⟨h1, h2, ao, cap, rfl, h3⟩ := h
  rw [bl_length] at h1
  by_cases hlt : 1 < n
  · have d1 : decide ((1 : Int) < (n : Int)) = true := decide_eq_true (by omega)
    obtain ⟨g, off, rfl, hg, hcell⟩ := h3.resolve_left (by omega)
    have hc := (hcell 1 _ (bl_get (l := l) (i := 1) (by omega))).1
    obtain ⟨x, hx⟩ : ∃ x, l.getD 1 0 = x := ⟨_, rfl⟩
    have hx9 : x < 256 := by
      rw [← hx, List.getD_eq_getElem?_getD, List.getElem?_eq_getElem (by omega)]
      exact hl _ (List.getElem_mem _)
    rw [hx] at hc
    (try rw [Nat.add_zero] at hc)
    clear hcell h3 h1
    have hcv : ∀ (w : World), (convert 5 2 (.int .u8 (x : Int))).run Try.prog w = .ok (.int .i64 (x : Int)) w := fun w => by
      have h9 := run_convert_int (P := Try.prog) w 5 2 .u8 (x : Int) (by kernel_rfl) (by kernel_rfl)
      rw [show Program.intKind Try.prog 2 = .i64 from by kernel_rfl, byte_wrap x hx9] at h9
      exact h9
    go_enter Try.func5, Try.ntmps5
    go_wp2
    go_ret
    exact ⟨x % 8, Nat.mod_lt _ (by decide), rfl, rfl⟩
  · have d1 : decide ((1 : Int) < (n : Int)) = false := decide_eq_false (by omega)
    clear h3 h1
    go_enter Try.func5, Try.ntmps5
    go_wp2
    go_ret
    exact ⟨0, by decide, rfl, rfl⟩

end Go.Proofs.Ytoiomgofbohmoaa
