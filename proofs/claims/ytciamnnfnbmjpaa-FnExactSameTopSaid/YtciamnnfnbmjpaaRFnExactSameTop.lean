/-
  The law FnExactSameTop returns true at every input, and its arguments read behind the call as they read before: the given row 'Rows.FnExactSameTopSaid', without a condition.
-/
import Derived.Test.YtciamnnfnbmjpaaRows
import Derived.Test.YtciamnnfnbmjpaaWs
import Derived.Test.YtciamnnfnbmjpaaRw
import Derived.WalkKit
import Derived.ProofKit
import Derived.OpenShut
import Derived.ShutString
import Derived.ChangeOld
import Derived.Below
import Derived.SizedLaws
set_option linter.unusedVariables false
namespace Go.Proofs.Ytciamnnfnbmjpaa.fnExactSameTop
open Go.ChangeShapes Go.WideShapes Go.ChangeAt Go.RowKit
open Go.ChangeMaps (open_string shut_string)
theorem own : ownKnob Try.prog.godebug = none := by kernel_rfl
theorem laidOut : laidOutB Try.prog = true := by kernel_rfl
set_option maxRecDepth 100000 in
theorem lifted (os : Os) (started : os.Started) (H : Type) (enc : TypeId × Value → H) :
    ReturnsInHanded {} Try.checked os 5 .any (Rows.fnExactSameTopSpec.pre6 enc Try.prog Try.f5 Rows.fnExactSameTopRow.domain false) (Rows.fnExactSameTopSpec.post enc Try.prog Try.f5 false true false false) := by
  refine returnsInHanded_of_change (C := Try.checked) own started (by kernel_rfl) Try.func5
    (ChangeSpec.witness6 (enc := enc) (C := Try.checked) false ⟨#[], #[.agg #[.float .f32 0, .float .f32 0, .float .f32 0, .float .f32 0, .float .f32 0, .float .f32 0, .float .f32 0, .float .f32 0, .float .f32 0, .float .f32 0], .agg #[.float .f32 0, .float .f32 0, .float .f32 0, .float .f32 0, .float .f32 0, .float .f32 0, .float .f32 0, .float .f32 0, .float .f32 0, .float .f32 0]], []⟩ 8 (by kernel_rfl) (by kernel_rfl) (by kernel_rfl) (by kernel_rfl)) ?_
  intro W base args ds gs before hval0 hW hcnd _
  have hval : ∀ (j : Nat) t v, Try.f5.params[j]? = some t → args[j]? = some v → Value.okWide Try.prog W .any base t v := hval0
  have hW' := hW
  obtain ⟨p, q, hA0, hV, rfl, hfz, hnd⟩ := hW
  have hA : DataW.TrodAll enc Try.prog W 0 (fun _ => true) true Try.f5.params.toList args.toList ds p := hA0
  rw [Try.params5] at hA hval
  obtain ⟨v0, vs0, d0, ds0, p0, q0, hargs, rfl, rfl, h0, r0⟩ := trodAll_cons hA
  obtain ⟨v1, vs1, d1, ds1, p1, q1, rfl, rfl, rfl, h1, r1⟩ := trodAll_cons r0
  obtain ⟨rfl, rfl, rfl⟩ := trodAll_nil r1
  obtain rfl : args = #[v0, v1] := by cases args; simp_all
  obtain ⟨rfl, rfl⟩ := trodVars_none hV
  have lt0 : ∀ x ∈ p0, x.block < W.heap.size := by obtain ⟨m, hm⟩ := h0; exact DataW.trod_lt m _ _ _ hm
  obtain ⟨l0, hl0, hw0, hv0⟩ := open_floats (n := 10) (e := 22) ⟨_, Try.underlying41⟩ (by kernel_rfl) (by kernel_rfl) Try.underlying22 (hval 0 41 v0 rfl rfl)
  obtain ⟨x0_0, x0_1, x0_2, x0_3, x0_4, x0_5, x0_6, x0_7, x0_8, x0_9, rfl⟩ := list10 hl0
  obtain rfl : v0 = .agg #[.float .f32 x0_0, .float .f32 x0_1, .float .f32 x0_2, .float .f32 x0_3, .float .f32 x0_4, .float .f32 x0_5, .float .f32 x0_6, .float .f32 x0_7, .float .f32 x0_8, .float .f32 x0_9] := hv0
  have lt1 : ∀ x ∈ p1, x.block < W.heap.size := by obtain ⟨m, hm⟩ := h1; exact DataW.trod_lt m _ _ _ hm
  obtain ⟨l1, hl1, hw1, hv1⟩ := open_floats (n := 10) (e := 22) ⟨_, Try.underlying41⟩ (by kernel_rfl) (by kernel_rfl) Try.underlying22 (hval 1 41 v1 rfl rfl)
  obtain ⟨x1_0, x1_1, x1_2, x1_3, x1_4, x1_5, x1_6, x1_7, x1_8, x1_9, rfl⟩ := list10 hl1
  obtain rfl : v1 = .agg #[.float .f32 x1_0, .float .f32 x1_1, .float .f32 x1_2, .float .f32 x1_3, .float .f32 x1_4, .float .f32 x1_5, .float .f32 x1_6, .float .f32 x1_7, .float .f32 x1_8, .float .f32 x1_9] := hv1
  clear hA0 hval0
  refine (lawSameTop_walk x0_0 x0_1 x0_2 x0_3 x0_4 x0_5 x0_6 x0_7 x0_8 x0_9 x1_0 x1_1 x1_2 x1_3 x1_4 x1_5 x1_6 x1_7 x1_8 x1_9 (hw0 _ (by simp)) (hw0 _ (by simp)) (hw0 _ (by simp)) (hw0 _ (by simp)) (hw0 _ (by simp)) (hw0 _ (by simp)) (hw0 _ (by simp)) (hw0 _ (by simp)) (hw0 _ (by simp)) (hw0 _ (by simp)) (hw1 _ (by simp)) (hw1 _ (by simp)) (hw1 _ (by simp)) (hw1 _ (by simp)) (hw1 _ (by simp)) (hw1 _ (by simp)) (hw1 _ (by simp)) (hw1 _ (by simp)) (hw1 _ (by simp)) (hw1 _ (by simp)) W).mono fun e W' ⟨he, bel⟩ => ?_
  subst he
  exact ⟨_, rfl, _, _, _, [], _, [], hW', trodAll_mk1 (shut_bool Try.underlying4 _), (trodAll_cons_mk (Below.trod laidOut (by kernel_rfl) (of_decide_eq_true (by kernel_rfl)) h0 bel lt0) (trodAll_cons_mk (Below.trod laidOut (by kernel_rfl) (of_decide_eq_true (by kernel_rfl)) h1 bel lt1) trodAll_mk0)), rfl, bel.frame _, fun h => by cases h⟩
theorem proved : Rows.FnExactSameTopSaid :=
  OpenClaim.holds_of_wide 5 Try.f5 rfl rfl rfl rfl rfl rfl rfl ⟨rfl, rfl, rfl, rfl, rfl⟩ rfl rfl rfl rfl rfl (by kernel_rfl) Try.func5 (by kernel_rfl)
    (of_decide_eq_true (by kernel_rfl)) (by unfold Func.isWrapper; first | (rw [if_pos (by decide +kernel)]; kernel_rfl) | (rw [if_neg (by decide +kernel)]; exact ⟨rfl, rfl⟩))
    (fun os started H enc _ => lifted os started H enc)
#print axioms proved
end Go.Proofs.Ytciamnnfnbmjpaa.fnExactSameTop
