/-
  Plain facts on the bits of floats, every NaN taken as one ('cn'), and the walk's laws for '+', '-', '*', '/', conversions and comparisons of floats:
  what an operation gives is told up to the choice of a NaN, whatever the tape answers.
-/
import Derived.WalkKit
import Derived.WalkLawsBesides
import Derived.Laws.FloatArith
import Derived.Deep.Draws
import Derived.Lib.Hide
set_option linter.unusedVariables false
set_option linter.unusedSimpArgs false
namespace Go.Proofs.Ytoiomgofbohmoaa
open Go.RowKit

/-- The bits that stand for every NaN. -/
def nanOf : FloatKind → Nat
  | .f32 => 2143289344
  | .f64 => 9221120237041090560

def isN (k : FloatKind) (b : Nat) : Bool := (k.decode b).isNaN

/-- The bits, every NaN taken as one. -/
def cn (k : FloatKind) (b : Nat) : Nat := if isN k b then nanOf k else b

theorem isN_nanOf (k : FloatKind) : isN k (nanOf k) = true := by cases k <;> decide +kernel

theorem cn_of_not {k : FloatKind} {b : Nat} (h : isN k b = false) : cn k b = b := by simp [cn, h]
theorem cn_of_nan {k : FloatKind} {b : Nat} (h : isN k b = true) : cn k b = nanOf k := by simp [cn, h]
theorem isN_cn (k : FloatKind) (b : Nat) : isN k (cn k b) = isN k b := by
  unfold cn
  split
  · rename_i h; rw [h, isN_nanOf]
  · rfl
theorem cn_cn (k : FloatKind) (b : Nat) : cn k (cn k b) = cn k b := by
  cases h : isN k b
  · rw [cn_of_not h, cn_of_not h]
  · rw [cn_of_nan h, cn_of_nan (isN_nanOf k)]
theorem cn_nanOf (k : FloatKind) : cn k (nanOf k) = nanOf k := cn_of_nan (isN_nanOf k)

/-! ### What a NaN makes of an operation -/

theorem sum_nan_left {d e : Ieee.Datum} (h : d.isNaN = true) : d.sum e = none := by
  cases d <;> simp [Ieee.Datum.isNaN] at h <;> simp [Ieee.Datum.sum]
theorem sum_nan_right {d e : Ieee.Datum} (h : e.isNaN = true) : d.sum e = none := by
  cases e <;> simp [Ieee.Datum.isNaN] at h
  cases d <;> simp [Ieee.Datum.sum]
theorem product_nan_left {d e : Ieee.Datum} (h : d.isNaN = true) : d.product e = none := by
  cases d <;> simp [Ieee.Datum.isNaN] at h <;> simp [Ieee.Datum.product]
theorem product_nan_right {d e : Ieee.Datum} (h : e.isNaN = true) : d.product e = none := by
  cases e <;> simp [Ieee.Datum.isNaN] at h
  cases d <;> simp [Ieee.Datum.product]
theorem quotient_nan_left {n : Nat} {d e : Ieee.Datum} (h : d.isNaN = true) : d.quotient n e = none := by
  cases d <;> simp [Ieee.Datum.isNaN] at h <;> simp [Ieee.Datum.quotient]
theorem quotient_nan_right {n : Nat} {d e : Ieee.Datum} (h : e.isNaN = true) : d.quotient n e = none := by
  cases e <;> simp [Ieee.Datum.isNaN] at h
  cases d <;> simp [Ieee.Datum.quotient]
theorem order_nan_left {d e : Ieee.Datum} (h : d.isNaN = true) : d.order e = none := by
  cases d <;> simp [Ieee.Datum.isNaN] at h <;> simp [Ieee.Datum.order]
theorem order_nan_right {d e : Ieee.Datum} (h : e.isNaN = true) : d.order e = none := by
  cases e <;> simp [Ieee.Datum.isNaN] at h
  cases d <;> simp [Ieee.Datum.order]
theorem root_nan {n : Nat} {d : Ieee.Datum} (h : d.isNaN = true) : d.root n = none := by
  cases d <;> simp [Ieee.Datum.isNaN] at h <;> simp [Ieee.Datum.root]
theorem isNaN_opposite (d : Ieee.Datum) : d.opposite.isNaN = d.isNaN := by cases d <;> rfl

/-- A function of two words' data that says 'none' of every NaN sees no NaN's bits. -/
theorem blind2 {α : Type} (k : FloatKind) (g : Ieee.Datum → Ieee.Datum → Option α)
    (hl : ∀ d e, d.isNaN = true → g d e = none) (hr : ∀ d e, e.isNaN = true → g d e = none) (x y : Nat) :
    g (k.decode (cn k x)) (k.decode (cn k y)) = g (k.decode x) (k.decode y) := by
  cases hx : isN k x
  · rw [cn_of_not hx]
    cases hy : isN k y
    · rw [cn_of_not hy]
    · rw [cn_of_nan hy, hr _ _ (isN_nanOf k), hr _ _ hy]
  · rw [cn_of_nan hx, hl _ _ (isN_nanOf k), hl _ _ hx]

theorem add_cn (k : FloatKind) (x y : Nat) : k.format.add (cn k x) (cn k y) = k.format.add x y :=
  blind2 k (fun d e => (d.sum e).map k.format.write) (fun d e h => by simp only [sum_nan_left h, Option.map_none]) (fun d e h => by simp only [sum_nan_right h, Option.map_none]) x y
theorem sub_cn (k : FloatKind) (x y : Nat) : k.format.sub (cn k x) (cn k y) = k.format.sub x y :=
  blind2 k (fun d e => (d.sum e.opposite).map k.format.write) (fun d e h => by simp only [sum_nan_left h, Option.map_none])
    (fun d e h => by simp only [sum_nan_right ((isNaN_opposite e).trans h), Option.map_none]) x y
theorem mul_cn (k : FloatKind) (x y : Nat) : k.format.mul (cn k x) (cn k y) = k.format.mul x y :=
  blind2 k (fun d e => (d.product e).map k.format.write) (fun d e h => by simp only [product_nan_left h, Option.map_none]) (fun d e h => by simp only [product_nan_right h, Option.map_none]) x y
theorem div_cn (k : FloatKind) (x y : Nat) : k.format.div (cn k x) (cn k y) = k.format.div x y :=
  blind2 k (fun d e => (d.quotient (k.format.fractionBits + 2) e).map k.format.write) (fun d e h => by simp only [quotient_nan_left h, Option.map_none]) (fun d e h => by simp only [quotient_nan_right h, Option.map_none]) x y
theorem order_cn (k : FloatKind) (x y : Nat) : k.format.order (cn k x) (cn k y) = k.format.order x y :=
  blind2 k (fun d e => d.order e) (fun d e h => order_nan_left h) (fun d e h => order_nan_right h) x y

/-! ### What is written is no NaN -/

theorem read_word_small (f : Ieee.Format) (neg : Bool) (r : Nat) (h : r ≤ f.infRung) : (f.read (f.word neg r)).isNaN = false := by
  have hlt : f.infRung < f.signWeight := f.infRung_lt
  have e1 : f.word neg r % f.signWeight = r := by
    unfold Ieee.Format.word
    cases neg
    · simp; exact Nat.mod_eq_of_lt (by omega)
    · simp; exact Nat.mod_eq_of_lt (by omega)
  unfold Ieee.Format.read
  simp only [e1]
  split
  · rfl
  · split
    · rfl
    · rw [if_pos (by omega)]; rfl

theorem write_not_nan (f : Ieee.Format) (d : Ieee.Datum) (h : d.isNaN = false) : (f.read (f.write d)).isNaN = false := by
  cases d with
  | number neg mag place =>
    show (f.read (f.nearest neg mag place)).isNaN = false
    unfold Ieee.Format.nearest
    dsimp only
    split
    · exact read_word_small f neg 0 (Nat.zero_le _)
    · exact read_word_small f neg _ (Nat.min_le_right ..)
  | infinity neg => exact read_word_small f neg _ (Nat.le_refl _)
  | nan neg t => simp [Ieee.Datum.isNaN] at h

theorem sum_some_not_nan {d e r : Ieee.Datum} (h : d.sum e = some r) : r.isNaN = false := by
  cases d <;> cases e <;> simp [Ieee.Datum.sum] at h
  · subst h; rfl
  · subst h; rfl
  · subst h; rfl
  · obtain ⟨_, h⟩ := h; subst h; rfl
theorem product_some_not_nan {d e r : Ieee.Datum} (h : d.product e = some r) : r.isNaN = false := by
  cases d <;> cases e <;> simp [Ieee.Datum.product] at h
  · subst h; rfl
  · obtain ⟨_, h⟩ := h; subst h; rfl
  · obtain ⟨_, h⟩ := h; subst h; rfl
  · subst h; rfl
theorem quotient_some_not_nan {n : Nat} {d e r : Ieee.Datum} (h : d.quotient n e = some r) : r.isNaN = false := by
  cases d <;> cases e <;> simp only [Ieee.Datum.quotient] at h
  all_goals first | (split at h <;> first | (split at h <;> first | (cases h; done) | (cases h; rfl)) | (cases h; rfl)) | (cases h; done) | (cases h; rfl)
theorem root_some_not_nan {n : Nat} {d r : Ieee.Datum} (h : d.root n = some r) : r.isNaN = false := by
  cases d <;> simp only [Ieee.Datum.root] at h
  all_goals first | (split at h <;> first | (split at h <;> first | (cases h; done) | (cases h; rfl)) | (cases h; rfl) | (cases h; done)) | (cases h; done) | (cases h; rfl)

theorem isN_of_map {k : FloatKind} {o : Option Ieee.Datum} {r : Nat} (h : o.map k.format.write = some r) (hn : ∀ d, o = some d → d.isNaN = false) : isN k r = false := by
  cases o with
  | none => cases h
  | some d => cases h; exact write_not_nan _ d (hn d rfl)

theorem add_not_nan {k : FloatKind} {x y r : Nat} (h : k.format.add x y = some r) : isN k r = false := isN_of_map h fun _ => sum_some_not_nan
theorem sub_not_nan {k : FloatKind} {x y r : Nat} (h : k.format.sub x y = some r) : isN k r = false := isN_of_map h fun _ => sum_some_not_nan
theorem mul_not_nan {k : FloatKind} {x y r : Nat} (h : k.format.mul x y = some r) : isN k r = false := isN_of_map h fun _ => product_some_not_nan
theorem div_not_nan {k : FloatKind} {x y r : Nat} (h : k.format.div x y = some r) : isN k r = false := isN_of_map h fun _ => quotient_some_not_nan
theorem sqrt_not_nan {k : FloatKind} {x r : Nat} (h : k.format.sqrt x = some r) : isN k r = false := isN_of_map h fun _ => root_some_not_nan

/-! ### The operations, every NaN taken as one -/

def fbin (op : BinOp) (k : FloatKind) (x y : Nat) : Nat := (floatBits op k x y).getD (nanOf k)

theorem floatBits_cn (op : BinOp) (k : FloatKind) (x y : Nat) : floatBits op k (cn k x) (cn k y) = floatBits op k x y := by
  cases op <;> simp only [floatBits, add_cn, sub_cn, mul_cn, div_cn]
theorem floatBits_not_nan {op : BinOp} {k : FloatKind} {x y r : Nat} (h : floatBits op k x y = some r) : isN k r = false := by
  cases op <;> simp only [floatBits] at h
  all_goals first | exact add_not_nan h | exact sub_not_nan h | exact mul_not_nan h | exact div_not_nan h | cases h
theorem fbin_cn (op : BinOp) (k : FloatKind) (x y : Nat) : fbin op k (cn k x) (cn k y) = fbin op k x y := by unfold fbin; rw [floatBits_cn]
theorem cn_fbin (op : BinOp) (k : FloatKind) (x y : Nat) : cn k (fbin op k x y) = fbin op k x y := by
  unfold fbin
  cases h : floatBits op k x y with
  | none => exact cn_nanOf k
  | some r => exact cn_of_not (floatBits_not_nan h)

/-! ### A NaN that the tape gives -/

theorem cut_nan (k : FloatKind) (x y t : Nat) : isN k (Question.cut (.nanBits k x y) t) = true := by
  cases k
  · have h : Question.cut (.nanBits .f32 x y) t = (t % 2) * 2147483648 + (2139095041 + (t / 2) % 8388607) := by
      simp only [Question.cut]; omega
    rw [h]
    unfold isN FloatKind.decode
    show (Ieee.Format.read Ieee.single _).isNaN = true
    unfold Ieee.Format.read
    have e : ((t % 2) * 2147483648 + (2139095041 + (t / 2) % 8388607)) % 2147483648 = 2139095041 + (t / 2) % 8388607 := by omega
    simp only [Ieee.single, Ieee.Format.signWeight, Ieee.Format.binade, Ieee.Format.infRung, Nat.reduceAdd, Nat.reducePow, Nat.reduceSub, Nat.reduceMul, e]
    rw [if_neg (by omega), if_neg (by omega), if_neg (by omega)]
    rfl
  · have h : Question.cut (.nanBits .f64 x y) t = (t % 2) * 9223372036854775808 + (9218868437227405313 + (t / 2) % 4503599627370495) := by
      simp only [Question.cut]; omega
    rw [h]
    unfold isN FloatKind.decode
    show (Ieee.Format.read Ieee.double _).isNaN = true
    unfold Ieee.Format.read
    have e : ((t % 2) * 9223372036854775808 + (9218868437227405313 + (t / 2) % 4503599627370495)) % 9223372036854775808 = 9218868437227405313 + (t / 2) % 4503599627370495 := by omega
    simp only [Ieee.double, Ieee.Format.signWeight, Ieee.Format.binade, Ieee.Format.infRung, Nat.reduceAdd, Nat.reducePow, Nat.reduceSub, Nat.reduceMul, e]
    rw [if_neg (by omega), if_neg (by omega), if_neg (by omega)]
    rfl
theorem cut_nanConv (k : FloatKind) (x t : Nat) : isN k (Question.cut (.nanConv k x) t) = true := by
  have h : Question.cut (.nanConv k x) t = Question.cut (.nanBits k x x) t := by cases k <;> rfl
  rw [h, cut_nan]

section
variable {P : Program} (w : World)
theorem run_float_any (op : BinOp) (ho : op = .add ∨ op = .sub ∨ op = .mul ∨ op = .quo) (t : TypeId) (k : FloatKind) (x y : Nat) :
    ∃ r n, (binOp op t (.float k x) (.float k y)).run P w = .ok (.float k r) (w.drewN n) ∧ cn k r = fbin op k (cn k x) (cn k y) := by
  cases h : floatBits op k x y with
  | some r =>
    refine ⟨r, 0, run_float_arith w op t k x y r h, ?_⟩
    rw [fbin_cn, cn_of_not (floatBits_not_nan h), fbin, h]; rfl
  | none =>
    refine ⟨Question.cut (.nanBits k x y) (w.tape w.drawn (.nanBits k x y)), 1, ?_, ?_⟩
    · rcases ho with rfl | rfl | rfl | rfl <;> simp only [floatBits] at h <;> simp [binOp, Op.floatArith, h, choose, Sem.run, Question.forced, World.drewN, bind, Sem.bind, pure]
    · rw [cn_of_nan (cut_nan ..), fbin_cn, fbin, h]; rfl
end

/-! ### Finite numbers -/

def finD : Ieee.Datum → Bool
  | .number .. => true
  | _ => false

/-- Neither an infinity nor a NaN. -/
def finB (k : FloatKind) (b : Nat) : Bool := finD (k.decode b)

theorem finB_cn (k : FloatKind) (b : Nat) : finB k (cn k b) = finB k b := by
  cases h : isN k b
  · rw [cn_of_not h]
  · rw [cn_of_nan h]
    have h1 : finB k (nanOf k) = false := by cases k <;> decide +kernel
    rw [h1]
    unfold isN at h
    unfold finB
    cases hd : k.decode b <;> rw [hd] at h <;> simp [Ieee.Datum.isNaN] at h
    rfl

theorem signed_not (s : Bool) (m k : Nat) : Ieee.signed s m k + Ieee.signed (!s) m k = 0 := by
  unfold Ieee.signed; cases s <;> simp <;> omega

theorem isN_of_fin {k : FloatKind} {b : Nat} (h : finB k b = true) : isN k b = false := by
  unfold finB finD at h
  unfold isN
  split at h <;> simp_all [Ieee.Datum.isNaN]

theorem sub_self (k : FloatKind) (x : Nat) : fbin .sub k x x = if finB k x then 0 else nanOf k := by
  unfold fbin finB floatBits Ieee.Format.sub
  show (((k.decode x).sum (k.decode x).opposite).map k.format.write).getD (nanOf k) = _
  cases k.decode x with
  | number s m e =>
    simp only [Ieee.Datum.opposite, Ieee.Datum.sum, finD, if_true, Int.min_self, Int.sub_self, signed_not, Int.natAbs_zero, Option.map_some, Option.getD_some]
    show k.format.nearest (s && !s) 0 e = 0
    unfold Ieee.Format.nearest
    cases s <;> simp [Ieee.Format.word]
  | infinity s => cases s <;> simp [Ieee.Datum.opposite, Ieee.Datum.sum, finD]
  | nan s t => simp [Ieee.Datum.opposite, Ieee.Datum.sum, finD]

/-! ### Comparisons -/

def eqF (k : FloatKind) (x y : Nat) : Bool := k.format.order x y == some .eq
@[go_sem] theorem fold_eq (k : FloatKind) (x y : Nat) : (k.format.order x y == some .eq) = eqF k x y := rfl
@[go_sem] theorem fold_ne (k : FloatKind) (x y : Nat) : (k.format.order x y != some .eq) = !(eqF k x y) := rfl
def ltF (k : FloatKind) (x y : Nat) : Bool := k.format.order x y == some .lt
@[go_sem] theorem fold_lt (k : FloatKind) (x y : Nat) : (k.format.order x y == some .lt) = ltF k x y := rfl
def gtF (k : FloatKind) (x y : Nat) : Bool := k.format.order x y == some .gt
@[go_sem] theorem fold_gt (k : FloatKind) (x y : Nat) : (k.format.order x y == some .gt) = gtF k x y := rfl
def geF (k : FloatKind) (x y : Nat) : Bool := gtF k x y || eqF k x y
theorem gtF_cn (k : FloatKind) (x y : Nat) : gtF k (cn k x) (cn k y) = gtF k x y := by unfold gtF; rw [order_cn]
def leF (k : FloatKind) (x y : Nat) : Bool := ltF k x y || eqF k x y
@[go_sem] theorem fold_ge (k : FloatKind) (x y : Nat) : (gtF k x y || eqF k x y) = geF k x y := rfl
@[go_sem] theorem fold_le (k : FloatKind) (x y : Nat) : (ltF k x y || eqF k x y) = leF k x y := rfl
theorem eqF_cn (k : FloatKind) (x y : Nat) : eqF k (cn k x) (cn k y) = eqF k x y := by unfold eqF; rw [order_cn]
theorem ltF_cn (k : FloatKind) (x y : Nat) : ltF k (cn k x) (cn k y) = ltF k x y := by unfold ltF; rw [order_cn]
theorem leF_cn (k : FloatKind) (x y : Nat) : leF k (cn k x) (cn k y) = leF k x y := by unfold leF; rw [ltF_cn, eqF_cn]
theorem geF_cn (k : FloatKind) (x y : Nat) : geF k (cn k x) (cn k y) = geF k x y := by unfold geF; rw [gtF_cn, eqF_cn]

/-- 'x - x == 0' tells just the finite numbers. -/
theorem fin_law {k : FloatKind} {x r : Nat} (h : cn k r = fbin .sub k (cn k x) (cn k x)) : eqF k r 0 = finB k x := by
  unfold eqF
  rw [← order_cn, h, fbin_cn, sub_self]
  cases finB k x
  · simp only [Bool.false_eq_true, if_false]
    have h1 : k.format.order (nanOf k) (cn k 0) = none := order_nan_left (isN_nanOf k)
    rw [h1]; rfl
  · simp only [if_true]
    cases k <;> decide +kernel

/-! ### The opposite -/

theorem xor_top (n b : Nat) : (b ^^^ 2 ^ n) % 2 ^ n = b % 2 ^ n := by
  rw [Nat.xor_mod_two_pow, Nat.mod_self, Nat.xor_zero]

theorem isN_mod (k : FloatKind) (b : Nat) : isN k b = decide (k.format.infRung < b % k.format.signWeight) := by
  unfold isN FloatKind.decode Ieee.Format.read
  dsimp only
  have hlt : k.format.binade ≤ k.format.infRung := by cases k <;> decide +kernel
  split
  · simp [Ieee.Datum.isNaN]; omega
  · split
    · simp [Ieee.Datum.isNaN]; omega
    · split
      · simp [Ieee.Datum.isNaN]; omega
      · simp [Ieee.Datum.isNaN]; omega

theorem isN_neg (k : FloatKind) (b : Nat) : isN k (Op.negFloat k b) = isN k b := by
  rw [isN_mod, isN_mod]
  unfold Op.negFloat Ieee.Format.signWeight
  rw [xor_top]

/-- The opposite, every NaN taken as one. -/
def fneg (k : FloatKind) (b : Nat) : Nat := cn k (Op.negFloat k b)
theorem fneg_cn (k : FloatKind) (b : Nat) : fneg k (cn k b) = fneg k b := by
  cases h : isN k b
  · rw [cn_of_not h]
  · unfold fneg
    rw [cn_of_nan h, cn_of_nan ((isN_neg k _).trans (isN_nanOf k)), cn_of_nan ((isN_neg k _).trans h)]
theorem cn_neg (k : FloatKind) (b : Nat) : cn k (Op.negFloat k b) = fneg k (cn k b) := (fneg_cn k b).symm

/-! ### From one kind to the other -/

/-- 'float64(x)' of a float32, 'float32(x)' of a float64, every NaN taken as one. -/
def fconv (s k : FloatKind) (b : Nat) : Nat := if isN s b then nanOf k else k.encode (s.decode b)
/-- No finite number too great for the other kind. -/
def convOk (s k : FloatKind) (b : Nat) : Bool := isN s b || !finB s b || !(k.decode (k.encode (s.decode b))).isInfinity

theorem fconv_cn (s k : FloatKind) (b : Nat) : fconv s k (cn s b) = fconv s k b := by
  unfold fconv
  rw [isN_cn]
  cases h : isN s b
  · simp only [Bool.false_eq_true, if_false]; rw [cn_of_not h]
  · rfl
theorem convOk_cn (s k : FloatKind) (b : Nat) : convOk s k (cn s b) = convOk s k b := by
  unfold convOk
  rw [isN_cn]
  cases h : isN s b
  · simp only [Bool.false_or]; rw [cn_of_not h]
  · rfl
theorem cn_fconv (s k : FloatKind) (b : Nat) : cn k (fconv s k b) = fconv s k b := by
  unfold fconv
  split
  · exact cn_nanOf k
  · rename_i h
    exact cn_of_not (write_not_nan k.format _ (by simpa [isN] using h))

section
variable {P : Program} (w : World)
theorem run_conv_to (src dst : TypeId) (s k : FloatKind) (b : Nat) (hs : (P.underlying src).isSome = true) (hd : P.underlying dst = some (.float k)) :
    (convert src dst (.float s b)).run P w = (Conv.floatToFloat s b k).run P w := by
  obtain ⟨u, hs'⟩ := Option.isSome_iff_exists.1 hs
  cases u <;> simp [convert, run_underlying hs', run_underlying hd]

theorem run_conv_any (src dst : TypeId) (s k : FloatKind) (b : Nat) (hs : (P.underlying src).isSome = true) (hd : P.underlying dst = some (.float k)) (hne : s ≠ k) :
    ∃ r n, (convert src dst (.float s b)).run P w = .ok (.float k r) (w.drewN n) ∧ (convOk s k (cn s b) = true → cn k r = fconv s k (cn s b)) := by
  rw [convOk_cn, fconv_cn]
  cases hf : floatToFloatBits s b k with
  | some r =>
    refine ⟨r, 0, run_convert_float_float w src dst s k b r hs hd hf, fun _ => ?_⟩
    unfold floatToFloatBits at hf
    rw [if_neg hne] at hf
    unfold fconv isN
    split at hf
    · cases hf
    · rename_i e; rw [e]; cases hf
      simp only [Ieee.Datum.isNaN, Bool.false_eq_true, if_false]
      exact cn_of_not (write_not_nan k.format _ rfl)
    · rename_i e; rw [e]
      split at hf
      · cases hf
      · cases hf
        simp only [Ieee.Datum.isNaN, Bool.false_eq_true, if_false]
        exact cn_of_not (write_not_nan k.format _ rfl)
  | none =>
    unfold floatToFloatBits at hf
    rw [if_neg hne] at hf
    split at hf
    · rename_i e
      refine ⟨Question.cut (.nanConv k b) (w.tape w.drawn (.nanConv k b)), 1, ?_, fun _ => ?_⟩
      · rw [run_conv_to w src dst s k b hs hd]
        simp only [Conv.floatToFloat, if_neg hne, e]
        simp [choose, Sem.run, Question.forced, World.drewN, bind, Sem.bind, pure]
      · rw [cn_of_nan (cut_nanConv ..)]
        unfold fconv isN
        rw [e]; rfl
    · cases hf
    · rename_i sg m e he
      split at hf
      · rename_i ho
        refine ⟨Question.cut (.floatToFloat b) (w.tape w.drawn (.floatToFloat b)), 1, ?_, fun h => ?_⟩
        · rw [run_conv_to w src dst s k b hs hd]
          simp only [Conv.floatToFloat, if_neg hne, he, if_pos ho]
          simp [choose, Sem.run, Question.forced, World.drewN, bind, Sem.bind, pure]
        · unfold convOk finB isN at h
          rw [he] at h
          simp [Ieee.Datum.isNaN, finD, ho] at h
      · cases hf
end

/-! ### The walk's laws -/

def arithOp : BinOp → Bool
  | .add | .sub | .mul | .quo => true
  | _ => false

section
variable {P : Program} {ops : Array Oper} {Q : Exit → Act → World → Prop} {a : Act} {w : World} {rest : List Oper} {o : Oper}

/-- '+', '-', '*', '/' on floats: the result up to the choice of a NaN; some draws. -/
theorem wpList_fbin {op : BinOp} {t t' : TypeId} {x y : Operand} {k : FloatKind} {bx by' : Nat} (hop : o.op = Op.binOp op t x y t') (hx : a.eval x = .float k bx) (hy : a.eval y = .float k by')
    (ho : arithOp op = true) (hg : o.guard = none)
    (hK : ∀ r n, Hid (cn k r = fbin op k (cn k bx) (cn k by')) → wpList P ops Q rest (a.put o.dst (.float k r)) (w.drewN n)) : wpList P ops Q (o :: rest) a w := by
  refine wpList_plain hg fun K hK' => ?_
  obtain ⟨r, n, hrun, hr⟩ := run_float_any (P := P) w op (by cases op <;> simp_all [arithOp]) t k bx by'
  unfold Oper.wp
  have hgd : eqGuard op t x y (.float k bx) (.float k by') = pure () := by cases op <;> simp_all [arithOp, eqGuard] <;> rfl
  simp [execOp, hop, hx, hy, hgd, hrun, Result.andThen]
  exact hK' _ _ (hK r n hr)

/-- 'float64(x)', 'float32(x)' between the two kinds. -/
theorem wpList_fconv {src dst : TypeId} {x : Operand} {s k : FloatKind} {b : Nat} (hop : o.op = Op.convert src dst x) (hx : a.eval x = .float s b)
    (hd : P.underlying dst = some (.float k)) (hs : (P.underlying src).isSome = true) (hne : s ≠ k) (hg : o.guard = none)
    (hK : ∀ r n, Hid (convOk s k (cn s b) = true → cn k r = fconv s k (cn s b)) → wpList P ops Q rest (a.put o.dst (.float k r)) (w.drewN n)) : wpList P ops Q (o :: rest) a w := by
  refine wpList_plain hg fun K hK' => ?_
  obtain ⟨r, n, hrun, hr⟩ := run_conv_any (P := P) w src dst s k b hs hd hne
  unfold Oper.wp
  simp [execOp, hop, hx, hrun, Result.andThen]
  exact hK' _ _ (hK r n hr)
end

@[go_sem] theorem unary_neg_float (k : FloatKind) (b : Nat) : Op.unary .neg (.float k b) = pure (.float k (Op.negFloat k b)) := rfl
@[go_sem] theorem run_store_float (P : Program) (w : World) (a : Addr) (m : Mode) (k : FloatKind) (b : Nat) : (store a (.float k b) m).run P w = stored P w a (.float k b) m := run_store P w a _ m rfl

/-! ### What a contract says -/

theorem ret_int {k : IntKind} {a b : Int} (h : a = b) : Ending.returned (.int k a) = .returned (.int k b) := by rw [h]
theorem ret_bool {a b : Bool} (h : a = b) : Ending.returned (.bool a) = .returned (.bool b) := by rw [h]
theorem ret_float {k : FloatKind} {a b : Nat} (h : a = b) : Ending.returned (.float k a) = .returned (.float k b) := by rw [h]

/-- It returns this bool; some draws. -/
def RB (v : Bool) (w : World) (e : Ending) (w' : World) : Prop := ∃ n, e = .returned (.bool v) ∧ w' = w.drewN n
/-- It returns a float that is this one, every NaN taken as one; some draws. -/
def RF (k : FloatKind) (x : Nat) (w : World) (e : Ending) (w' : World) : Prop := ∃ r n, e = .returned (.float k r) ∧ cn k r = x ∧ w' = w.drewN n
/-- It returns this bool; of what was there nothing has turned. -/
def BB (v : Bool) (w : World) (e : Ending) (w' : World) : Prop := e = .returned (.bool v) ∧ Below w.heap.size w w'
/-- It returns a float that is this one, every NaN taken as one; of what was there nothing has turned. -/
def BF (k : FloatKind) (x : Nat) (w : World) (e : Ending) (w' : World) : Prop := ∃ r, e = .returned (.float k r) ∧ cn k r = x ∧ Below w.heap.size w w'

theorem below_drewN {w : World} (n : Nat) : Below w.heap.size w (w.drewN n) := ⟨rfl, rfl, rfl, Nat.le_refl _, fun _ _ => rfl⟩
theorem Below.drewN {B : Nat} {a w : World} (h : Below B a w) (n : Nat) : Below B a (w.drewN n) := ⟨h.os, h.tape, h.output, h.size, h.block⟩

theorem Below.step {w W w1 : World} (h : Below w.heap.size w W) (hb : Below W.heap.size W w1) : Below w.heap.size w w1 := h.trans (hb.mono h.size)
theorem Below.allocS {w W : World} (h : Below w.heap.size w W) (o : Obj) : Below w.heap.size w (W.alloc o) := h.alloc h.size o

theorem bcell {W w1 : World} (hb : Below W.heap.size W w1) : (∀ b o, b < W.heap.size → w1.cell? ⟨b, o, none⟩ = W.cell? ⟨b, o, none⟩) ∧ (∀ b o, b < W.heap.size → w1.frozen? ⟨b, o, none⟩ = W.frozen? ⟨b, o, none⟩) :=
  ⟨fun b o h => hb.cell (p := ⟨b, o, none⟩) h, fun b o h => hb.frozen (p := ⟨b, o, none⟩) h⟩


/-! ### Tests -/

/-- Finite and greater than 0. -/
def aboveB (x : Nat) : Bool := finB .f32 x && gtF .f32 x 0
/-- Finite and at least 0. -/
def leastB (x : Nat) : Bool := finB .f32 x && geF .f32 x 0
/-- Two numbers are the same. -/
def sameB (x y : Nat) : Bool := cn .f32 x == cn .f32 y
def fin3 (x y z : Nat) : Bool := finB .f32 x && finB .f32 y && finB .f32 z
def fin4 (x y z v : Nat) : Bool := finB .f32 x && finB .f32 y && finB .f32 z && finB .f32 v
def spinB (x y z v : Nat) : Bool := fin4 x y z v && (!eqF .f32 x 0 || !eqF .f32 y 0 || !eqF .f32 z 0 || !eqF .f32 v 0)
def pendB (l p d v r : Nat) : Bool := aboveB l && leastB p && leastB d && finB .f32 v && finB .f32 r
/-- At least 0 and at most 1. -/
def shareB (x : Nat) : Bool := geF .f32 x 0 && leF .f32 x 1065353216
/-- At least 0 and less than 1. -/
def keepB (x : Nat) : Bool := geF .f32 x 0 && ltF .f32 x 1065353216

theorem RB.quiet {P : Program} {f : FuncId} {args : Array Value} {w : World} {n : Nat} {v : Bool} (h : Calls P f args (w.drewN n) (RB v (w.drewN n))) :
    Calls P f args (w.drewN n) fun e w'' => e = .returned (.bool v) ∧ ∃ m, w'' = w.drewN m :=
  h.mono fun _ _ ⟨m, he, hm⟩ => ⟨he, n + m, by rw [hm, World.drewN_drewN]⟩

/-- All are finite. -/
def allFin (l : List Nat) : Bool := l.all (finB .f32)
/-- The first place of one that is not finite; -1: there is none. -/
def badAt (l : List Nat) : Int := if allFin l then -1 else ((l.takeWhile (finB .f32)).length : Int)
theorem badAt_ge (l : List Nat) : decide (0 ≤ badAt l) = !(allFin l) := by
  unfold badAt
  cases allFin l <;> simp <;> omega
theorem badAt_of_all {l : List Nat} (h : allFin l = true) : badAt l = -1 := by unfold badAt; rw [if_pos h]
theorem takeWhile_at (q : Nat → Bool) : ∀ (l : List Nat) (k : Nat), k < l.length → (l.take k).all q = true → q (l.getD k 0) = false → l.takeWhile q = l.take k
  | [], k, h, _, _ => by simp at h
  | x :: l, 0, _, _, h => by simp at h; simp [h]
  | x :: l, k + 1, h, h1, h2 => by
    simp at h1 h2 h
    have := takeWhile_at q l k h (by simpa using h1.2) (by simpa using h2)
    simp [h1.1, this]
theorem badAt_here {l : List Nat} {k : Nat} (hk : k < l.length) (h1 : allFin (l.take k) = true) (h2 : finB .f32 (l.getD k 0) = false) : badAt l = k := by
  unfold badAt
  have h3 : allFin l = false := by
    unfold allFin
    rw [List.all_eq_false]
    refine ⟨l.getD k 0, ?_, by simpa using h2⟩
    rw [List.getD_eq_getElem?_getD, List.getElem?_eq_getElem hk]
    exact List.getElem_mem hk
  rw [h3]
  simp only [Bool.false_eq_true, if_false]
  rw [takeWhile_at _ l k hk h1 h2]
  simp; omega
theorem allFin_snoc {l : List Nat} {k : Nat} (hk : k < l.length) (h1 : allFin (l.take k) = true) (h2 : finB .f32 (l.getD k 0) = true) : allFin (l.take (k + 1)) = true := by
  unfold allFin at *
  rw [List.take_succ_eq_append_getElem hk, List.all_append, h1]
  rw [List.getD_eq_getElem?_getD, List.getElem?_eq_getElem hk] at h2
  simpa using h2

/-- Two lists have the same numbers. -/
def sameL : List Nat → List Nat → Bool
  | [], [] => true
  | x :: l, y :: m => sameB x y && sameL l m
  | _, _ => false
theorem sameL_of_len : ∀ (l m : List Nat), l.length ≠ m.length → sameL l m = false
  | [], [], h => by simp at h
  | [], _ :: _, _ => rfl
  | _ :: _, [], _ => rfl
  | x :: l, y :: m, h => by simp only [sameL, sameL_of_len l m (by simpa using h), Bool.and_false]
theorem sameL_here : ∀ (l m : List Nat) (k : Nat), k < l.length → k < m.length → sameB (l.getD k 0) (m.getD k 0) = false → sameL l m = false
  | [], _, k, h, _, _ => by simp at h
  | _ :: _, [], k, _, h, _ => by simp at h
  | x :: l, y :: m, 0, _, _, h => by simp at h; simp [sameL, h]
  | x :: l, y :: m, k + 1, h1, h2, h => by
    simp only [sameL]
    rw [sameL_here l m k (by simpa using h1) (by simpa using h2) (by simpa using h), Bool.and_false]
theorem sameL_all : ∀ (l m : List Nat), l.length = m.length → (∀ k, k < l.length → sameB (l.getD k 0) (m.getD k 0) = true) → sameL l m = true
  | [], [], _, _ => rfl
  | [], _ :: _, h, _ => by simp at h
  | _ :: _, [], h, _ => by simp at h
  | x :: l, y :: m, h, hs => by
    simp only [sameL]
    have h0 : sameB x y = true := by simpa using hs 0 (by simp)
    rw [h0, sameL_all l m (by simpa using h) (fun k hk => by simpa using hs (k + 1) (by simpa using hk))]
    rfl

/-- It returns this value; of what was there nothing has turned. -/
def BV (v : Value) (w : World) (e : Ending) (w' : World) : Prop := e = .returned v ∧ Below w.heap.size w w'
/-- It returns this value; some draws. -/
def RV (v : Value) (w : World) (e : Ending) (w' : World) : Prop := ∃ n, e = .returned v ∧ w' = w.drewN n

theorem bfacts {N : Nat} {W w1 : World} (hb : Below N W w1) (hz : N ≤ w1.heap.size) : (∀ b o, b < N → w1.cell? ⟨b, o, none⟩ = W.cell? ⟨b, o, none⟩) ∧ (∀ b o, b < N → w1.frozen? ⟨b, o, none⟩ = W.frozen? ⟨b, o, none⟩) ∧ (∀ b, b < N → b < w1.heap.size) ∧
    (∀ b, b < N → ¬ b = w1.heap.size) ∧ (∀ b, b < N → ¬ w1.heap.size = b) :=
  ⟨fun b o h => hb.cell (p := ⟨b, o, none⟩) h, fun b o h => hb.frozen (p := ⟨b, o, none⟩) h, fun b h => Nat.lt_of_lt_of_le h hz, fun b h e => by omega, fun b h e => by omega⟩

theorem eqF_self (k : FloatKind) (x : Nat) : eqF k x x = !isN k x := by
  unfold eqF isN Ieee.Format.order
  show ((k.decode x).order (k.decode x) == some .eq) = _
  cases k.decode x with
  | number s m e => simp [Ieee.Datum.order, Ieee.Datum.isNaN]
  | infinity s => cases s <;> rfl
  | nan s t => rfl

theorem sameB_int (x y : Nat) : (((cn .f32 x : Nat) : Int) == ((cn .f32 y : Nat) : Int)) = sameB x y := by
  unfold sameB
  rw [Bool.eq_iff_iff]
  simp only [beq_iff_eq]
  omega
theorem sameB_of (x y : Nat) (hx : isN .f32 x = false) (hy : isN .f32 y = false) : ((x : Int) == (y : Int)) = sameB x y := by
  rw [← sameB_int, cn_of_not hx, cn_of_not hy]
theorem sameB_nan (x y : Nat) (h : isN .f32 x = true ∨ isN .f32 y = true) : (isN .f32 x && isN .f32 y) = sameB x y := by
  unfold sameB
  rw [Bool.eq_iff_iff]
  simp only [Bool.and_eq_true, beq_iff_eq]
  constructor
  · rintro ⟨h1, h2⟩; rw [cn_of_nan h1, cn_of_nan h2]
  · intro he
    rcases h with h | h
    · refine ⟨h, ?_⟩
      rw [← isN_cn, ← he, isN_cn, h]
    · refine ⟨?_, h⟩
      rw [← isN_cn, he, isN_cn, h]

def fin2 (x0 x1 : Nat) : Bool := finB .f32 x0 && finB .f32 x1
def fin5 (x0 x1 x2 x3 x4 : Nat) : Bool := finB .f32 x0 && finB .f32 x1 && finB .f32 x2 && finB .f32 x3 && finB .f32 x4
end Go.Proofs.Ytoiomgofbohmoaa
