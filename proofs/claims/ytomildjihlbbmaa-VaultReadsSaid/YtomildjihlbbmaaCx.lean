/-
  The floats' functions: what each answers, at every word; that the Go text answers just this.
-/
import Derived.Test.YtomildjihlbbmaaProg
import Derived.Test.YtomildjihlbbmaaFlt
import Derived.WalkKit
import Derived.WalkSpells
import Derived.WalkLawsBesides
import Derived.KernelRfl
import Derived.Laws.Externs
import Derived.Deep.QuietTactic
import Derived.BigQuiet
import Derived.Lib.Hide
import Derived.Deep.LoopGhost
import Derived.Deep.Draws
import Derived.Below
namespace Go.Proofs.Ytomildjihlbbmaa
open Go.RowKit Flt
set_option linter.unusedVariables false
theorem run_f64bits (x : Nat) (w : World) : (callFunc 29 #[.float .f64 x]).run Try.prog w = .ok (.value (.int .u64 x)) w := by
  rw [run_callFunc_extern (fn := Try.f29) (e := Extern.MathFloatBits.float64bits) Try.func29 (by kernel_rfl) (by kernel_rfl) (by kernel_rfl) (by kernel_rfl)]
  rfl
theorem run_f64from (x : Int) (w : World) : (callFunc 19 #[.int .u64 x]).run Try.prog w = .ok (.value (.float .f64 x.toNat)) w := by
  rw [run_callFunc_extern (fn := Try.f19) (e := Extern.MathFloatBits.float64frombits) Try.func19 (by kernel_rfl) (by kernel_rfl) (by kernel_rfl) (by kernel_rfl)]
  rfl
theorem run_f32bits (x : Nat) (w : World) : (callFunc 47 #[.float .f32 x]).run Try.prog w = .ok (.value (.int .u32 x)) w := by
  rw [run_callFunc_extern (fn := Try.f47) (e := Extern.MathFloatBits.float32bits) Try.func47 (by kernel_rfl) (by kernel_rfl) (by kernel_rfl) (by kernel_rfl)]
  rfl
theorem run_f32from (x : Int) (w : World) : (callFunc 21 #[.int .u32 x]).run Try.prog w = .ok (.value (.float .f32 x.toNat)) w := by
  rw [run_callFunc_extern (fn := Try.f21) (e := Extern.MathFloatBits.float32frombits) Try.func21 (by kernel_rfl) (by kernel_rfl) (by kernel_rfl) (by kernel_rfl)]
  rfl
/-- what the two cuts to a whole number do -/
def cutRun (way : Ieee.Toward) (x : Nat) : Sem Value := match FloatKind.f64.decode x with
    | .nan s t =>
      if FloatKind.f64.format.quiet t = t then pure (.float .f64 x) else do
      let kept ← choose (.extern "math.Floor,Ceil,Trunc,RoundToEven.signallingNaN kept" 2)
      pure (.float .f64 (if kept == 1 then x else FloatKind.f64.encode (.nan s (FloatKind.f64.format.quiet t))))
    | d => pure (.float .f64 (FloatKind.f64.encode (d.integral way)))
theorem cutRun_num (way : Ieee.Toward) (x : Nat) (h : (FloatKind.f64.decode x).isNaN = false) (w : World) : (cutRun way x).run Try.prog w = .ok (.float .f64 (FloatKind.f64.encode ((FloatKind.f64.decode x).integral way))) w := by
  unfold cutRun
  cases hd : FloatKind.f64.decode x with
  | nan s t => rw [hd] at h; cases h
  | number s m e => rfl
  | infinity s => rfl
theorem run_floor (x : Nat) (h : (FloatKind.f64.decode x).isNaN = false) (w : World) : (callFunc 72 #[.float .f64 x]).run Try.prog w = .ok (.value (.float .f64 (fFloor x))) w := by
  rw [run_callFunc_extern (fn := Try.f72) (e := Extern.MathFloor.toIntegral "math.archFloor" .down) Try.func72 (by kernel_rfl) (by kernel_rfl) (by kernel_rfl) (by kernel_rfl)]
  change ((cutRun .down x).run Try.prog w).andThen _ = _
  rw [cutRun_num _ _ h]; rfl
theorem run_trunc (x : Nat) (h : (FloatKind.f64.decode x).isNaN = false) (w : World) : (callFunc 78 #[.float .f64 x]).run Try.prog w = .ok (.value (.float .f64 (fTrunc x))) w := by
  rw [run_callFunc_extern (fn := Try.f78) (e := Extern.MathFloor.toIntegral "math.archTrunc" .zero) Try.func78 (by kernel_rfl) (by kernel_rfl) (by kernel_rfl) (by kernel_rfl)]
  change ((cutRun .zero x).run Try.prog w).andThen _ = _
  rw [cutRun_num _ _ h]; rfl
/-- of a NaN: some word; the world may have been asked -/
theorem run_trunc_nan (x : Nat) (w : World) : ∃ r n, (callFunc 78 #[.float .f64 x]).run Try.prog w = .ok (.value (.float .f64 r)) (w.drewN n) := by
  rw [run_callFunc_extern (fn := Try.f78) (e := Extern.MathFloor.toIntegral "math.archTrunc" .zero) Try.func78 (by kernel_rfl) (by kernel_rfl) (by kernel_rfl) (by kernel_rfl)]
  have : ∃ r n, (cutRun .zero x).run Try.prog w = .ok (.float .f64 r) (w.drewN n) := by
    unfold cutRun
    cases hd : FloatKind.f64.decode x with
    | number s m e => exact ⟨_, 0, rfl⟩
    | infinity s => exact ⟨_, 0, rfl⟩
    | nan s t =>
      simp only
      split
      · exact ⟨_, 0, rfl⟩
      · exact ⟨_, 1, rfl⟩
  obtain ⟨r, n, h⟩ := this
  refine ⟨r, n, ?_⟩
  change ((cutRun .zero x).run Try.prog w).andThen _ = _
  rw [h]; rfl
attribute [local go_sem] run_f64bits run_f64from run_f32bits run_f32from

theorem ret_b {a b : Bool} (h : a = b) : Ending.returned (.bool a) = Ending.returned (.bool b) := by rw [h]
theorem und48 : (Try.prog.underlying 48).isSome = true := by kernel_rfl
theorem und3 : Try.prog.underlying 3 = some (.int .i64) := by kernel_rfl

set_option maxHeartbeats 400000 in
theorem abs_any (x : Nat) (w : World) : Calls Try.prog 61 #[.float .f64 x] w fun e w' => e = .returned (.float .f64 (fAbs x)) ∧ w' = w := by
  go_enter Try.func61, Try.ntmps61
  go_wp2
  go_ret
  exact ⟨rfl, rfl⟩
theorem wrap_sign (x : Nat) (h : x < 2 ^ 64) : decide (wrap64 (x : Int) < 0) = decide (9223372036854775808 ≤ x) := by
  unfold wrap64
  by_cases h1 : 9223372036854775808 ≤ x
  · rw [decide_eq_true h1, decide_eq_true_iff]; omega
  · rw [decide_eq_false h1, decide_eq_false_iff_not]; omega
set_option maxHeartbeats 400000 in
theorem signbit_any (x : Nat) (h : x < 2 ^ 64) (w : World) : Calls Try.prog 63 #[.float .f64 x] w fun e w' => e = .returned (.bool (decide (9223372036854775808 ≤ x))) ∧ w' = w := by
  have H := Lib.hid (wrap_sign x h)
  clear h
  go_enter Try.func63, Try.ntmps63
  go_wp2
  go_ret
  exact ⟨ret_b H.out, rfl⟩
set_option maxHeartbeats 400000 in
theorem floor_any (x : Nat) (w : World) (h : (FloatKind.f64.decode x).isNaN = false) : Calls Try.prog 62 #[.float .f64 x] w fun e w' => e = .returned (.float .f64 (fFloor x)) ∧ w' = w := by
  have hr := run_floor x h
  clear h
  go_enter Try.func62, Try.ntmps62
  go_wp2
  go_ret
  exact ⟨rfl, rfl⟩
set_option maxHeartbeats 400000 in
theorem trunc_num (x : Nat) (w : World) (h : (FloatKind.f64.decode x).isNaN = false) : Calls Try.prog 74 #[.float .f64 x] w fun e w' => e = .returned (.float .f64 (fTrunc x)) ∧ w' = w := by
  have hr := run_trunc x h
  clear h
  go_enter Try.func74, Try.ntmps74
  go_wp2
  go_ret
  exact ⟨rfl, rfl⟩
set_option maxHeartbeats 400000 in
theorem trunc_nan (x : Nat) (w : World) : Calls Try.prog 74 #[.float .f64 x] w fun e w' => ∃ r n, e = .returned (.float .f64 r) ∧ w' = w.drewN n := by
  obtain ⟨r, n, hr⟩ := run_trunc_nan x w
  go_enter Try.func74, Try.ntmps74
  go_wp2
  go_ret
  exact ⟨r, n, rfl, rfl⟩

theorem bool_cases (s : Bool) : s = true ∨ s = false := by cases s <;> simp
set_option maxHeartbeats 1000000 in
theorem whole1_any (x : Nat) (hx : x < 2 ^ 64) (most : Int) (w : World) (b : Nat) (hc : w.cell? ⟨b, 0, none⟩ = some (.int .i64 most)) :
    Calls Try.prog 60 #[.float .f64 x, .pointer (some ⟨b, 0, none⟩)] w fun e w' => e = .returned (.bool (wholeP x most)) ∧ ∃ n, w' = w.drewN n := by
  have HX := Lib.hid hx
  clear hx
  rcases bool_cases (FloatKind.f64.format.order (fAbs x) 4890909195324358656 == some .lt) with h1 | h1
  · obtain ⟨f1, f2⟩ := below_facts HX.out h1
    have hcv : ∀ w, (convert 48 3 (.float .f64 (fAbs x))).run Try.prog w = .ok (.int .i64 (fInt (fAbs x))) w := fun w => run_convert_float_int w 48 3 .f64 .i64 _ _ und48 und3 f2
    have F1 := Lib.hid f1
    clear f1 f2
    rcases bool_cases (FloatKind.f64.format.order x (fFloor x) == some .eq) with h2 | h2
    · by_cases h3 : fInt (fAbs x) ≤ most
      · rcases bool_cases (FloatKind.f64.format.order x 0 == some .eq) with h4 | h4
        · have HW : Hid (wholeP x most = !decide (9223372036854775808 ≤ x)) := by show wholeP x most = _; simp only [wholeP, h1, h2, h3, h4, if_true, Bool.true_and]
          go_enter Try.func60, Try.ntmps60
          go_wp2
          go_quiet (first
            | (go_at_call 61; refine Calls.quiet_of_same (abs_any _ _))
            | (go_at_call 62; refine Calls.quiet_of_same (floor_any _ _ F1.out))
            | (go_at_call 63; refine Calls.quiet_of_same (signbit_any _ HX.out _)))
          go_wp2
          go_ret
          exact ⟨ret_b HW.out.symm, _, rfl⟩
        · have HW : Hid (wholeP x most = true) := by show wholeP x most = _; simp only [wholeP, h1, h2, h3, h4, if_true, Bool.false_and, Bool.not_false]
          go_enter Try.func60, Try.ntmps60
          go_wp2
          go_quiet (first
            | (go_at_call 61; refine Calls.quiet_of_same (abs_any _ _))
            | (go_at_call 62; refine Calls.quiet_of_same (floor_any _ _ F1.out)))
          go_wp2
          go_ret
          exact ⟨ret_b HW.out.symm, _, rfl⟩
      · have h3' : decide (fInt (fAbs x) ≤ most) = false := decide_eq_false h3
        have HW : Hid (wholeP x most = false) := by show wholeP x most = _; simp only [wholeP, h1, h2, h3, if_true, if_false]
        clear h3
        go_enter Try.func60, Try.ntmps60
        go_wp2
        go_quiet (first
          | (go_at_call 61; refine Calls.quiet_of_same (abs_any _ _))
          | (go_at_call 62; refine Calls.quiet_of_same (floor_any _ _ F1.out)))
        go_wp2
        go_ret
        exact ⟨ret_b HW.out.symm, _, rfl⟩
    · have HW : Hid (wholeP x most = false) := by show wholeP x most = _; simp only [wholeP, h1, h2, if_true, Bool.false_eq_true, if_false]
      go_enter Try.func60, Try.ntmps60
      go_wp2
      go_quiet (first
        | (go_at_call 61; refine Calls.quiet_of_same (abs_any _ _))
        | (go_at_call 62; refine Calls.quiet_of_same (floor_any _ _ F1.out)))
      go_wp2
      go_ret
      exact ⟨ret_b HW.out.symm, _, rfl⟩
  · have HW : Hid (wholeP x most = false) := by show wholeP x most = _; simp only [wholeP, h1, Bool.false_eq_true, if_false]
    go_enter Try.func60, Try.ntmps60
    go_wp2
    go_quiet ((go_at_call 61; refine Calls.quiet_of_same (abs_any _ _)))
    go_wp2
    go_ret
    exact ⟨ret_b HW.out.symm, _, rfl⟩
end Go.Proofs.Ytomildjihlbbmaa

/-
  Whole and Narrow, the program's and the reference's: what each answers, at every complex number.
-/
namespace Go.Proofs.Ytomildjihlbbmaa
open Go.RowKit Flt
set_option linter.unusedVariables false
attribute [local go_sem] run_f64bits run_f64from run_f32bits run_f32from

theorem below_drewN {B : Nat} {a w : World} (h : Below B a w) (n : Nat) : Below B a (w.drewN n) := ⟨h.os, h.tape, h.output, h.size, h.block⟩
def wholeC (re im : Nat) (most : Int) : Bool := wholeP re most && wholeP im most

set_option maxHeartbeats 400000 in
theorem Whole_any (re im : Nat) (hr : re < 2 ^ 64) (hi : im < 2 ^ 64) (most : Int) (h0 : 0 ≤ most) (w : World) :
    Calls Try.prog 48 #[.complex .f64 re im, .int .i64 most] w fun e w' => e = .returned (.bool (wholeC re im most)) ∧ Below w.heap.size w w' := by
  have HR := Lib.hid hr
  have HI := Lib.hid hi
  clear hr hi
  have hd : decide (0 ≤ most) = true := decide_eq_true h0
  go_enter Try.func48, Try.ntmps48
  go_wp2_with fail
  refine (whole1_any _ HR.out most _ _ (by go_simp)).mono ?_
  rintro e w' ⟨rfl, n1, rfl⟩
  rcases bool_cases (wholeP re most) with h1 | h1
  · rw [h1]
    have HW : Hid (wholeC re im most = wholeP im most) := by show wholeC re im most = _; unfold wholeC; rw [h1, Bool.true_and]
    clear h1
    go_wp2_with fail
    refine (whole1_any _ HI.out most _ _ (by go_simp)).mono ?_
    rintro e w' ⟨rfl, n2, rfl⟩
    go_wp2
    go_ret
    exact ⟨ret_b HW.out.symm, below_drewN ((Below.refl _ _).alloc (Nat.le_refl _) _) (n1 + n2)⟩
  · rw [h1]
    have HW : Hid (wholeC re im most = false) := by show wholeC re im most = _; unfold wholeC; rw [h1, Bool.false_and]
    clear h1
    go_wp2
    go_ret
    exact ⟨ret_b HW.out.symm, below_drewN ((Below.refl _ _).alloc (Nat.le_refl _) _) n1⟩

/-! ### the reference's -/
set_option maxHeartbeats 400000 in
theorem isInf_any (x : Nat) (w : World) : Calls Try.prog 64 #[.float .f64 x, .int .i64 0] w fun e w' => e = .returned (.bool (isInfF x)) ∧ w' = w := by
  go_enter Try.func64, Try.ntmps64
  go_wp2_with fail
  refine (abs_any _ _).mono ?_
  rintro e w' ⟨rfl, rfl⟩
  go_wp2
  go_ret
  exact ⟨rfl, rfl⟩
set_option maxHeartbeats 1000000 in
theorem rwhole_any (x : Nat) (hx : x < 2 ^ 64) (most : Int) (w : World) : Calls Try.prog 65 #[.float .f64 x, .int .i64 most] w fun e w' => e = .returned (.bool (wholeR x most)) ∧ ∃ n, w' = w.drewN n := by
  have HX := Lib.hid hx
  clear hx
  rcases bool_cases (FloatKind.f64.format.order x 0 == some .eq) with h1 | h1
  · have HW : Hid (wholeR x most = (((x : Nat) : Int) == 0)) := by
      show wholeR x most = _
      unfold wholeR
      rw [if_pos h1]
      exact Bool.eq_iff_iff.2 (by simp)
    go_enter Try.func65, Try.ntmps65
    go_wp2
    go_ret
    exact ⟨ret_b HW.out.symm, 0, rfl⟩
  · rcases bool_cases (FloatKind.f64.decode x).isNaN with hn | hn
    · have ha : ∀ y, (FloatKind.f64.format.order x y != some .eq) = true := by
        intro y
        unfold FloatKind.decode at hn
        unfold Ieee.Format.order
        cases hd : FloatKind.f64.format.read x with
        | nan s t => rfl
        | number s m e => rw [hd] at hn; cases hn
        | infinity s => rw [hd] at hn; cases hn
      have HW : Hid (wholeR x most = false) := by
        show wholeR x most = _
        unfold wholeR
        rw [if_neg (by rw [h1]; decide), ha, Bool.true_or, if_pos rfl]
      clear hn
      go_enter Try.func65, Try.ntmps65
      go_wp2_with fail
      refine (trunc_nan _ _).mono ?_
      rintro e w' ⟨r, n, rfl, rfl⟩
      have ha' := ha r
      clear ha
      go_wp2
      go_ret
      exact ⟨ret_b HW.out.symm, n, rfl⟩
    · have HN := Lib.hid hn
      clear hn
      rcases bool_cases (FloatKind.f64.format.order x (fTrunc x) != some .eq) with h2 | h2
      · have HW : Hid (wholeR x most = false) := by
          show wholeR x most = _
          unfold wholeR
          rw [if_neg (by rw [h1]; decide), h2, Bool.true_or, if_pos rfl]
        go_enter Try.func65, Try.ntmps65
        go_wp2_with fail
        refine (trunc_num _ _ HN.out).mono ?_
        rintro e w' ⟨rfl, rfl⟩
        go_wp2
        go_ret
        exact ⟨ret_b HW.out.symm, 0, rfl⟩
      · rcases bool_cases (FloatKind.f64.format.order (fAbs x) 4890909195324358656 == some .gt || FloatKind.f64.format.order (fAbs x) 4890909195324358656 == some .eq) with h3 | h3
        · have HW : Hid (wholeR x most = false) := by
            show wholeR x most = _
            unfold wholeR
            rw [if_neg (by rw [h1]; decide), h3, Bool.or_true, if_pos rfl]
          go_enter Try.func65, Try.ntmps65
          go_wp2_with fail
          refine (trunc_num _ _ HN.out).mono ?_
          rintro e w' ⟨rfl, rfl⟩
          go_wp2_with fail
          refine (abs_any _ _).mono ?_
          rintro e w' ⟨rfl, rfl⟩
          go_wp2
          go_ret
          exact ⟨ret_b HW.out.symm, 0, rfl⟩
        · have HW : Hid (wholeR x most = decide (fInt (fAbs x) ≤ most)) := by
            show wholeR x most = _
            unfold wholeR
            rw [if_neg (by rw [h1]; decide), h2, h3]
            rfl
          have hf := ref_finite HX.out (by rw [h2, h3]; rfl)
          have hcv : ∀ w, (convert 48 3 (.float .f64 (fAbs x))).run Try.prog w = .ok (.int .i64 (fInt (fAbs x))) w := fun w => run_convert_float_int w 48 3 .f64 .i64 _ _ und48 und3 hf
          clear hf
          go_enter Try.func65, Try.ntmps65
          go_wp2_with fail
          refine (trunc_num _ _ HN.out).mono ?_
          rintro e w' ⟨rfl, rfl⟩
          go_wp2_with fail
          refine (abs_any _ _).mono ?_
          rintro e w' ⟨rfl, rfl⟩
          go_wp2_with fail
          refine (abs_any _ _).mono ?_
          rintro e w' ⟨rfl, rfl⟩
          go_wp2
          go_ret
          exact ⟨ret_b HW.out.symm, 0, rfl⟩

set_option maxHeartbeats 1000000 in
theorem RWhole_any (re im : Nat) (hr : re < 2 ^ 64) (hi : im < 2 ^ 64) (most : Int) (h0 : 0 ≤ most) (w : World) :
    Calls Try.prog 52 #[.complex .f64 re im, .int .i64 most] w fun e w' => e = .returned (.bool (wholeC re im most)) ∧ Below w.heap.size w w' := by
  have HR := Lib.hid hr
  have HI := Lib.hid hi
  have HW : Hid (wholeC re im most = ((!isInfF re && wholeR re most) && (!isInfF im && wholeR im most))) := by
    show wholeC re im most = _
    unfold wholeC
    rw [whole_eq re hr most h0, whole_eq im hi most h0]
  clear hr hi
  have hd : decide (0 ≤ most) = true := decide_eq_true h0
  go_enter Try.func52, Try.ntmps52
  go_wp2_with fail
  refine (isInf_any _ _).mono ?_
  rintro e w' ⟨rfl, rfl⟩
  cases h1 : isInfF re <;> rw [h1] at HW <;> clear h1
  · go_wp2_with fail
    refine (isInf_any _ _).mono ?_
    rintro e w' ⟨rfl, rfl⟩
    cases h2 : isInfF im <;> rw [h2] at HW <;> clear h2
    · go_wp2_with fail
      refine (rwhole_any _ HR.out most _).mono ?_
      rintro e w' ⟨rfl, n1, rfl⟩
      cases h3 : wholeR re most <;> rw [h3] at HW <;> clear h3
      · go_wp2
        go_ret
        exact ⟨ret_b HW.out.symm, below_drewN (Below.refl _ _) n1⟩
      · go_wp2_with fail
        refine (rwhole_any _ HI.out most _).mono ?_
        rintro e w' ⟨rfl, n2, rfl⟩
        go_wp2
        go_ret
        exact ⟨ret_b (by rw [HW.out]; simp), below_drewN (Below.refl _ _) (n1 + n2)⟩
    · go_wp2
      go_ret
      exact ⟨ret_b (by rw [HW.out]; simp), Below.refl _ _⟩
  · go_wp2
    go_ret
    exact ⟨ret_b HW.out.symm, Below.refl _ _⟩

/-! ### narrow -/
theorem und42 : (Try.prog.underlying 42).isSome = true := by kernel_rfl
theorem und42c : Try.prog.underlying 42 = some (.complex .f64) := by kernel_rfl
theorem und56 : (Try.prog.underlying 56).isSome = true := by kernel_rfl
theorem und56c : Try.prog.underlying 56 = some (.complex .f32) := by kernel_rfl

theorem drewN_zero (w : World) : w.drewN 0 = w := rfl
theorem nan32 (t : Nat) : (t % 2) * 2 ^ 31 + 0x7f800000 + 1 + (t / 2) % (2 ^ 23 - 1) < 2 ^ 32 ∧ (Ieee.single.read ((t % 2) * 2 ^ 31 + 0x7f800000 + 1 + (t / 2) % (2 ^ 23 - 1))).isNaN = true := by
  have h1 : (t / 2) % (2 ^ 23 - 1) < 2 ^ 23 - 1 := Nat.mod_lt _ (by omega)
  generalize (t / 2) % (2 ^ 23 - 1) = q at h1 ⊢
  refine ⟨by omega, ?_⟩
  have h2 : t % 2 = 0 ∨ t % 2 = 1 := by omega
  have e : ∃ s, (t % 2) * 2 ^ 31 + 0x7f800000 + 1 + q = Ieee.single.word s (2139095040 + 1 + q) := by
    rcases h2 with h | h
    · exact ⟨false, by rw [h]; unfold Ieee.Format.word; simp⟩
    · exact ⟨true, by rw [h]; unfold Ieee.Format.word; rw [s_sign]; simp; omega⟩
  obtain ⟨s, e⟩ := e
  rw [e, read_word Ieee.single s _ (by rw [s_sign]; omega), s_binade, s_inf, if_neg (by omega), if_neg (by omega), if_neg (by omega)]
  rfl
theorem nan64 (t : Nat) : (t % 2) * 2 ^ 63 + 0x7ff0000000000000 + 1 + (t / 2) % (2 ^ 52 - 1) < 2 ^ 64 ∧ (Ieee.double.read ((t % 2) * 2 ^ 63 + 0x7ff0000000000000 + 1 + (t / 2) % (2 ^ 52 - 1))).isNaN = true := by
  have h1 : (t / 2) % (2 ^ 52 - 1) < 2 ^ 52 - 1 := Nat.mod_lt _ (by omega)
  generalize (t / 2) % (2 ^ 52 - 1) = q at h1 ⊢
  refine ⟨by omega, ?_⟩
  have h2 : t % 2 = 0 ∨ t % 2 = 1 := by omega
  have e : ∃ s, (t % 2) * 2 ^ 63 + 0x7ff0000000000000 + 1 + q = Ieee.double.word s (9218868437227405312 + 1 + q) := by
    rcases h2 with h | h
    · exact ⟨false, by rw [h]; unfold Ieee.Format.word; simp⟩
    · exact ⟨true, by rw [h]; unfold Ieee.Format.word; rw [d_sign]; simp; omega⟩
  obtain ⟨s, e⟩ := e
  rw [e, read_word Ieee.double s _ (by rw [d_sign]; omega), d_binade, d_inf, if_neg (by omega), if_neg (by omega), if_neg (by omega)]
  rfl

/-- float64 to float32: some word of which Nar holds. -/
theorem run_down (x : Nat) (w : World) : ∃ c n, (Conv.floatToFloat .f64 x .f32).run Try.prog w = .ok (.float .f32 c) (w.drewN n) ∧ Nar x c := by
  cases hd : FloatKind.f64.decode x with
  | nan s t =>
    have h1 : Ieee.double.read x = .nan s t := hd
    obtain ⟨a, b⟩ := nan32 (w.tape w.drawn (.nanConv .f32 x))
    exact ⟨_, 1, by simp [Conv.floatToFloat, hd]; rfl, a, by rw [h1]; exact b⟩
  | infinity s =>
    have h1 : Ieee.double.read x = .infinity s := hd
    exact ⟨_, 0, by simp [Conv.floatToFloat, hd]; exact ⟨rfl, rfl⟩, write_single_lt _, by rw [h1]⟩
  | number s m e =>
    have h1 : Ieee.double.read x = .number s m e := hd
    cases hi : (FloatKind.f32.decode (FloatKind.f32.encode (.number s m e))).isInfinity with
    | true => exact ⟨_, 1, by simp [Conv.floatToFloat, hd, hi]; rfl, Nat.mod_lt _ (by decide), by rw [h1]; exact .inl hi⟩
    | false => exact ⟨_, 0, by simp [Conv.floatToFloat, hd, hi]; exact ⟨rfl, rfl⟩, write_single_lt _, by rw [h1]; exact .inr rfl⟩
/-- float32 to float64 -/
theorem run_up (c : Nat) (hc : c < 2 ^ 32) (w : World) : ∃ y n, (Conv.floatToFloat .f32 c .f64).run Try.prog w = .ok (.float .f64 y) (w.drewN n) ∧ Wid c y := by
  cases hd : FloatKind.f32.decode c with
  | nan s t =>
    have h1 : Ieee.single.read c = .nan s t := hd
    obtain ⟨a, b⟩ := nan64 (w.tape w.drawn (.nanConv .f64 c))
    exact ⟨_, 1, by simp [Conv.floatToFloat, hd]; rfl, a, by rw [h1]; exact b⟩
  | infinity s =>
    have h1 : Ieee.single.read c = .infinity s := hd
    exact ⟨_, 0, by simp [Conv.floatToFloat, hd]; exact ⟨rfl, rfl⟩, write_double_lt _, by rw [h1]⟩
  | number s m e =>
    have h1 : Ieee.single.read c = .number s m e := hd
    have hi : (FloatKind.f64.decode (FloatKind.f64.encode (.number s m e))).isInfinity = false := by
      obtain ⟨_, r2, _⟩ := round_trip c hc (by rw [h1]; rfl)
      rw [h1] at r2
      exact r2
    exact ⟨_, 0, by simp [Conv.floatToFloat, hd, hi]; exact ⟨rfl, rfl⟩, write_double_lt _, by rw [h1]⟩
theorem run_down2 (a b : Nat) (w : World) : ∃ c d n, (convert 42 56 (.complex .f64 a b)).run Try.prog w = .ok (.complex .f32 c d) (w.drewN n) ∧ Nar a c ∧ Nar b d := by
  obtain ⟨c, n, h1, h2⟩ := run_down a w
  obtain ⟨d, k, h3, h4⟩ := run_down b (w.drewN n)
  obtain ⟨u, hs'⟩ := Option.isSome_iff_exists.1 und42
  refine ⟨c, d, n + k, ?_, h2, h4⟩
  cases u <;> simp [convert, run_underlying hs', run_underlying und56c, Conv.complexToComplex, h1, h3]
theorem run_up2 (a b : Nat) (ha : a < 2 ^ 32) (hb : b < 2 ^ 32) (w : World) : ∃ c d n, (convert 56 42 (.complex .f32 a b)).run Try.prog w = .ok (.complex .f64 c d) (w.drewN n) ∧ Wid a c ∧ Wid b d := by
  obtain ⟨c, n, h1, h2⟩ := run_up a ha w
  obtain ⟨d, k, h3, h4⟩ := run_up b hb (w.drewN n)
  obtain ⟨u, hs'⟩ := Option.isSome_iff_exists.1 und56
  refine ⟨c, d, n + k, ?_, h2, h4⟩
  cases u <;> simp [convert, run_underlying hs', run_underlying und42c, Conv.complexToComplex, h1, h3]
end Go.Proofs.Ytomildjihlbbmaa

/-
  Narrow, the program's and the reference's: both tell alike whether a complex number is held by the smaller format, and its words there.
-/
namespace Go.Proofs.Ytomildjihlbbmaa
open Go.RowKit Flt
set_option linter.unusedVariables false
attribute [local go_sem] run_f64bits run_f64from run_f32bits run_f32from

/-- a part's word, all NaNs one -/
def partW (x : Nat) : Int := if (FloatKind.f64.format.order x x != some .eq) = true then 18446744073709551615 else (x : Int)

theorem eq107 (a b c d : Int) (w : World) : (Op.equalIn 10000 107 (.agg #[.int .u64 a, .int .u64 b]) (.agg #[.int .u64 c, .int .u64 d])).run Try.prog w = .ok (a == c && b == d) w := by
  have u3 := Try.underlying50
  have a3 := Try.isAgg50
  have z3 := Try.sizeOf50
  rw [show (10000 : Nat) = 9999 + 1 from rfl, Op.equalIn]
  simp only [Sem.run_bind, run_underlying Try.underlying107, Result.andThen_ok]
  simp only [Std.Legacy.Range.forIn_eq_forIn_range', Std.Legacy.Range.size, Nat.sub_zero, Nat.add_sub_cancel, Nat.div_one, List.range'_succ, List.range'_zero, List.forIn_cons, List.forIn_nil]
  go_simp
  by_cases h1 : a = c <;> by_cases h2 : b = d <;> simp [h1, h2]
attribute [local go_sem] eq107

set_option maxHeartbeats 1000000 in
theorem parts_any (re im : Nat) (w : World) :
    Calls Try.prog 71 #[.complex .f64 re im] w fun e w' => e = .returned (.agg #[.int .u64 (partW re), .int .u64 (partW im)]) ∧ Below w.heap.size w w' := by
  have HB : Hid (∀ a b : Obj, Below w.heap.size w ((w.alloc a).alloc b)) := fun a b => ((Below.refl _ _).alloc (Nat.le_refl _) _).alloc (by simp) _
  unfold partW
  rcases bool_cases (FloatKind.f64.format.order re re != some .eq) with h1 | h1 <;> rcases bool_cases (FloatKind.f64.format.order im im != some .eq) with h2 | h2 <;> rw [h1, h2]
  · go_enter Try.func71, Try.ntmps71
    go_wp2
    exact bodyPost_ret (v := .agg #[.int .u64 18446744073709551615, .int .u64 18446744073709551615]) (by simp [results, Try.results71, go_sem]) rfl ⟨rfl, HB.out _ _⟩
  · go_enter Try.func71, Try.ntmps71
    go_wp2
    exact bodyPost_ret (v := .agg #[.int .u64 18446744073709551615, .int .u64 im]) (by simp [results, Try.results71, go_sem]) rfl ⟨rfl, HB.out _ _⟩
  · go_enter Try.func71, Try.ntmps71
    go_wp2
    exact bodyPost_ret (v := .agg #[.int .u64 re, .int .u64 18446744073709551615]) (by simp [results, Try.results71, go_sem]) rfl ⟨rfl, HB.out _ _⟩
  · go_enter Try.func71, Try.ntmps71
    go_wp2
    exact bodyPost_ret (v := .agg #[.int .u64 re, .int .u64 im]) (by simp [results, Try.results71, go_sem]) rfl ⟨rfl, HB.out _ _⟩

def sameW (a b c d : Nat) : Bool := partW a == partW c && partW b == partW d
set_option maxHeartbeats 1000000 in
theorem same_any (a b c d : Nat) (w : World) :
    Calls Try.prog 59 #[.complex .f64 a b, .complex .f64 c d] w fun e w' => e = .returned (.bool (sameW a b c d)) ∧ Below w.heap.size w w' := by
  go_enter Try.func59, Try.ntmps59
  go_wp2_with fail
  refine (parts_any _ _ _).mono ?_
  rintro e w1 ⟨rfl, hb1⟩
  have HB1 := Lib.hid hb1
  clear hb1
  go_wp2_with fail
  refine (parts_any _ _ _).mono ?_
  rintro e w2 ⟨rfl, hb2⟩
  have HB2 := Lib.hid (HB1.out.trans (hb2.mono HB1.out.size))
  clear hb2
  go_wp2
  go_ret
  exact ⟨rfl, HB2.out⟩

/-- Is a float itself? -/
theorem self_eq (x : Nat) : (FloatKind.f64.format.order x x == some .eq) = !(Ieee.double.read x).isNaN := by
  show ((Ieee.double.read x).order (Ieee.double.read x) == some .eq) = _
  cases hd : Ieee.double.read x with
  | nan s t => rfl
  | infinity s => cases s <;> rfl
  | number s m e => rw [order_num, cmp_eq]; simp [Ieee.Datum.isNaN]
theorem partW_num {x : Nat} (h : (Ieee.double.read x).isNaN = false) : partW x = x := by
  unfold partW
  have := self_eq x
  rw [h] at this
  rw [if_neg (by rw [bne, this]; decide)]
theorem partW_nan {x : Nat} (h : (Ieee.double.read x).isNaN = true) : partW x = 18446744073709551615 := by
  unfold partW
  have := self_eq x
  rw [h] at this
  rw [if_pos (by rw [bne, this]; decide)]
theorem max_nan : (Ieee.double.read 18446744073709551615).isNaN = true := by decide +kernel
theorem partW_eq {x y : Nat} (h : (Ieee.double.read x).isNaN = false) : (partW y == partW x) = (y == x) := by
  rw [partW_num h]
  cases hy : (Ieee.double.read y).isNaN with
  | false => rw [partW_num hy]; exact Bool.eq_iff_iff.2 (by rw [beq_iff_eq, beq_iff_eq]; omega)
  | true =>
    rw [partW_nan hy]
    have h1 : y ≠ x := fun e => by rw [e, h] at hy; cases hy
    have h2 : x ≠ 18446744073709551615 := fun e => by rw [e, max_nan] at h; cases h
    exact Bool.eq_iff_iff.2 (by simp; omega)

/-- are both parts held by the smaller format? -/
def narrowB (re im : Nat) : Bool := (narrowF re).isSome && (narrowF im).isSome
/-- the words that Narrow hands back, where it says yes -/
def NarrowOut (re im c d : Nat) (ok : Bool) : Prop := c < 2 ^ 32 ∧ d < 2 ^ 32 ∧ ok = narrowB re im ∧ (ok = true → narrowF re = some c ∧ narrowF im = some d)
theorem narrow_no {re im c d : Nat} (hc : Nar re c) (hd : Nar im d) (h : (Ieee.double.read re).isNaN = true ∨ (Ieee.double.read im).isNaN = true) : NarrowOut re im c d false := by
  refine ⟨hc.1, hd.1, ?_, fun h => by cases h⟩
  unfold narrowB
  rcases h with h | h
  · rw [narrow_nan h]; rfl
  · rw [narrow_nan h, Bool.and_comm]; rfl
theorem narrow_yes {re im c d y z : Nat} (hr : re < 2 ^ 64) (hi : im < 2 ^ 64) (n1 : (Ieee.double.read re).isNaN = false) (n2 : (Ieee.double.read im).isNaN = false) (hc : Nar re c) (hd : Nar im d) (hy : Wid c y) (hz : Wid d z) :
    NarrowOut re im c d (y == re && z == im) := by
  obtain ⟨k1, k2⟩ := narrow_key hr n1 hc hy
  obtain ⟨k3, k4⟩ := narrow_key hi n2 hd hz
  refine ⟨hc.1, hd.1, ?_, fun h => ?_⟩
  · unfold narrowB
    rw [Bool.eq_iff_iff, Bool.and_eq_true, Bool.and_eq_true, beq_iff_eq, beq_iff_eq, k1, k3]
  · rw [Bool.and_eq_true, beq_iff_eq, beq_iff_eq] at h
    exact ⟨k2 h.1, k4 h.2⟩
theorem nan_cases (re im : Nat) : ((FloatKind.f64.format.order re re == some .eq) && (FloatKind.f64.format.order im im == some .eq)) = true ∧ (Ieee.double.read re).isNaN = false ∧ (Ieee.double.read im).isNaN = false ∨
    ((FloatKind.f64.format.order re re == some .eq) && (FloatKind.f64.format.order im im == some .eq)) = false ∧ ((Ieee.double.read re).isNaN = true ∨ (Ieee.double.read im).isNaN = true) := by
  rw [self_eq, self_eq]
  cases (Ieee.double.read re).isNaN <;> cases (Ieee.double.read im).isNaN <;> simp

set_option maxHeartbeats 1000000 in
theorem Narrow_any (re im : Nat) (hr : re < 2 ^ 64) (hi : im < 2 ^ 64) (w : World) :
    Calls Try.prog 44 #[.complex .f64 re im] w fun e w' => ∃ c d ok, e = .returned (.tuple #[.complex .f32 c d, .bool ok]) ∧ NarrowOut re im c d ok ∧ Below w.heap.size w w' := by
  obtain ⟨c, d, n, h1, h2, h3⟩ := run_down2 re im w
  obtain ⟨y, z, k, h4, h5, h6⟩ := run_up2 c d h2.1 h3.1 (w.drewN n)
  rcases nan_cases re im with ⟨hn, n1, n2⟩ | ⟨hn, hnn⟩
  · have HY := Lib.hid (narrow_yes hr hi n1 n2 h2 h3 h5 h6)
    have HS : Hid (sameW y z re im = (y == re && z == im)) := by show sameW y z re im = _; unfold sameW; rw [partW_eq n1, partW_eq n2]
    clear hr hi n1 n2 h2 h3 h5 h6
    go_enter Try.func44, Try.ntmps44
    go_wp2_with fail
    refine (same_any _ _ _ _ _).mono ?_
    rintro e w1 ⟨rfl, hb1⟩
    rw [HS.out]
    have HB1 := Lib.hid ((below_drewN (Below.refl w.heap.size w) (n + k)).trans hb1)
    clear hb1
    go_wp2
    go_ret2
    exact ⟨c, d, _, rfl, HY.out, HB1.out⟩
  · have HN := Lib.hid (narrow_no h2 h3 hnn)
    clear hr hi h2 h3 h5 h6 hnn h4
    go_enter Try.func44, Try.ntmps44
    go_wp2
    go_ret2
    exact ⟨c, d, _, rfl, HN.out, below_drewN (Below.refl w.heap.size w) n⟩
set_option maxHeartbeats 1000000 in
theorem RNarrow_any (re im : Nat) (hr : re < 2 ^ 64) (hi : im < 2 ^ 64) (w : World) :
    Calls Try.prog 51 #[.complex .f64 re im] w fun e w' => ∃ c d ok, e = .returned (.tuple #[.complex .f32 c d, .bool ok]) ∧ NarrowOut re im c d ok ∧ Below w.heap.size w w' := by
  obtain ⟨c, d, n, h1, h2, h3⟩ := run_down2 re im w
  obtain ⟨y, z, k, h4, h5, h6⟩ := run_up2 c d h2.1 h3.1 (w.drewN n)
  rcases nan_cases re im with ⟨hn, n1, n2⟩ | ⟨hn, hnn⟩
  · have HY := Lib.hid (narrow_yes hr hi n1 n2 h2 h3 h5 h6)
    have e1 : Hid ((((y : Nat) : Int) == ((re : Nat) : Int)) = (y == re)) := Bool.eq_iff_iff.2 (by rw [beq_iff_eq, beq_iff_eq]; omega)
    have e2 : Hid ((((z : Nat) : Int) == ((im : Nat) : Int)) = (z == im)) := Bool.eq_iff_iff.2 (by rw [beq_iff_eq, beq_iff_eq]; omega)
    clear hr hi n1 n2 h2 h3 h5 h6
    rcases bool_cases (y == re) with hy | hy
    · have e1' : (((y : Nat) : Int) == ((re : Nat) : Int)) = true := e1.out.trans hy
      rw [hy] at HY
      clear hy
      go_enter Try.func51, Try.ntmps51
      go_wp2
      go_ret2
      exact ⟨c, d, _, by rw [e2.out, Bool.true_and] <;> rfl, HY.out, below_drewN (Below.refl w.heap.size w) (n + k)⟩
    · have e1' : (((y : Nat) : Int) == ((re : Nat) : Int)) = false := e1.out.trans hy
      rw [hy] at HY
      clear hy
      go_enter Try.func51, Try.ntmps51
      go_wp2
      go_ret2
      exact ⟨c, d, _, rfl, HY.out, below_drewN (Below.refl w.heap.size w) (n + k)⟩
  · have HN := Lib.hid (narrow_no h2 h3 hnn)
    clear hr hi h2 h3 h5 h6 hnn
    go_enter Try.func51, Try.ntmps51
    go_wp2
    go_ret2
    exact ⟨c, d, _, rfl, HN.out, below_drewN (Below.refl w.heap.size w) (n + k)⟩
end Go.Proofs.Ytomildjihlbbmaa
