import Derived.Test.YtkibmfchjaiodaaProg
import Derived.WalkKit
import Derived.WalkSpells
import Derived.WalkLawsBesides
import Derived.KernelRfl
import Derived.Laws.Externs
import Derived.Deep.QuietTactic
import Derived.BigQuiet
import Derived.Lib.Hide
import Derived.Deep.LoopGhost
import Derived.Deep.Draws
import Derived.Deep.DeepCutAuto
namespace Go.Proofs.Ytkibmfchjaiodaa
open Go.RowKit
set_option linter.unusedVariables false
theorem run_f64bits (x : Nat) (w : World) : (callFunc 25 #[.float .f64 x]).run Try.prog w = .ok (.value (.int .u64 x)) w := by
  rw [run_callFunc_extern (fn := Try.f25) (e := Extern.MathFloatBits.float64bits) Try.func25 (by kernel_rfl) (by kernel_rfl) (by kernel_rfl) (by kernel_rfl)]
  rfl
theorem run_f64from (x : Int) (w : World) : (callFunc 24 #[.int .u64 x]).run Try.prog w = .ok (.value (.float .f64 x.toNat)) w := by
  rw [run_callFunc_extern (fn := Try.f24) (e := Extern.MathFloatBits.float64frombits) Try.func24 (by kernel_rfl) (by kernel_rfl) (by kernel_rfl) (by kernel_rfl)]
  rfl
def fAbs (x : Nat) : Nat := (bits BinOp.andNot IntKind.u64 (↑x) 9223372036854775808).toNat
def fFloor (x : Nat) : Nat := FloatKind.f64.encode ((FloatKind.f64.decode x).integral .down)
def floorRun (x : Nat) : Sem Value := match FloatKind.f64.decode x with
    | .nan s t =>
      if FloatKind.f64.format.quiet t = t then pure (.float .f64 x) else do
      let kept ← choose (.extern "math.Floor,Ceil,Trunc,RoundToEven.signallingNaN kept" 2)
      pure (.float .f64 (if kept == 1 then x else FloatKind.f64.encode (.nan s (FloatKind.f64.format.quiet t))))
    | d => pure (.float .f64 (FloatKind.f64.encode (d.integral .down)))
theorem run_floor (x : Nat) (h : (FloatKind.f64.decode x).isNaN = false) (w : World) : (callFunc 26 #[.float .f64 x]).run Try.prog w = .ok (.value (.float .f64 (fFloor x))) w := by
  rw [run_callFunc_extern (fn := Try.f26) (e := Extern.MathFloor.toIntegral "math.archFloor" .down) Try.func26 (by kernel_rfl) (by kernel_rfl) (by kernel_rfl) (by kernel_rfl)]
  change ((floorRun x).run Try.prog w).andThen _ = _
  unfold floorRun fFloor
  cases hd : FloatKind.f64.decode x with
  | nan s t => rw [hd] at h; cases h
  | number s m e => rfl
  | infinity s => rfl
attribute [local go_sem] run_f64bits run_f64from

set_option maxHeartbeats 400000 in
theorem abs_any (x : Nat) (w : World) :
    Calls Try.prog 21 #[.float .f64 x] w fun e w' => e = .returned (.float .f64 (fAbs x)) ∧ w' = w := by
  go_enter Try.func21, Try.ntmps21
  go_wp2
  go_ret
  exact ⟨rfl, rfl⟩

set_option maxHeartbeats 400000 in
theorem signbit_any (x : Nat) (w : World) :
    Calls Try.prog 23 #[.float .f64 x] w fun e w' => e = .returned (.bool (decide (wrap64 ↑x < 0))) ∧ w' = w := by
  go_enter Try.func23, Try.ntmps23
  go_wp2
  go_ret
  exact ⟨rfl, rfl⟩

set_option maxHeartbeats 400000 in
theorem floor_any (x : Nat) (w : World) (h : (FloatKind.f64.decode x).isNaN = false) :
    Calls Try.prog 22 #[.float .f64 x] w fun e w' => e = .returned (.float .f64 (fFloor x)) ∧ w' = w := by
  have hr := run_floor x h
  clear h
  go_enter Try.func22, Try.ntmps22
  go_wp2
  go_ret
  exact ⟨rfl, rfl⟩

theorem ret_b {a b : Bool} (h : a = b) : Ending.returned (.bool a) = Ending.returned (.bool b) := by rw [h]
theorem und50 : (Try.prog.underlying 50).isSome = true := by kernel_rfl
theorem und3 : Try.prog.underlying 3 = some (.int .i64) := by kernel_rfl
set_option maxHeartbeats 400000 in
theorem whole1_pos (x : Nat) (most n : Int) (w : World) (b : Nat) (hc : w.cell? ⟨b, 0, none⟩ = some (.int .i64 most))
   (h0 : (FloatKind.f64.decode x).isNaN = false)
   (h1 : (FloatKind.f64.format.order (fAbs x) 4890909195324358656 == some .lt) = true)
   (h2 : (FloatKind.f64.format.order x (fFloor x) == some .eq) = true)
   (h3 : floatToIntVal .f64 (fAbs x) .i64 = some n) (h4 : decide (n ≤ most) = true)
   (h5 : (FloatKind.f64.format.order x 0 == some .eq) = false) :
    Calls Try.prog 20 #[.float .f64 x, .pointer (some ⟨b, 0, none⟩)] w fun e w' => e = .returned (.bool true) ∧ ∃ n, w' = w.drewN n := by
  have hcv : ∀ w, (convert 50 3 (.float .f64 (fAbs x))).run Try.prog w = .ok (.int .i64 n) w := fun w => run_convert_float_int w 50 3 .f64 .i64 _ n und50 und3 h3
  have hn4 : n ≤ most := of_decide_eq_true h4
  have H0 := Lib.hid h0
  have H3 := Lib.hid h3
  clear h0 h3
  go_enter Try.func20, Try.ntmps20
  go_wp2
  go_quiet (first
        | (go_at_call 21; refine Calls.quiet_of_same (abs_any _ _))
        | (go_at_call 22; refine Calls.quiet_of_same (floor_any _ _ H0.out)))
  go_wp2
  go_ret
  exact ⟨rfl, _, rfl⟩

set_option maxHeartbeats 400000 in
theorem whole1_zero (most : Int) (w : World) (b : Nat) (hc : w.cell? ⟨b, 0, none⟩ = some (.int .i64 most)) (h4 : decide (0 ≤ most) = true) :
    Calls Try.prog 20 #[.float .f64 0, .pointer (some ⟨b, 0, none⟩)] w fun e w' => e = .returned (.bool true) ∧ ∃ n, w' = w.drewN n := by
  have h0 : (FloatKind.f64.decode 0).isNaN = false := by kernel_rfl
  have h1 : (FloatKind.f64.format.order (fAbs 0) 4890909195324358656 == some .lt) = true := by kernel_rfl
  have h2 : (FloatKind.f64.format.order 0 (fFloor 0) == some .eq) = true := by kernel_rfl
  have h3 : floatToIntVal .f64 (fAbs 0) .i64 = some 0 := by kernel_rfl
  have h5 : (FloatKind.f64.format.order 0 0 == some .eq) = true := by kernel_rfl
  have hcv : ∀ w, (convert 50 3 (.float .f64 (fAbs 0))).run Try.prog w = .ok (.int .i64 0) w := fun w => run_convert_float_int w 50 3 .f64 .i64 _ 0 und50 und3 h3
  have hn4 : 0 ≤ most := of_decide_eq_true h4
  have H0 := Lib.hid h0
  have H3 := Lib.hid h3
  clear h0 h3
  go_enter Try.func20, Try.ntmps20
  go_wp2
  go_quiet (first
        | (go_at_call 21; refine Calls.quiet_of_same (abs_any _ _))
        | (go_at_call 22; refine Calls.quiet_of_same (floor_any _ _ H0.out))
        | (go_at_call 23; refine Calls.quiet_of_same (signbit_any _ _)))
  go_wp2
  go_ret
  exact ⟨ret_b (by kernel_rfl), _, rfl⟩

-- the numbers 0 to 10 as floats
def nf : Nat → Nat := fun n => FloatKind.f64.nearest n
def isN (x : Nat) : Prop := ∃ n : Nat, 1 ≤ n ∧ n ≤ 10 ∧ x = nf n

theorem whole1_n (x : Nat) (hx : x = 0 ∨ x = 4607182418800017408 ∨ x = 4611686018427387904 ∨ x = 4613937818241073152 ∨ x = 4616189618054758400) (w : World) (b : Nat) (hc : w.cell? ⟨b, 0, none⟩ = some (.int .i64 1048576)) :
    Calls Try.prog 20 #[.float .f64 x, .pointer (some ⟨b, 0, none⟩)] w fun e w' => e = .returned (.bool true) ∧ ∃ n, w' = w.drewN n := by
  rcases hx with rfl | rfl | rfl | rfl | rfl
  · exact whole1_zero _ w b hc (by decide)
  · exact whole1_pos _ _ 1 w b hc (by kernel_rfl) (by kernel_rfl) (by kernel_rfl) (by kernel_rfl) (by decide) (by kernel_rfl)
  · exact whole1_pos _ _ 2 w b hc (by kernel_rfl) (by kernel_rfl) (by kernel_rfl) (by kernel_rfl) (by decide) (by kernel_rfl)
  · exact whole1_pos _ _ 3 w b hc (by kernel_rfl) (by kernel_rfl) (by kernel_rfl) (by kernel_rfl) (by decide) (by kernel_rfl)
  · exact whole1_pos _ _ 4 w b hc (by kernel_rfl) (by kernel_rfl) (by kernel_rfl) (by kernel_rfl) (by decide) (by kernel_rfl)

def small (x : Nat) : Prop := x = 0 ∨ x = 4607182418800017408 ∨ x = 4611686018427387904 ∨ x = 4613937818241073152 ∨ x = 4616189618054758400

set_option maxHeartbeats 400000 in
theorem whole_n (x y : Nat) (hx : small x) (hy : small y) (w : World) :
    Calls Try.prog 19 #[.complex .f64 x y, .int .i64 1048576] w fun e w' => e = .returned (.bool true) ∧ ∃ n, w' = (w.alloc (.cells #[.int .i64 1048576] 3)).drewN n := by
  have HX := Lib.hid hx
  have HY := Lib.hid hy
  clear hx hy
  go_enter Try.func19, Try.ntmps19
  go_wp2_with fail
  refine (whole1_n _ HX.out _ _ (by go_simp)).mono ?_
  rintro e w' ⟨rfl, n1, rfl⟩
  go_wp2_with fail
  refine (whole1_n _ HY.out _ _ (by go_simp)).mono ?_
  rintro e w' ⟨rfl, n2, rfl⟩
  go_wp2
  go_ret
  exact ⟨rfl, n1 + n2, rfl⟩

theorem add_n (a b c d re im : Nat) (h : cSumBits .add .f64 a b c d = some (re, im)) (w : World) :
    Calls Try.prog 15 #[.complex .f64 a b, .complex .f64 c d] w fun e w' => e = .returned (.complex .f64 re im) ∧ w' = w := by
  have hr : ∀ w, (binOp .add 36 (.complex .f64 a b) (.complex .f64 c d)).run Try.prog w = .ok (.complex .f64 re im) w := fun w => run_complex_sum w .add (.inl rfl) 36 .f64 a b c d re im h
  clear h
  go_enter Try.func15, Try.ntmps15
  go_wp2
  go_ret
  exact ⟨rfl, rfl⟩

def pl (x : Nat) : Nat := if (FloatKind.f64.format.order x 0 == some .eq) then 0 else x
theorem plain1_any (x : Nat) (w : World) :
    Calls Try.prog 18 #[.float .f64 x] w fun e w' => e = .returned (.float .f64 (pl x)) ∧ w' = w := by
  unfold pl
  by_cases h : (FloatKind.f64.format.order x 0 == some .eq) = true
  · rw [if_pos h]
    go_enter Try.func18, Try.ntmps18
    go_wp2
    go_ret
    exact ⟨rfl, rfl⟩
  · rw [if_neg h]
    have h : (FloatKind.f64.format.order x 0 == some .eq) = false := by simpa using h
    go_enter Try.func18, Try.ntmps18
    go_wp2
    go_ret
    exact ⟨rfl, rfl⟩

set_option maxHeartbeats 400000 in
theorem each_any (x y : Nat) (w : World) :
    Calls Try.prog 17 #[.complex .f64 x y, .func (Fn.func 18) #[] #[]] w fun e w' => e = .returned (.complex .f64 (pl x) (pl y)) ∧ w' = w := by
  go_enter Try.func17, Try.ntmps17
  go_wp2_with fail
  refine (plain1_any _ _).mono ?_
  rintro e w' ⟨rfl, rfl⟩
  go_wp2_with fail
  refine (plain1_any _ _).mono ?_
  rintro e w' ⟨rfl, rfl⟩
  go_wp2
  go_ret
  exact ⟨rfl, rfl⟩
set_option maxHeartbeats 400000 in
theorem plain_any (x y : Nat) (w : World) :
    Calls Try.prog 14 #[.complex .f64 x y] w fun e w' => e = .returned (.complex .f64 (pl x) (pl y)) ∧ w' = w := by
  go_enter Try.func14, Try.ntmps14
  go_wp2_with fail
  refine (each_any _ _ _).mono ?_
  rintro e w' ⟨rfl, rfl⟩
  go_wp2
  go_ret
  exact ⟨rfl, rfl⟩
theorem below_drewN {B : Nat} {a w : World} (h : Below B a w) (n : Nat) : Below B a (w.drewN n) := ⟨h.os, h.tape, h.output, h.size, h.block⟩
set_option maxHeartbeats 400000 in
theorem value_n (x y : Nat) (hx : small x) (hy : small y) (w : World) :
    Calls Try.prog 16 #[.complex .f64 x y] w fun e w' => e = .returned (.bool true) ∧ Below w.heap.size w w' := by
  have HX := Lib.hid hx
  have HY := Lib.hid hy
  clear hx hy
  go_enter Try.func16, Try.ntmps16
  go_wp2_with fail
  refine (whole_n _ _ HX.out HY.out _).mono ?_
  rintro e w' ⟨rfl, n1, rfl⟩
  go_wp2
  go_ret
  exact ⟨rfl, below_drewN ((Below.refl _ _).alloc (Nat.le_refl _) _) _⟩

set_option maxHeartbeats 1000000 in
theorem check_n (v : Nat → Nat) (g : Nat) (w : World) (hv : ∀ k, k < 4 → small (v k)) (hc : ∀ k, k < 4 → w.cell? ⟨g, k, none⟩ = some (.complex .f64 (v k) 0)) (hg : g < w.heap.size) :
    Calls Try.prog 12 #[.agg #[.int .i64 2, .slice (some ⟨g,0,none⟩) 4 4]] w fun e w' => e = .returned (.int .i64 0) ∧ Below w.heap.size w w' := by
  have HV := Lib.hid hv
  have HC := Lib.hid hc
  clear hv hc
  go_enter Try.func12, Try.ntmps12
  go_wp2
  go_loopg [27] 4 (fun k i wr => ∃ j : Nat, j + k = 4 ∧ i = .int .i64 j ∧ Below w.heap.size w wr)
  case atStart => exact ⟨0, rfl, rfl, (Below.refl _ _).alloc (Nat.le_refl _) _⟩
  case round =>
    obtain ⟨j, hj, rfl, hb⟩ := hrel
    by_cases hlt : j < 4
    · have hcell : wr.cell? ⟨g, j, none⟩ = some (.complex .f64 (v j) 0) := by rw [hb.cell (p := ⟨g, j, none⟩) hg]; exact HC.out j hlt
      have HB := Lib.hid hb
      clear hb
      go_wp2_with fail
      refine (value_n _ _ (HV.out j hlt) (.inl rfl) _).mono ?_
      rintro e w' ⟨rfl, hb2⟩
      have HB2 := Lib.hid hb2
      clear hb2
      go_wp2
      go_roundg (gk - 1)
      case measure => omega
      case rel => exact ⟨j + 1, by omega, by go_num, HB.out.trans (HB2.out.mono HB.out.size)⟩
    · have HB := Lib.hid hb
      clear hb
      go_wp2
      go_ret
      exact ⟨rfl, HB.out⟩
end Go.Proofs.Ytkibmfchjaiodaa
