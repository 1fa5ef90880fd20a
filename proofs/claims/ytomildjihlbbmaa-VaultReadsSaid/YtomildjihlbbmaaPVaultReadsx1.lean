-- BEGAN AS A PRINT OF print.sh 35421559b90ae4d0a3588c463048766b98c2df88dd9212a6774a882060cdf62d: the theorems that this claim does not use have been taken out
import Derived.Test.YtomildjihlbbmaaPVaultReadsx0
namespace Go.Proofs.Ytomildjihlbbmaa.PVaultReads
open Go.RowKit Go.Proofs.YtomildjihlbbmaaW.PrintWords Go.Proofs.YtomildjihlbbmaaW.PrintLast Go.Proofs.YtomildjihlbbmaaW.PrintMore
attribute [local go_sem] max2_int min2_int max_two min_two max_three min_three max_four min_four   -- for this text's walks alone
set_option linter.unusedVariables false
set_option linter.unusedSimpArgs false

-- NOT PRINTED: function 29 (math_Float64bits)

-- NOT PRINTED: function 8 (penumbraref21_SameBits)

-- NOT PRINTED: function 18 (pack_reader_take)

-- NOT PRINTED: function 19 (math_Float64frombits)

/-! ### pack_get_uint64: function 20 -/
def pack_get_uint64.l0 : Nat → Int → List Int → Int → Int → Option (Int)
  | 0, _, _, _, _ => none
  | k + 1, x3, x6, x7, x8 => if x8 < x7 then (if 0 ≤ x8 then (if x8 < (x6.length : Int) then (pack_get_uint64.l0 k (Go.bits .or .u64 (IntKind.u64.wrap (x3 * 256)) (IntKind.u64.wrap (rd x6 x8))) x6 x7 (wrap64 (x8 + 1))) else (none)) else (none)) else (some x3)
def pack_get_uint64.f (k : Nat) (l0 : List Int) : Option (Int) := pack_get_uint64.l0 k 0 l0 (l0.length : Int) 0

-- NOT PRINTED: function 21 (math_Float32frombits)

/-! ### pack_get_uint32: function 22 -/
def pack_get_uint32.l0 : Nat → Int → List Int → Int → Int → Option (Int)
  | 0, _, _, _, _ => none
  | k + 1, x3, x6, x7, x8 => if x8 < x7 then (if 0 ≤ x8 then (if x8 < (x6.length : Int) then (pack_get_uint32.l0 k (Go.bits .or .u32 ((x3 * 256) % 4294967296) ((rd x6 x8) % 4294967296)) x6 x7 (wrap64 (x8 + 1))) else (none)) else (none)) else (some x3)
def pack_get_uint32.f (k : Nat) (l0 : List Int) : Option (Int) := pack_get_uint32.l0 k 0 l0 (l0.length : Int) 0

-- NOT PRINTED: function 23 (pack_reader_difference)

/-! ### bytes_Equal: function 24 -/
def bytes_Equal.f (l0 : List Int) (l1 : List Int) : Option (Bool) := some ((strOfNums l0).toList == (strOfNums l1).toList)

-- NOT PRINTED: function 71 (cx_parts)

-- NOT PRINTED: function 59 (cx_Same)

-- NOT PRINTED: function 44 (cx_Narrow)

/-! ### pack_put_uint64: function 45 -/
def pack_put_uint64.l0 : Nat → List Int → Int → Int → Option (List Int)
  | 0, _, _, _ => none
  | k + 1, x0, x1, x7 => if x7 ≥ 0 then (if 0 ≤ x7 then (if x0.length < 140737488355328 then (pack_put_uint64.l0 k (x0 ++ [(shr .u64 x1 x7) % 256]) x1 (wrap64 (x7 - 8))) else (none)) else (none)) else (some x0)
def pack_put_uint64.f (k : Nat) (l0 : List Int) (a1 : Int) (a2 : Int) : Option (List Int) := pack_put_uint64.l0 k l0 a1 (wrap64 (8 * (wrap64 (a2 - 1))))

/-! ### pack_put_uint32: function 46 -/
def pack_put_uint32.l0 : Nat → List Int → Int → Int → Option (List Int)
  | 0, _, _, _ => none
  | k + 1, x0, x1, x7 => if x7 ≥ 0 then (if 0 ≤ x7 then (if x0.length < 140737488355328 then (pack_put_uint32.l0 k (x0 ++ [(shr .u32 x1 x7) % 256]) x1 (wrap64 (x7 - 8))) else (none)) else (none)) else (some x0)
def pack_put_uint32.f (k : Nat) (l0 : List Int) (a1 : Int) (a2 : Int) : Option (List Int) := pack_put_uint32.l0 k l0 a1 (wrap64 (8 * (wrap64 (a2 - 1))))

-- NOT PRINTED: function 47 (math_Float32bits)

-- NOT PRINTED: function 48 (cx_Whole)

/-! ### pack_groups: function 49 -/
def pack_groups.l0 : Nat → List Int → Int → Option (List Int)
  | 0, _, _ => none
  | k + 1, x0, x5 => if x5 > 127 then (if x0.length < 140737488355328 then (pack_groups.l0 k (x0 ++ [Go.bits .or .u8 ((x5) % 256) 128]) (x5 / 128)) else (none)) else (if x0.length < 140737488355328 then (some (x0 ++ [(x5) % 256])) else (none))
def pack_groups.f (k : Nat) (l0 : List Int) (a1 : Int) : Option (List Int) := pack_groups.l0 k l0 (Go.bits .xor .u64 (IntKind.u64.wrap ((IntKind.u64.wrap (a1)) * 2)) (IntKind.u64.wrap (a1 / 9223372036854775808)))

-- NOT PRINTED: function 37 (pack_written)

-- NOT PRINTED: function 25 (pack_shortest)

-- NOT PRINTED: function 6 (pack_Unpack)

-- NOT PRINTED: function 36 (pack_right)

-- NOT PRINTED: function 17 (pack_Pack)

/-! ### vault_Sum: function 31 -/
def vault_Sum.l0 : Nat → Int → List Int → Int → Int → Option (Int)
  | 0, _, _, _, _ => none
  | k + 1, x3, x6, x7, x8 => if x8 < x7 then (if 0 ≤ x8 then (if x8 < (x6.length : Int) then (vault_Sum.l0 k ((((x3 * 31) % 4294967296) + ((rd x6 x8) % 4294967296)) % 4294967296) x6 x7 (wrap64 (x8 + 1))) else (none)) else (none)) else (some x3)
def vault_Sum.f (k : Nat) (l0 : List Int) : Option (Int) := vault_Sum.l0 k 1 l0 (l0.length : Int) 0
set_option maxHeartbeats 8000000 in
set_option maxRecDepth 100000 in
theorem vault_Sum.calls (k : Nat) (A0 : Option Addr) (c0 : Nat) (l0 : List Int) (r : Int) (w : World) (hr0 : Kd.C (Kd.int .u8) w A0 l0.length l0) (hc0 : l0.length ≤ c0) (h : vault_Sum.f k l0 = some r) :
    Calls Try.prog 31 #[.slice A0 l0.length c0] w fun e w' => e = .returned (.int .u32 r) ∧ Drawn0 w w' := by
  have HR0 := Aside0.mk hr0
  have HC0 := Aside0.mk hc0
  clear hr0 hc0
  have H : (vault_Sum.l0 k 1 l0 (l0.length : Int) 0) = some r := h
  clear h
  have H' := Aside0.mk H
  clear H
  go_enter Try.func31, Try.ntmps31
  go_wp2
  go_loopg [3, 8] k (fun kq v3 v8 w' => ∃ (x3_1 : Int) (x8_1 : Int), v3 = .int .u32 x3_1 ∧ v8 = .int .i64 x8_1 ∧ Aside0 (vault_Sum.l0 kq x3_1 l0 (l0.length : Int) x8_1 = some r) ∧ Aside0 (kq ≤ k) ∧ Drawn0 w w')
  case atStart => exact ⟨(1), (0), (by first | rfl | (simp; done) | (simp [*]; done)), (by first | rfl | (simp; done) | (simp [*]; done)), H', ⟨Nat.le_refl _⟩, by repeat (first | exact Drawn0.refl _ | apply Drawn0.step)⟩
  case round =>
    clear H'
    obtain ⟨x3_1, x8_1, rfl, rfl, HA, HK1, ⟨m1, rfl⟩⟩ := hrel
    cases gk with
    | zero => exact absurd HA.out (by simp [vault_Sum.l0])
    | succ k1 =>
      have H := HA.out
      clear HA
      simp only [vault_Sum.l0] at H
      by_cases c2 : x8_1 < (l0.length : Int)
      · rw [if_pos c2] at H
        have c2b0 : decide (x8_1 < (l0.length : Int)) = true := decide_eq_true c2
        clear c2
        by_cases c3 : 0 ≤ x8_1
        · rw [if_pos c3] at H
          have c3b0 : decide (0 ≤ x8_1) = true := decide_eq_true c3
          clear c3
          by_cases c4 : x8_1 < (l0.length : Int)
          · rw [if_pos c4] at H
            have c4b0 : decide (x8_1 < (l0.length : Int)) = true := decide_eq_true c4
            clear c4
            have H' := Aside0.mk H
            clear H
            have p115 : 0 ≤ (x8_1 : Int) := of_decide_eq_true (by first | (with_reducible assumption) | assumption)
            have q115 : x8_1 < (l0.length : Int) := of_decide_eq_true (by first | (with_reducible assumption) | assumption)
            obtain ⟨ad115, e115, hx115_0⟩ := Kd.at_int HR0.out x8_1 p115 q115
            cases e115
            replace p115 := eq_true p115
            replace q115 := eq_true q115
            go_wp2
            go_roundg k1
            case measure => have := HK1.out; omega
            case rel => exact ⟨((((x3_1 * 31) % 4294967296) + ((rd l0 x8_1) % 4294967296)) % 4294967296), (wrap64 (x8_1 + 1)), (by first | rfl | (simp; done) | (simp [*]; done)), (by first | rfl | (simp; done) | (simp [*]; done)), H', ⟨by have := HK1.out; omega⟩, by repeat (first | exact Drawn0.refl _ | apply Drawn0.step)⟩
          · rw [if_neg c4] at H
            exact absurd H (by simp)
        · rw [if_neg c3] at H
          exact absurd H (by simp)
      · rw [if_neg c2] at H
        have c2b0 : decide (x8_1 < (l0.length : Int)) = false := decide_eq_false c2
        clear c2
        obtain rfl := Option.some.inj H
        go_wp2
        go_ret
        exact ⟨by first | rfl | (simp; done) | (simp [*]; done), by repeat (first | exact Drawn0.refl _ | apply Drawn0.step)⟩

-- NOT PRINTED: function 66 (pack_unlike)

-- NOT PRINTED: function 55 (pack_Change)

-- NOT PRINTED: function 40 (vault_keeper_record)

-- NOT PRINTED: function 42 (vault_keeper_read)

-- NOT PRINTED: function 32 (vault_walk)

-- NOT PRINTED: function 14 (vault_Cut)

-- NOT PRINTED: function 10 (vault_Slices)

-- NOT PRINTED: function 39 (pack_Way)

-- NOT PRINTED: function 30 (vault_Add)

-- NOT PRINTED: function 9 (penumbralaw22_alive)

/-! ### penumbraref21_number: function 26 -/
def penumbraref21_number.l0 : Nat → List Int → Int → Int → Int → Int → Option (Int)
  | 0, _, _, _, _, _ => none
  | k + 1, x0, x1, x2, x7, x8 => if x8 < (wrap64 (x1 + x2)) then (if x8 < (x0.length : Int) then (if 0 ≤ x8 then (penumbraref21_number.l0 k x0 x1 x2 (Go.bits .or .u64 (IntKind.u64.wrap (x7 * 256)) (IntKind.u64.wrap (rd x0 x8))) (wrap64 (x8 + 1))) else (none)) else (penumbraref21_number.l0 k x0 x1 x2 (IntKind.u64.wrap (x7 * 256)) (wrap64 (x8 + 1)))) else (some x7)
def penumbraref21_number.f (k : Nat) (l0 : List Int) (a1 : Int) (a2 : Int) : Option (Int) := penumbraref21_number.l0 k l0 a1 a2 0 a1

end Go.Proofs.Ytomildjihlbbmaa.PVaultReads
