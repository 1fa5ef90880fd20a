
import Derived.Test.YtomildjihlbbmaaCx
import Derived.Deep.RegionHeld3
-- Seat u: the printed summaries of the number writers and readers, in plain form.
import Derived.Test.YtomildjihlbbmaaPPackUnpacksx2
import Derived.Test.YtomildjihlbbmaaPPackUnpacksx1
import Derived.Laws.BitsAllLaws
namespace Go.Proofs.Ytomildjihlbbmaa.Num
open Go.RowKit Go.Proofs.YtomildjihlbbmaaW.PrintWords Go.Proofs.YtomildjihlbbmaaW.PrintLast Go.Proofs.YtomildjihlbbmaaW.PrintMore Go.Proofs.Ytomildjihlbbmaa.PPackUnpacks

def be : Nat → Nat → List Int
  | 0, _ => []
  | n + 1, v => ((v / 256 ^ n % 256 : Nat) : Int) :: be n v
def fromB (a : Nat) : List Int → Nat
  | [] => a
  | c :: cs => fromB (a * 256 + c.toNat) cs
def vari : Nat → Nat → List Int
  | 0, v => [((v % 256 : Nat) : Int)]
  | k + 1, v => if 128 ≤ v then ((v % 128 + 128 : Nat) : Int) :: vari k (v / 128) else [(v : Int)]
def zig (d : Int) : Nat := if 0 ≤ d then (2 * d).toNat else (-2 * d - 1).toNat
def unzig (v : Nat) : Int := if v % 2 = 1 then -((v / 2 : Nat) : Int) - 1 else ((v / 2 : Nat) : Int)
def Bytes (l : List Int) : Prop := ∀ c ∈ l, 0 ≤ c ∧ c < 256

theorem getD_lt {l : List Int} {i : Nat} (h : i < l.length) : l.getD i 0 = l[i] := by simp [List.getD, h]
theorem getD_ge {l : List Int} {i : Nat} (h : l.length ≤ i) : l.getD i 0 = 0 := by simp [List.getD, h]
theorem be_length (n v : Nat) : (be n v).length = n := by induction n with
  | zero => rfl
  | succ n ih => simp [be, ih]
theorem be_bytes (n v : Nat) : Bytes (be n v) := by
  induction n with
  | zero => intro c h; cases h
  | succ n ih =>
    intro c h
    rcases List.mem_cons.1 h with rfl | h
    · omega
    · exact ih c h
theorem wrap64_id {n : Int} (h1 : -9223372036854775808 ≤ n) (h2 : n < 9223372036854775808) : wrap64 n = n := by unfold wrap64; omega

theorem pow8 (n : Nat) : (2 : Int) ^ (8 * n) = ((256 ^ n : Nat) : Int) := by
  rw [show (256 : Nat) = 2 ^ 8 from rfl, ← Nat.pow_mul]; push_cast; rfl
theorem shr64_byte (v n : Nat) (hn : n < 8) : shr .u64 (v : Int) (8 * (n : Int)) % 256 = ((v / 256 ^ n % 256 : Nat) : Int) := by
  unfold shr
  rw [show min (8 * (n : Int)).toNat IntKind.u64.bits = 8 * n from by (show min (8 * (n : Int)).toNat 64 = 8 * n); omega, pow8]; exact (by omega : (v : Int) / ((256 ^ n : Nat) : Int) % 256 = ((v / 256 ^ n % 256 : Nat) : Int))
theorem shr32_byte (v n : Nat) (hn : n < 4) : shr .u32 (v : Int) (8 * (n : Int)) % 256 = ((v / 256 ^ n % 256 : Nat) : Int) := by
  unfold shr
  rw [show min (8 * (n : Int)).toNat IntKind.u32.bits = 8 * n from by (show min (8 * (n : Int)).toNat 32 = 8 * n); omega, pow8]; exact (by omega : (v : Int) / ((256 ^ n : Nat) : Int) % 256 = ((v / 256 ^ n % 256 : Nat) : Int))

theorem put64_l (v : Nat) : ∀ (n : Nat) (x0 : List Int), n ≤ 8 → x0.length + n < 140737488355328 → pack_put_uint64.l0 (n + 1) x0 v (8 * (n : Int) - 8) = some (x0 ++ be n v)
  | 0, x0, _, _ => by rw [pack_put_uint64.l0, if_neg (by omega)]; simp [be]
  | n + 1, x0, hn, hl => by
    rw [pack_put_uint64.l0, if_pos (by omega), if_pos (by omega), if_pos (by omega), show (8 * ((n + 1 : Nat) : Int) - 8) = 8 * (n : Int) from by omega, shr64_byte v n (by omega), wrap64_id (by omega) (by omega)]
    rw [put64_l v n _ (by omega) (by simp; omega), be, List.append_assoc]; rfl
theorem put64_f (v : Nat) (n : Nat) (x0 : List Int) (hn : n ≤ 8) (hl : x0.length + n < 140737488355328) : pack_put_uint64.f (n + 1) x0 v n = some (x0 ++ be n v) := by
  unfold pack_put_uint64.f
  rw [wrap64_id (n := (n : Int) - 1) (by omega) (by omega), wrap64_id (by omega) (by omega), show 8 * ((n : Int) - 1) = 8 * (n : Int) - 8 from by omega]
  exact put64_l v n x0 hn hl
theorem put32_l (v : Nat) : ∀ (n : Nat) (x0 : List Int), n ≤ 4 → x0.length + n < 140737488355328 → pack_put_uint32.l0 (n + 1) x0 v (8 * (n : Int) - 8) = some (x0 ++ be n v)
  | 0, x0, _, _ => by rw [pack_put_uint32.l0, if_neg (by omega)]; simp [be]
  | n + 1, x0, hn, hl => by
    rw [pack_put_uint32.l0, if_pos (by omega), if_pos (by omega), if_pos (by omega), show (8 * ((n + 1 : Nat) : Int) - 8) = 8 * (n : Int) from by omega, shr32_byte v n (by omega), wrap64_id (by omega) (by omega)]
    rw [put32_l v n _ (by omega) (by simp; omega), be, List.append_assoc]; rfl
theorem put32_f (v : Nat) (n : Nat) (x0 : List Int) (hn : n ≤ 4) (hl : x0.length + n < 140737488355328) : pack_put_uint32.f (n + 1) x0 v n = some (x0 ++ be n v) := by
  unfold pack_put_uint32.f
  rw [wrap64_id (n := (n : Int) - 1) (by omega) (by omega), wrap64_id (by omega) (by omega), show 8 * ((n : Int) - 1) = 8 * (n : Int) - 8 from by omega]
  exact put32_l v n x0 hn hl
theorem high_l (v : Nat) : ∀ (n : Nat) (x0 : List Int), n ≤ 8 → x0.length + n < 140737488355328 → penumbraref21_high.l0 (n + 1) x0 v ((n : Int) - 1) = some (x0 ++ be n v)
  | 0, x0, _, _ => by rw [penumbraref21_high.l0, if_neg (by omega)]; simp [be]
  | n + 1, x0, hn, hl => by
    rw [penumbraref21_high.l0, if_pos (by omega), wrap64_id (n := 8 * _) (by omega) (by omega), if_pos (by omega), if_pos (by omega), show (((n + 1 : Nat) : Int) - 1) = (n : Int) from by omega, shr64_byte v n (by omega), wrap64_id (by omega) (by omega)]
    rw [high_l v n _ (by omega) (by simp; omega), be, List.append_assoc]; rfl
theorem high_f (v : Nat) (n : Nat) (x0 : List Int) (hn : n ≤ 8) (hl : x0.length + n < 140737488355328) : penumbraref21_high.f (n + 1) x0 v n = some (x0 ++ be n v) := by
  unfold penumbraref21_high.f
  rw [wrap64_id (by omega) (by omega)]
  exact high_l v n x0 hn hl

/-! ### reading them back -/
theorem fromB_bound : ∀ (l : List Int) (a i : Nat), Bytes l → a < 256 ^ i → fromB a l < 256 ^ (i + l.length)
  | [], a, i, _, h => h
  | c :: cs, a, i, hb, h => by
    rw [fromB, List.length_cons, show i + (cs.length + 1) = (i + 1) + cs.length from by omega]
    refine fromB_bound cs _ _ (fun x hx => hb x (List.mem_cons_of_mem _ hx)) ?_
    have := hb c (List.mem_cons_self ..)
    rw [Nat.pow_succ]; omega
theorem fromB_be : ∀ (n v a : Nat), fromB a (be n v) = a * 256 ^ n + v % 256 ^ n
  | 0, v, a => by simp [be, fromB, Nat.mod_one]
  | n + 1, v, a => by
    rw [be, fromB, fromB_be n v, Int.toNat_natCast]
    have h : v % 256 ^ (n + 1) = v % 256 ^ n + 256 ^ n * (v / 256 ^ n % 256) := by rw [Nat.pow_succ, Nat.mod_mul]
    rw [h, Nat.pow_succ, Nat.add_mul, Nat.mul_assoc, Nat.mul_comm 256, Nat.add_assoc, Nat.add_comm (v % _), Nat.mul_comm (v / 256 ^ n % 256)]
theorem fromB_be0 (n v : Nat) (h : v < 256 ^ n) : fromB 0 (be n v) = v := by rw [fromB_be, Nat.mod_eq_of_lt h]; omega

theorem or64 (a : Nat) (c : Int) (ha : a < 256 ^ 7) (h0 : 0 ≤ c) (h1 : c < 256) : bits .or .u64 (IntKind.u64.wrap ((a : Int) * 256)) (IntKind.u64.wrap c) = ((a * 256 + c.toNat : Nat) : Int) := by
  rw [show IntKind.u64.wrap ((a : Int) * 256) = ((a * 256 : Nat) : Int) from by simp [IntKind.wrap, IntKind.bits, IntKind.signed]; omega,
    show IntKind.u64.wrap c = ((c.toNat : Nat) : Int) from by simp [IntKind.wrap, IntKind.bits, IntKind.signed]; omega,
    u64_or_nat _ _ (by omega) (by omega), nat_join 8 _ _ (by omega) (by omega)]
theorem or32 (a : Nat) (c : Int) (ha : a < 256 ^ 3) (h0 : 0 ≤ c) (h1 : c < 256) : bits .or .u32 (((a : Int) * 256) % 4294967296) (c % 4294967296) = ((a * 256 + c.toNat : Nat) : Int) := by
  rw [show ((a : Int) * 256) % 4294967296 = ((a * 256 : Nat) : Int) from by omega,
    show c % 4294967296 = ((c.toNat : Nat) : Int) from by omega,
    u32_or_nat _ _ (by omega) (by omega), nat_join 8 _ _ (by omega) (by omega)]
theorem rd_drop {l : List Int} {i : Nat} (h : i < l.length) : l.drop i = rd l (i : Int) :: l.drop (i + 1) := by
  rw [List.drop_eq_getElem_cons h]; unfold rd; rw [Int.toNat_natCast, getD_lt h]
theorem rd_bytes {l : List Int} {i : Nat} (hb : Bytes l) (h : i < l.length) : 0 ≤ rd l (i : Int) ∧ rd l (i : Int) < 256 := by
  unfold rd; rw [Int.toNat_natCast, getD_lt h]; exact hb _ (List.getElem_mem h)
theorem pow_le7 {a i : Nat} (h : a < 256 ^ i) (hi : i < 8) : a < 256 ^ 7 := Nat.lt_of_lt_of_le h (Nat.pow_le_pow_right (by omega) (by omega))
theorem pow_le3 {a i : Nat} (h : a < 256 ^ i) (hi : i < 4) : a < 256 ^ 3 := Nat.lt_of_lt_of_le h (Nat.pow_le_pow_right (by omega) (by omega))
theorem step_lt {a i : Nat} {c : Int} (h : a < 256 ^ i) (h1 : c < 256) : a * 256 + c.toNat < 256 ^ (i + 1) := by rw [Nat.pow_succ]; omega

theorem get64_l (l : List Int) (hb : Bytes l) (hl : l.length ≤ 8) : ∀ (k i a : Nat), i + k = l.length → a < 256 ^ i → pack_get_uint64.l0 (k + 1) a l (l.length : Int) i = some (fromB a (l.drop i) : Nat)
  | 0, i, a, hk, ha => by rw [pack_get_uint64.l0, if_neg (by omega), List.drop_of_length_le (by omega)]; rfl
  | k + 1, i, a, hk, ha => by
    have hc := rd_bytes hb (show i < l.length by omega)
    rw [pack_get_uint64.l0, if_pos (by omega), if_pos (by omega), if_pos (by omega), or64 a _ (pow_le7 ha (by omega)) hc.1 hc.2, wrap64_id (by omega) (by omega), show (i : Int) + 1 = ((i + 1 : Nat) : Int) from rfl,
      get64_l l hb hl k (i + 1) _ (by omega) (step_lt ha hc.2), rd_drop (show i < l.length by omega), fromB]
theorem get64_f (l : List Int) (hb : Bytes l) (hl : l.length ≤ 8) : pack_get_uint64.f (l.length + 1) l = some (fromB 0 l : Nat) := by
  have := get64_l l hb hl l.length 0 0 (by omega) (by omega)
  rwa [List.drop_zero] at this
theorem get32_l (l : List Int) (hb : Bytes l) (hl : l.length ≤ 4) : ∀ (k i a : Nat), i + k = l.length → a < 256 ^ i → pack_get_uint32.l0 (k + 1) a l (l.length : Int) i = some (fromB a (l.drop i) : Nat)
  | 0, i, a, hk, ha => by rw [pack_get_uint32.l0, if_neg (by omega), List.drop_of_length_le (by omega)]; rfl
  | k + 1, i, a, hk, ha => by
    have hc := rd_bytes hb (show i < l.length by omega)
    rw [pack_get_uint32.l0, if_pos (by omega), if_pos (by omega), if_pos (by omega), or32 a _ (pow_le3 ha (by omega)) hc.1 hc.2, wrap64_id (by omega) (by omega), show (i : Int) + 1 = ((i + 1 : Nat) : Int) from rfl,
      get32_l l hb hl k (i + 1) _ (by omega) (step_lt ha hc.2), rd_drop (show i < l.length by omega), fromB]
theorem get32_f (l : List Int) (hb : Bytes l) (hl : l.length ≤ 4) : pack_get_uint32.f (l.length + 1) l = some (fromB 0 l : Nat) := by
  have := get32_l l hb hl l.length 0 0 (by omega) (by omega)
  rwa [List.drop_zero] at this

/-- What the reference reads: behind the end nought. -/
def numR (l : List Int) : Nat → Nat → Nat → Nat
  | _, 0, a => a
  | i, n + 1, a => numR l (i + 1) n (a * 256 + (l.getD i 0).toNat)
theorem numR_bound (l : List Int) (hb : Bytes l) : ∀ (n i a j : Nat), a < 256 ^ j → numR l i n a < 256 ^ (j + n)
  | 0, i, a, j, h => h
  | n + 1, i, a, j, h => by
    rw [numR, show j + (n + 1) = (j + 1) + n from by omega]
    refine numR_bound l hb n (i + 1) _ _ (step_lt h ?_)
    by_cases hi : i < l.length
    · rw [getD_lt hi]; exact (hb _ (List.getElem_mem hi)).2
    · rw [getD_ge (by omega)]; omega
theorem number_l (l : List Int) (hb : Bytes l) (at_ n0 : Nat) (hA : at_ < 2 ^ 40) (hn : n0 ≤ 8) : ∀ (n i a j : Nat), i + n = at_ + n0 → j + n ≤ 8 → a < 256 ^ j →
    penumbraref21_number.l0 (n + 1) l at_ n0 a i = some (numR l i n a : Nat)
  | 0, i, a, j, hi, hj, ha => by rw [penumbraref21_number.l0, wrap64_id (by omega) (by omega), if_neg (by omega)]; rfl
  | n + 1, i, a, j, hi, hj, ha => by
    rw [penumbraref21_number.l0, wrap64_id (n := (at_ : Int) + n0) (by omega) (by omega), if_pos (by omega)]
    by_cases hl : i < l.length
    · have hc := rd_bytes hb hl
      rw [if_pos (by omega), if_pos (by omega), or64 a _ (pow_le7 ha (by omega)) hc.1 hc.2, wrap64_id (by omega) (by omega), show (i : Int) + 1 = ((i + 1 : Nat) : Int) from rfl,
        number_l l hb at_ n0 hA hn n (i + 1) _ (j + 1) (by omega) (by omega) (step_lt ha hc.2), numR]
      unfold rd; rw [Int.toNat_natCast]
    · have h7 := pow_le7 ha (by omega)
      rw [if_neg (by omega), show IntKind.u64.wrap ((a : Int) * 256) = ((a * 256 + (0 : Int).toNat : Nat) : Int) from by simp [IntKind.wrap, IntKind.bits, IntKind.signed]; omega, wrap64_id (by omega) (by omega), show (i : Int) + 1 = ((i + 1 : Nat) : Int) from rfl,
        number_l l hb at_ n0 hA hn n (i + 1) _ (j + 1) (by omega) (by omega) (step_lt ha (by omega)), numR, getD_ge (by omega)]
theorem number_f (l : List Int) (hb : Bytes l) (at_ n0 : Nat) (hA : at_ < 2 ^ 40) (hn : n0 ≤ 8) : penumbraref21_number.f (n0 + 1) l at_ n0 = some (numR l at_ n0 0 : Nat) :=
  number_l l hb at_ n0 hA hn n0 at_ 0 0 rfl (by omega) (by omega)
theorem numR_from (pre : List Int) : ∀ (m post : List Int) (a : Nat), numR (pre ++ m ++ post) pre.length m.length a = fromB a m
  | [], post, a => rfl
  | c :: cs, post, a => by
    rw [List.length_cons, numR, fromB]
    have h1 := numR_from (pre ++ [c]) cs post (a * 256 + c.toNat)
    rw [List.length_append, List.length_singleton] at h1
    rw [show pre ++ c :: cs ++ post = pre ++ [c] ++ cs ++ post from by simp, h1.symm]
    simp

/-! ### groups of seven bits -/
theorem or8 (v : Nat) : bits .or .u8 ((v : Int) % 256) 128 = ((v % 128 + 128 : Nat) : Int) := by
  rw [show ((v : Int) % 256) = ((v % 256 : Nat) : Int) from by omega, show (128 : Int) = ((128 : Nat) : Int) from rfl, u8_or_nat _ _ (by omega) (by omega)]
  have h : v % 256 = 128 * (v % 256 / 128) + v % 128 := by omega
  have h2 : v % 256 / 128 < 2 := by omega
  rw [h]
  obtain h3 | h3 : v % 256 / 128 = 0 ∨ v % 256 / 128 = 1 := by omega
  · rw [h3, Nat.or_comm, nat_join 7 _ _ (by omega) (by omega)]; omega
  · rw [h3, Nat.or_comm, ← nat_join 7 (128 * 1) (v % 128) (by omega) (by omega), ← Nat.or_assoc, show 128 ||| 128 * 1 = 128 from rfl, nat_join 7 _ _ (by omega) (by omega)]; omega
theorem low8 (v : Nat) (h : v < 18446744073709551616) : (bits .or .u64 (bits .and .u64 (v : Int) 127) 128) % 256 = ((v % 128 + 128 : Nat) : Int) := by
  rw [show (127 : Int) = ((127 : Nat) : Int) from rfl, u64_and_nat _ _ h (by omega), nat_mask7, show (128 : Int) = ((128 : Nat) : Int) from rfl, u64_or_nat _ _ (by omega) (by omega), Nat.or_comm, nat_join 7 _ _ (by omega) (by omega)]; omega
theorem groups_l : ∀ (k v : Nat) (x0 : List Int), v < 128 ^ (k + 1) → x0.length + k + 1 < 140737488355328 → pack_groups.l0 (k + 1) x0 v = some (x0 ++ vari k v)
  | 0, v, x0, h, hl => by rw [pack_groups.l0, if_neg (by omega), if_pos (by omega), vari]; exact (congrArg some (congrArg (x0 ++ ·) (congrArg (fun z => [z]) (by omega : (v : Int) % 256 = ((v % 256 : Nat) : Int)))))
  | k + 1, v, x0, h, hl => by
    rw [pack_groups.l0, vari]
    by_cases h1 : 128 ≤ v
    · rw [if_pos (by omega), if_pos (by omega), or8, if_pos h1, show (v : Int) / 128 = ((v / 128 : Nat) : Int) from by omega, groups_l k (v / 128) _ (by rw [Nat.pow_succ] at h; omega) (by simp; omega)]
      simp
    · rw [if_neg (by omega), if_pos (by omega), if_neg h1, show (v : Int) % 256 = (v : Int) from by omega]
theorem low_l : ∀ (k v : Nat) (x0 : List Int), v < 128 ^ (k + 1) → v < 18446744073709551616 → x0.length + k + 1 < 140737488355328 → penumbraref21_low.l0 (k + 1) x0 v = some (x0 ++ vari k v)
  | 0, v, x0, h, h64, hl => by rw [penumbraref21_low.l0, if_neg (by omega), if_pos (by omega), vari]; exact (congrArg some (congrArg (x0 ++ ·) (congrArg (fun z => [z]) (by omega : (v : Int) % 256 = ((v % 256 : Nat) : Int)))))
  | k + 1, v, x0, h, h64, hl => by
    rw [penumbraref21_low.l0, vari]
    by_cases h1 : 128 ≤ v
    · rw [if_pos (by omega), if_pos (by omega), low8 v h64, if_pos h1, show (v : Int) / 128 = ((v / 128 : Nat) : Int) from by omega, low_l k (v / 128) _ (by rw [Nat.pow_succ] at h; omega) (by omega) (by simp; omega)]
      simp
    · rw [if_neg (by omega), if_pos (by omega), if_neg h1, show (v : Int) % 256 = (v : Int) from by omega]
theorem low_f (v : Nat) (x0 : List Int) (h : v < 2 ^ 40) (hl : x0.length + 10 < 140737488355328) : penumbraref21_low.f 7 x0 v = some (x0 ++ vari 6 v) := low_l 6 v x0 (by omega) (by omega) (by omega)
theorem zig_lt {d : Int} (h1 : -8589934592 ≤ d) (h2 : d ≤ 8589934592) : zig d < 17179869185 := by unfold zig; split <;> omega
theorem folded_f {d : Int} (h1 : -8589934592 ≤ d) (h2 : d ≤ 8589934592) : penumbraref21_folded.f d = some (zig d : Nat) := by
  unfold penumbraref21_folded.f zig
  by_cases h : 0 ≤ d
  · rw [if_pos h, if_pos h, wrap64_id (by omega) (by omega)]; exact congrArg some (by simp [IntKind.wrap, IntKind.bits, IntKind.signed]; omega)
  · rw [if_neg h, if_neg h, wrap64_id (n := -2 * d) (by omega) (by omega), wrap64_id (by omega) (by omega)]; exact congrArg some (by simp [IntKind.wrap, IntKind.bits, IntKind.signed]; omega)
theorem xor_ones (x : Nat) (h : x < 2 ^ 64) : x ^^^ (2 ^ 64 - 1) = 2 ^ 64 - 1 - x := by
  apply Nat.eq_of_testBit_eq
  intro i
  rw [Nat.testBit_xor, Nat.testBit_two_pow_sub_one, show 2 ^ 64 - 1 - x = 2 ^ 64 - (x + 1) from by omega, Nat.testBit_two_pow_sub_succ h]
  by_cases hi : i < 64
  · simp [hi]
  · simp [hi]; exact Nat.testBit_lt_two_pow (Nat.lt_of_lt_of_le h (Nat.pow_le_pow_right (by omega) (by omega)))
theorem groups_f {d : Int} (h1 : -8589934592 ≤ d) (h2 : d ≤ 8589934592) (x0 : List Int) (hl : x0.length + 10 < 140737488355328) : pack_groups.f 7 x0 d = some (x0 ++ vari 6 (zig d)) := by
  unfold pack_groups.f
  have hz := zig_lt h1 h2
  have : bits .xor .u64 (IntKind.u64.wrap (IntKind.u64.wrap d * 2)) (IntKind.u64.wrap (d / 9223372036854775808)) = ((zig d : Nat) : Int) := by
    unfold zig
    by_cases h : 0 ≤ d
    · rw [if_pos h, show d / 9223372036854775808 = 0 from by omega, show IntKind.u64.wrap (IntKind.u64.wrap d * 2) = (((2 * d).toNat : Nat) : Int) from by simp [IntKind.wrap, IntKind.bits, IntKind.signed]; omega, show IntKind.u64.wrap 0 = ((0 : Nat) : Int) from rfl, u64_xor_nat _ _ (by omega) (by omega), Nat.xor_zero]
    · rw [if_neg h, show d / 9223372036854775808 = -1 from by omega, show IntKind.u64.wrap (IntKind.u64.wrap d * 2) = (((18446744073709551616 + 2 * d).toNat : Nat) : Int) from by simp [IntKind.wrap, IntKind.bits, IntKind.signed]; omega, show IntKind.u64.wrap (-1) = ((18446744073709551615 : Nat) : Int) from rfl, u64_xor_nat _ _ (by omega) (by omega), xor_ones _ (by omega)]; omega
  rw [this]
  exact groups_l 6 _ x0 (by omega) (by omega)
theorem unzig_zig (d : Int) : unzig (zig d) = d := by unfold unzig zig; split <;> split <;> omega
theorem vari_length : ∀ k v : Nat, 1 ≤ (vari k v).length ∧ (vari k v).length ≤ k + 1
  | 0, v => by simp [vari]
  | k + 1, v => by rw [vari]; have := vari_length k (v / 128); split <;> simp <;> omega
theorem vari_bytes : ∀ k v : Nat, Bytes (vari k v)
  | 0, v => by intro c hc; simp [vari] at hc; omega
  | k + 1, v => by
    rw [vari]
    split
    · intro c hc
      rcases List.mem_cons.1 hc with rfl | hc
      · omega
      · exact vari_bytes k _ c hc
    · intro c hc; simp at hc; omega

/-- What take does. -/
def takeP (n : Nat) (st : List Int × Bool) : List Int × (List Int × Bool) :=
  if st.1.length < n then (List.replicate n 0, ([], true)) else (st.1.take n, (st.1.drop n, st.2))
theorem takeP_app (m post : List Int) (s : Bool) : takeP m.length (m ++ post, s) = (m, (post, s)) := by
  unfold takeP; rw [if_neg (by simp)]; simp
theorem takeP_one (c : Int) (post : List Int) (s : Bool) : takeP 1 (c :: post, s) = ([c], (post, s)) := takeP_app [c] post s
theorem takeP_length (n : Nat) (st : List Int × Bool) : (takeP n st).1.length = n := by unfold takeP; split <;> simp <;> omega
theorem takeP_bytes {n : Nat} {st : List Int × Bool} (h : Bytes st.1) : Bytes (takeP n st).1 ∧ Bytes (takeP n st).2.1 := by
  unfold takeP
  split
  · exact ⟨fun c hc => by rw [List.eq_of_mem_replicate hc]; omega, fun c hc => by cases hc⟩
  · exact ⟨fun c hc => h c (List.mem_of_mem_take hc), fun c hc => h c (List.mem_of_mem_drop hc)⟩
def difP : Nat → Nat → Nat → List Int × Bool → Nat × (List Int × Bool)
  | 0, _, v, st => (v, st)
  | j + 1, k, v, st => if ((takeP 1 st).1.getD 0 0) < 128 then (v + ((takeP 1 st).1.getD 0 0).toNat % 128 * 2 ^ (7 * k), (takeP 1 st).2)
    else difP j (k + 1) (v + ((takeP 1 st).1.getD 0 0).toNat % 128 * 2 ^ (7 * k)) (takeP 1 st).2
def grpR (l : List Int) : Nat → Nat → Nat → Nat → Nat × Nat
  | 0, _, v, i => (v, i)
  | j + 1, k, v, i => if i < l.length then (if l.getD i 0 < 128 then (v + (l.getD i 0).toNat % 128 * 2 ^ (7 * k), i + 1) else grpR l j (k + 1) (v + (l.getD i 0).toNat % 128 * 2 ^ (7 * k)) (i + 1)) else (v, i)
theorem pow7 (k : Nat) : 2 ^ (7 * (k + 1)) = 128 * 2 ^ (7 * k) := by rw [Nat.mul_add, Nat.pow_add, Nat.mul_comm]
theorem difP_vari : ∀ (j k v u : Nat) (post : List Int) (s : Bool), u < 128 ^ (j + 1) → difP (j + 1) k v (vari j u ++ post, s) = (v + u * 2 ^ (7 * k), (post, s))
  | 0, k, v, u, post, s, h => by
    rw [difP, vari, List.singleton_append, takeP_one, if_pos (by simp; omega)]
    simp; exact congrArg (· * 2 ^ (7 * k)) (by omega : ((u : Int) % 256).toNat % 128 = u)
  | j + 1, k, v, u, post, s, h => by
    rw [difP, vari]
    by_cases h1 : 128 ≤ u
    · rw [if_pos h1, List.cons_append, takeP_one, if_neg (by simp; omega)]
      dsimp only
      rw [difP_vari j (k + 1) _ (u / 128) post s (by rw [Nat.pow_succ] at h; omega), pow7]
      simp
      rw [Nat.add_assoc]; congr 1
      rw [show u / 128 * (128 * 2 ^ (7 * k)) = (128 * (u / 128)) * 2 ^ (7 * k) from by rw [← Nat.mul_assoc, Nat.mul_comm 128], ← Nat.add_mul]
      congr 1; omega
    · rw [if_neg h1, List.singleton_append, takeP_one, if_pos (by simp; omega)]
      simp; rw [Nat.mod_eq_of_lt (by omega : u < 128)]
theorem getD_mid (pre : List Int) (c : Int) (post : List Int) : (pre ++ c :: post).getD pre.length 0 = c := by simp
theorem grpR_vari : ∀ (j k v u : Nat) (pre post : List Int), u < 128 ^ (j + 1) → grpR (pre ++ vari j u ++ post) (j + 1) k v pre.length = (v + u * 2 ^ (7 * k), (pre ++ vari j u).length)
  | 0, k, v, u, pre, post, h => by
    rw [grpR, vari, if_pos (by simp), show pre ++ [((u % 256 : Nat) : Int)] ++ post = pre ++ ((u % 256 : Nat) : Int) :: post from by simp, getD_mid, if_pos (by omega)]
    simp; exact congrArg (· * 2 ^ (7 * k)) (by omega : ((u : Int) % 256).toNat % 128 = u)
  | j + 1, k, v, u, pre, post, h => by
    rw [grpR, vari]
    by_cases h1 : 128 ≤ u
    · rw [if_pos h1, if_pos (by simp), show pre ++ ((u % 128 + 128 : Nat) : Int) :: vari j (u / 128) ++ post = pre ++ ((u % 128 + 128 : Nat) : Int) :: (vari j (u / 128) ++ post) from by simp, getD_mid, if_neg (by omega)]
      have := grpR_vari j (k + 1) (v + (((u % 128 + 128 : Nat) : Int)).toNat % 128 * 2 ^ (7 * k)) (u / 128) (pre ++ [((u % 128 + 128 : Nat) : Int)]) post (by rw [Nat.pow_succ] at h; omega)
      rw [show pre ++ ((u % 128 + 128 : Nat) : Int) :: (vari j (u / 128) ++ post) = pre ++ [((u % 128 + 128 : Nat) : Int)] ++ vari j (u / 128) ++ post from by simp, show pre.length + 1 = (pre ++ [((u % 128 + 128 : Nat) : Int)]).length from by simp, this, pow7]
      simp
      rw [Nat.add_assoc]; congr 1
      rw [show u / 128 * (128 * 2 ^ (7 * k)) = (128 * (u / 128)) * 2 ^ (7 * k) from by rw [← Nat.mul_assoc, Nat.mul_comm 128], ← Nat.add_mul]
      congr 1; omega
    · rw [if_neg h1, if_pos (by simp), show pre ++ [(u : Int)] ++ post = pre ++ (u : Int) :: post from by simp, getD_mid, if_pos (by omega)]
      simp; rw [Nat.mod_eq_of_lt (by omega : u < 128)]
end Go.Proofs.Ytomildjihlbbmaa.Num

/-
  written and by: the bytes of a field by a way.
-/
namespace Go.Proofs.Ytomildjihlbbmaa
open Go.RowKit Flt Num Go.Proofs.YtomildjihlbbmaaW.PrintWords Go.Proofs.YtomildjihlbbmaaW.PrintLast Go.Proofs.YtomildjihlbbmaaW.PrintMore Go.Proofs.Ytomildjihlbbmaa.PPackUnpacks
set_option linter.unusedVariables false
attribute [local go_sem] run_f64bits run_f64from run_f32bits run_f32from

/-- cells' words -/
def kc : Kd (Nat × Nat) := Kd.scalar (fun x => .complex .f64 x.1 x.2) (fun _ => rfl)
def kb : Kd Int := Kd.int .u8
def Words (l : List (Nat × Nat)) : Prop := ∀ x ∈ l, x.1 < 2 ^ 64 ∧ x.2 < 2 ^ 64
abbrev most : Int := 2147483648

def encCell (way : Nat) (last : Int × Int) (v : Nat × Nat) : Option (List Int × (Int × Int)) :=
  if way = 0 then some (be 8 v.1 ++ be 8 v.2, last)
  else if way = 1 then (if narrowB v.1 v.2 = true then some (be 4 ((narrowF v.1).getD 0) ++ be 4 ((narrowF v.2).getD 0), last) else none)
  else if wholeC v.1 v.2 most = true then some (vari 6 (zig (fInt v.1 - last.1)) ++ vari 6 (zig (fInt v.2 - last.2)), (fInt v.1, fInt v.2)) else none
def encL (way : Nat) : Int × Int → List (Nat × Nat) → List Int → Option (List Int)
  | _, [], acc => some acc
  | last, v :: vs, acc => (encCell way last v).bind fun p => encL way p.2 vs (acc ++ p.1)

theorem at_kc {w : World} {A : Option Addr} {n : Nat} {xs : List (Nat × Nat)} (h : kc.C w A n xs) (i : Nat) (h1 : i < n) : ∃ ad, A = some ad ∧ w.cell? (ad.add i) = some (.complex .f64 (xs.getD i (0, 0)).1 (xs.getD i (0, 0)).2) := by
  have := ReadsOf.at_ (Kd.reads_of_C (enc := fun x : Nat × Nat => Value.complex .f64 x.1 x.2) (d := (0, 0)) (h1 := fun _ => rfl) h) (i : Int) (by omega) (by omega)
  simpa [rdOf] using this
theorem drop_at {xs : List (Nat × Nat)} {i : Nat} (h : i < xs.length) : xs.drop i = xs.getD i (0, 0) :: xs.drop (i + 1) := by
  rw [List.drop_eq_getElem_cons h]; simp [List.getD, h]
theorem words_at {xs : List (Nat × Nat)} (hw : Words xs) {i : Nat} (h : i < xs.length) : (xs.getD i (0, 0)).1 < 2 ^ 64 ∧ (xs.getD i (0, 0)).2 < 2 ^ 64 := by
  have : xs.getD i (0, 0) = xs[i] := by simp [List.getD, h]
  rw [this]; exact hw _ (List.getElem_mem h)
theorem lit_R (W : World) (xs : List Int) (base : Nat) (h : base ≤ W.heap.size) (hl : xs.length < 1000) : kb.R 5 (W.alloc (.cells (nums .u8 xs).toArray 5)) base (fun _ => True) (.slice (some ⟨W.heap.size, 0, none⟩) xs.length xs.length) xs := by
  refine Kd.R_of_own (enc := Value.int .u8) (h1 := fun _ => rfl) ?_ (fun _ _ => trivial)
  have h2 := World.ownsRow_lit (base := base) (e := 5) (size := 1) W (nums .u8 xs).toArray xs.length h (by simp [maxLen]; omega) (by simp [nums])
  simpa [encs, nums] using h2

theorem lit_R2 (W : World) (a b : Int) (p base : Nat) (hp : W.heap.size = p) (h : base ≤ p) : kb.R 5 (W.alloc (.cells #[.int .u8 a, .int .u8 b] 5)) base (fun _ => True) (.slice (some ⟨p, 0, none⟩) 2 2) [a, b] := by
  subst hp
  exact lit_R W [a, b] base h (by simp)
theorem put8_any (P : Nat → Prop) (u : Value) (acc : List Int) (x : Nat) (w0 w1 : World) (hB : Below w0.heap.size w0 w1) (hR : kb.R 5 w1 w0.heap.size P u acc) (hl : acc.length < 2 ^ 40) :
    Calls Try.prog 45 #[u, .int .u64 x, .int .i64 8] w1 fun e w' => ∃ v, e = .returned v ∧ kb.R 5 w' w0.heap.size (fun k => P k ∨ w1.heap.size ≤ k) v (acc ++ be 8 x) ∧ Below w0.heap.size w0 w' ∧ Kept w1 w' P :=
  pack_put_uint64.calls 9 P u acc x 8 _ w0 w1 hB hR (put64_f x 8 acc (by omega) (by omega))
theorem put4_any (P : Nat → Prop) (u : Value) (acc : List Int) (x : Nat) (w0 w1 : World) (hB : Below w0.heap.size w0 w1) (hR : kb.R 5 w1 w0.heap.size P u acc) (hl : acc.length < 2 ^ 40) :
    Calls Try.prog 46 #[u, .int .u32 x, .int .i64 4] w1 fun e w' => ∃ v, e = .returned v ∧ kb.R 5 w' w0.heap.size (fun k => P k ∨ w1.heap.size ≤ k) v (acc ++ be 4 x) ∧ Below w0.heap.size w0 w' ∧ Kept w1 w' P :=
  pack_put_uint32.calls 5 P u acc x 4 _ w0 w1 hB hR (put32_f x 4 acc (by omega) (by omega))
theorem high8_any (P : Nat → Prop) (u : Value) (acc : List Int) (x : Nat) (w0 w1 : World) (hB : Below w0.heap.size w0 w1) (hR : kb.R 5 w1 w0.heap.size P u acc) (hl : acc.length < 2 ^ 40) :
    Calls Try.prog 50 #[u, .int .u64 x, .int .i64 8] w1 fun e w' => ∃ v, e = .returned v ∧ kb.R 5 w' w0.heap.size (fun k => P k ∨ w1.heap.size ≤ k) v (acc ++ be 8 x) ∧ Below w0.heap.size w0 w' ∧ Kept w1 w' P :=
  penumbraref21_high.calls 9 P u acc x 8 _ w0 w1 hB hR (high_f x 8 acc (by omega) (by omega))
theorem high4_any (P : Nat → Prop) (u : Value) (acc : List Int) (x : Nat) (w0 w1 : World) (hB : Below w0.heap.size w0 w1) (hR : kb.R 5 w1 w0.heap.size P u acc) (hl : acc.length < 2 ^ 40) :
    Calls Try.prog 50 #[u, .int .u64 x, .int .i64 4] w1 fun e w' => ∃ v, e = .returned v ∧ kb.R 5 w' w0.heap.size (fun k => P k ∨ w1.heap.size ≤ k) v (acc ++ be 4 x) ∧ Below w0.heap.size w0 w' ∧ Kept w1 w' P :=
  penumbraref21_high.calls 5 P u acc x 4 _ w0 w1 hB hR (high_f x 4 acc (by omega) (by omega))
theorem groups_any (P : Nat → Prop) (u : Value) (acc : List Int) (d : Int) (w0 w1 : World) (hB : Below w0.heap.size w0 w1) (hR : kb.R 5 w1 w0.heap.size P u acc) (hl : acc.length < 2 ^ 40) (h1 : -8589934592 ≤ d) (h2 : d ≤ 8589934592) :
    Calls Try.prog 49 #[u, .int .i64 d] w1 fun e w' => ∃ v, e = .returned v ∧ kb.R 5 w' w0.heap.size (fun k => P k ∨ w1.heap.size ≤ k) v (acc ++ vari 6 (zig d)) ∧ Below w0.heap.size w0 w' ∧ Kept w1 w' P :=
  pack_groups.calls 7 P u acc d _ w0 w1 hB hR (groups_f h1 h2 acc (by omega))
theorem low_any (P : Nat → Prop) (u : Value) (acc : List Int) (v : Nat) (w0 w1 : World) (hB : Below w0.heap.size w0 w1) (hR : kb.R 5 w1 w0.heap.size P u acc) (hl : acc.length < 2 ^ 40) (h1 : v < 2 ^ 40) :
    Calls Try.prog 53 #[u, .int .u64 v] w1 fun e w' => ∃ v', e = .returned v' ∧ kb.R 5 w' w0.heap.size (fun k => P k ∨ w1.heap.size ≤ k) v' (acc ++ vari 6 v) ∧ Below w0.heap.size w0 w' ∧ Kept w1 w' P :=
  penumbraref21_low.calls 7 P u acc v _ w0 w1 hB hR (low_f v acc h1 (by omega))
theorem folded_any (d : Int) (w : World) (h1 : -8589934592 ≤ d) (h2 : d ≤ 8589934592) : Calls Try.prog 54 #[.int .i64 d] w fun e w' => e = .returned (.int .u64 (zig d : Nat)) ∧ Drawn0 w w' :=
  penumbraref21_folded.calls d _ w (folded_f h1 h2)
theorem R_true {W : World} {b : Nat} {P : Nat → Prop} {v : Value} {xs : List Int} (h : kb.R 5 W b P v xs) : kb.R 5 W b (fun _ => True) v xs := Kd.R_mono h (fun _ _ => trivial)

/-- what a writer by a way leaves -/
def WOut (o : Option (List Int)) (w w' : World) (v : Value) : Prop := match o with
  | some r => kb.R 5 w' w.heap.size (fun _ => True) v r
  | none => v = .slice none 0 0
theorem WOut.some_ {o : Option (List Int)} {w w' : World} {v : Value} {r : List Int} (h : o = some r) (hr : kb.R 5 w' w.heap.size (fun _ => True) v r) : WOut o w w' v := by rw [h]; exact hr
theorem WOut.none_ {o : Option (List Int)} {w w' : World} {v : Value} (h : o = none) (hr : v = .slice none 0 0) : WOut o w w' v := by rw [h]; exact hr
theorem step1_no {l : List (Nat × Nat)} {acc : List Int} {re im : Nat} {o : Option (List Int)} {last : Int × Int} (h : o = (encCell 1 last (re, im)).bind fun p => encL 1 p.2 l (acc ++ p.1)) (hn : narrowB re im = false) : o = none := by
  rw [h, encCell, if_neg (by decide), if_pos rfl, if_neg (by rw [hn]; decide)]; rfl
theorem step1_yes {l : List (Nat × Nat)} {acc : List Int} {re im c d : Nat} {o : Option (List Int)} {last : Int × Int} (h : o = (encCell 1 last (re, im)).bind fun p => encL 1 p.2 l (acc ++ p.1)) (hn : NarrowOut re im c d true) : o = encL 1 last l (acc ++ be 4 c ++ be 4 d) := by
  obtain ⟨_, _, h3, h4⟩ := hn
  obtain ⟨h5, h6⟩ := h4 rfl
  rw [h, encCell, if_neg (by decide), if_pos rfl, if_pos h3.symm, h5, h6]; simp

set_option maxHeartbeats 4000000 in
set_option maxRecDepth 100000 in
theorem written0_any (N : Int) (hN : 0 ≤ N ∧ N < 256) (A : Option Addr) (c : Nat) (l : List (Nat × Nat)) (w : World) (hC : kc.C w A l.length l) (hW : Words l) (hl : l.length ≤ 4096) :
    Calls Try.prog 37 #[.agg #[.int .i64 N, .slice A l.length c], .int .i64 0] w fun e w' => ∃ v, e = .returned v ∧ Below w.heap.size w w' ∧ WOut (encL 0 (0, 0) l [0, N]) w w' v := by
  have HC := Lib.hid hC
  have HW := Lib.hid hW
  have HL := Lib.hid hl
  have hN8 : N % 256 = N := by omega
  have hmax : (l.length : Int) < 9223372036854775807 := by omega
  clear hC hW hl hN
  go_enter Try.func37, Try.ntmps37
  go_wp2_with fail
  go_loopg [5, 21] (l.length + 1) (fun gk v5 v21 wr => ∃ (i : Nat) (acc : List Int), v21 = .int .i64 (i : Int) ∧ Hid (i + gk = l.length + 1) ∧ Hid (i ≤ l.length) ∧ Hid (Below w.heap.size w wr) ∧ Hid (kb.R 5 wr w.heap.size (fun _ => True) v5 acc) ∧ Hid (acc.length = 2 + 16 * i) ∧ Hid (encL 0 (0, 0) (l.drop i) acc = encL 0 (0, 0) l [0, N]))
  case atStart =>
    refine ⟨0, [0, N], rfl, Lib.hid (by omega), Lib.hid (by omega), Lib.hid ?_, Lib.hid ?_, rfl, rfl⟩
    · exact below_alloc (below_alloc (below_alloc (Below.refl _ _) _) _) _
    · refine Kd.R_alloc ?_ _
      exact lit_R2 _ 0 N _ _ (World.size_alloc ..) (by omega)
  case round =>
    obtain ⟨i, acc, rfl, hk, hi, hb, hr, ha, he⟩ := hrel
    by_cases hlt : i < l.length
    · have hlt' : (i : Int) < (l.length : Int) := by omega
      have hnn : (0 : Int) ≤ (i : Int) := by omega
      obtain ⟨ad, rfl, hcell⟩ := at_kc (Kd.C_below HC.out hb.out) i hlt
      have hww := Lib.hid (words_at HW.out hlt)
      have hstep := Lib.hid (he.out.symm.trans (by rw [drop_at hlt, encL]))
      obtain ⟨⟨re, im⟩, hre⟩ : ∃ v : Nat × Nat, v = l.getD i (0, 0) := ⟨_, rfl⟩
      rw [← hre] at hcell hww hstep
      clear hre he
      dsimp only at hcell
      have HA := Lib.hid (show acc.length < 2 ^ 39 by have := ha.out; have := HL.out; omega)
      go_wp2_with fail
      refine (Narrow_any re im hww.out.1 hww.out.2 _).mono ?_
      rintro e w1 ⟨c1, d1, ok1, rfl, hno, hb1⟩
      have HNO := Lib.hid hno
      have HB1 := Lib.hid (hb.out.trans (hb1.mono hb.out.size))
      have HR1 := Lib.hid (Kd.R_below hr.out hb1)
      clear hno hb1
      go_wp2_with fail
      refine (put8_any _ _ _ re w w1 HB1.out HR1.out (by have := HA.out; omega)).mono ?_
      rintro e w2 ⟨v2, rfl, hr2, hb2, hk2⟩
      have HB2 := Lib.hid hb2
      have HR2 := Lib.hid (R_true hr2)
      clear hr2 hb2 hk2
      go_wp2_with fail
      refine (put8_any _ _ _ im w w2 HB2.out HR2.out (by have := HA.out; rw [List.length_append, be_length]; omega)).mono ?_
      rintro e w3 ⟨v3, rfl, hr3, hb3, hk3⟩
      have HB3 := Lib.hid hb3
      have HR3 := Lib.hid (R_true hr3)
      clear hr3 hb3 hk3
      have hi1 : wrap64 ((i : Int) + 1) = ((i + 1 : Nat) : Int) := wrap64_id (by omega) (by omega)
      go_wp2_with fail
      go_roundg (gk - 1)
      case measure => have := hk.out; omega
      case rel =>
        refine ⟨i + 1, acc ++ be 8 re ++ be 8 im, by simp, Lib.hid (by have := hk.out; omega), Lib.hid (by omega), HB3, HR3, Lib.hid ?_, Lib.hid ?_⟩
        · have := ha.out; rw [List.length_append, List.length_append, be_length, be_length]; omega
        · rw [hstep.out, encCell, if_pos rfl, Option.bind_some, List.append_assoc]
    · have hlt' : ¬ (i : Int) < (l.length : Int) := by omega
      have hie : i = l.length := by have := hi.out; omega
      have hfin := Lib.hid (show encL 0 (0, 0) l [0, N] = some acc by rw [← he.out, hie, List.drop_length, encL])
      go_wp2
      go_ret
      exact ⟨_, rfl, hb.out, .some_ hfin.out hr.out⟩

set_option maxHeartbeats 4000000 in
set_option maxRecDepth 100000 in
theorem written1_any (N : Int) (hN : 0 ≤ N ∧ N < 256) (A : Option Addr) (c : Nat) (l : List (Nat × Nat)) (w : World) (hC : kc.C w A l.length l) (hW : Words l) (hl : l.length ≤ 4096) :
    Calls Try.prog 37 #[.agg #[.int .i64 N, .slice A l.length c], .int .i64 1] w fun e w' => ∃ v, e = .returned v ∧ Below w.heap.size w w' ∧ WOut (encL 1 (0, 0) l [1, N]) w w' v := by
  have HC := Lib.hid hC
  have HW := Lib.hid hW
  have HL := Lib.hid hl
  have hN8 : N % 256 = N := by omega
  have hmax : (l.length : Int) < 9223372036854775807 := by omega
  clear hC hW hl hN
  go_enter Try.func37, Try.ntmps37
  go_wp2_with fail
  go_loopg [5, 21] (l.length + 1) (fun gk v5 v21 wr => ∃ (i : Nat) (acc : List Int), v21 = .int .i64 (i : Int) ∧ Hid (i + gk = l.length + 1) ∧ Hid (i ≤ l.length) ∧ Hid (Below w.heap.size w wr) ∧ Hid (kb.R 5 wr w.heap.size (fun _ => True) v5 acc) ∧ Hid (acc.length = 2 + 8 * i) ∧ Hid (encL 1 (0, 0) (l.drop i) acc = encL 1 (0, 0) l [1, N]))
  case atStart =>
    refine ⟨0, [1, N], rfl, Lib.hid (by omega), Lib.hid (by omega), Lib.hid ?_, Lib.hid ?_, rfl, rfl⟩
    · exact below_alloc (below_alloc (below_alloc (Below.refl _ _) _) _) _
    · refine Kd.R_alloc ?_ _
      exact lit_R2 _ 1 N _ _ (World.size_alloc ..) (by omega)
  case round =>
    obtain ⟨i, acc, rfl, hk, hi, hb, hr, ha, he⟩ := hrel
    by_cases hlt : i < l.length
    · have hlt' : (i : Int) < (l.length : Int) := by omega
      have hnn : (0 : Int) ≤ (i : Int) := by omega
      obtain ⟨ad, rfl, hcell⟩ := at_kc (Kd.C_below HC.out hb.out) i hlt
      have hww := Lib.hid (words_at HW.out hlt)
      have hstep := Lib.hid (he.out.symm.trans (by rw [drop_at hlt, encL]))
      obtain ⟨⟨re, im⟩, hre⟩ : ∃ v : Nat × Nat, v = l.getD i (0, 0) := ⟨_, rfl⟩
      rw [← hre] at hcell hww hstep
      clear hre he
      dsimp only at hcell
      have HA := Lib.hid (show acc.length < 2 ^ 39 by have := ha.out; have := HL.out; omega)
      go_wp2_with fail
      refine (Narrow_any re im hww.out.1 hww.out.2 _).mono ?_
      rintro e w1 ⟨c1, d1, ok1, rfl, hno, hb1⟩
      have HNO := Lib.hid hno
      have HB1 := Lib.hid (hb.out.trans (hb1.mono hb.out.size))
      have HR1 := Lib.hid (Kd.R_below hr.out hb1)
      rcases bool_cases ok1 with hok | hok
      all_goals subst hok
      rotate_left
      · have hnone := Lib.hid (step1_no hstep.out hno.2.2.1.symm)
        clear hno hb1
        go_wp2
        go_ret
        exact ⟨_, rfl, HB1.out, .none_ hnone.out rfl⟩
      have hsome := Lib.hid (step1_yes hstep.out hno)
      clear hno hb1
      go_wp2_with fail
      refine (put4_any _ _ _ c1 w w1 HB1.out HR1.out (by have := HA.out; omega)).mono ?_
      rintro e w2 ⟨v2, rfl, hr2, hb2, hk2⟩
      have HB2 := Lib.hid hb2
      have HR2 := Lib.hid (R_true hr2)
      clear hr2 hb2 hk2
      go_wp2_with fail
      refine (put4_any _ _ _ d1 w w2 HB2.out HR2.out (by have := HA.out; rw [List.length_append, be_length]; omega)).mono ?_
      rintro e w3 ⟨v3, rfl, hr3, hb3, hk3⟩
      have HB3 := Lib.hid hb3
      have HR3 := Lib.hid (R_true hr3)
      clear hr3 hb3 hk3
      have hi1 : wrap64 ((i : Int) + 1) = ((i + 1 : Nat) : Int) := wrap64_id (by omega) (by omega)
      go_wp2_with fail
      go_roundg (gk - 1)
      case measure => have := hk.out; omega
      case rel =>
        refine ⟨i + 1, acc ++ be 4 c1 ++ be 4 d1, by simp, Lib.hid (by have := hk.out; omega), Lib.hid (by omega), HB3, HR3, Lib.hid ?_, Lib.hid ?_⟩
        · have := ha.out; rw [List.length_append, List.length_append, be_length, be_length]; omega
        · exact hsome.out.symm
    · have hlt' : ¬ (i : Int) < (l.length : Int) := by omega
      have hie : i = l.length := by have := hi.out; omega
      have hfin := Lib.hid (show encL 1 (0, 0) l [1, N] = some acc by rw [← he.out, hie, List.drop_length, encL])
      go_wp2
      go_ret
      exact ⟨_, rfl, hb.out, .some_ hfin.out hr.out⟩
end Go.Proofs.Ytomildjihlbbmaa

/-
  A pair of words in a block ([2]int64): its load and its store.
-/
namespace Go.Proofs.Ytomildjihlbbmaa
open Go.RowKit Flt Num Go.Proofs.YtomildjihlbbmaaW.PrintWords Go.Proofs.YtomildjihlbbmaaW.PrintLast Go.Proofs.YtomildjihlbbmaaW.PrintMore Go.Proofs.Ytomildjihlbbmaa.PPackUnpacks
theorem und47 : ∃ n, Try.prog.underlying 47 = some (.array n 2) ∨ Try.prog.underlying 47 = some (.array 2 n) := ⟨2, by first | exact .inl (by kernel_rfl) | exact .inr (by kernel_rfl)⟩
theorem size47 : (Try.prog.info? 47).map (·.size) = some 2 := by kernel_rfl
theorem load_pair {ops : Array Oper} {rest : List Oper} {o : Oper} {a : Act} {Q : Exit → Act → World → Prop} {W : World} (hgd : o.guard = none) (x : Operand) (ho : o.op = .load 47 x)
    {g : Nat} (hx : a.eval x = .pointer (some ⟨g, 0, none⟩)) {u v : Value} (hg : W.heap[g]? = some (.cells #[u, v] 47 (0, 0))) (h : wpList Try.prog ops Q rest (a.put o.dst (.agg #[u, v])) W) : wpList Try.prog ops Q (o :: rest) a W := by
  obtain ⟨n, hu | hu⟩ := und47
  · exact wpList_load_row hgd 47 x ho g hx 47 #[u, v] (0, 0) _ hg hu rfl size47 h
  · exact wpList_load_row hgd 47 x ho g hx 47 #[u, v] (0, 0) _ hg hu rfl size47 h
theorem store_pair {ops : Array Oper} {rest : List Oper} {o : Oper} {a : Act} {Q : Exit → Act → World → Prop} {W : World} (hN : o.dst = none) (hgd : o.guard = none) (p x : Operand) (ho : o.op = .store 47 p x)
    {g : Nat} (haddr : a.eval p = .pointer (some ⟨g, 0, none⟩)) {u v : Int} (hx : a.eval x = .agg #[.int .i64 u, .int .i64 v]) {c1 c2 : Value} (hh : W.heap[g]? = some (.cells #[c1, c2] 47 (0, 0)))
    (h : ∀ w1, w1.heap[g]? = some (.cells #[.int .i64 u, .int .i64 v] 47 (0, 0)) → Kept W w1 (fun k => k = g) → Below g W w1 → wpList Try.prog ops Q rest a w1) : wpList Try.prog ops Q (o :: rest) a W := by
  have hrun := run_store_run (P := Try.prog) 47 (.agg #[.int .i64 u, .int .i64 v]) [.int .i64 u, .int .i64 v] (g := g) (o := 0) hh rfl size47 (by simp) (by intro q hq; simp at hq; rcases hq with rfl | rfl <;> rfl)
  have e : W.setCells g 0 [.int .i64 u, .int .i64 v] = W.setRow g #[.int .i64 u, .int .i64 v] := by
    show (W.setCell ⟨g, 0, none⟩ _).setCell ⟨g, 1, none⟩ _ = _
    rw [setCell_eq_setRow W g 0 _ 47 (0, 0) _ hh, setCell_eq_setRow _ g 1 _ 47 (0, 0) _ (setRow_heap W g _ _ 47 (0, 0) hh), setRow_setRow]
    rfl
  rw [e] at hrun
  have hK : Kept W (W.setRow g #[.int .i64 u, .int .i64 v]) (fun k => k = g) := ⟨by simp, fun i _ hn => setRow_other W g i _ hn⟩
  have hB : Below g W (W.setRow g #[.int .i64 u, .int .i64 v]) := ⟨rfl, rfl, rfl, by simp, fun k hk => setRow_other W g k _ (by omega)⟩
  refine wpList_plain hgd fun K hKK => ?_
  unfold Oper.wp execOp
  simp only [ho, haddr, hx, Sem.run_bind, Sem.run_pure, Result.andThen_ok, hrun]
  show K (a.put o.dst undef) _
  rw [hN]
  exact hKK a _ (h _ (setRow_heap W g _ _ 47 (0, 0) hh) hK hB)
end Go.Proofs.Ytomildjihlbbmaa

/-
  written by the near way.
-/
namespace Go.Proofs.Ytomildjihlbbmaa
open Go.RowKit Flt Num Go.Proofs.YtomildjihlbbmaaW.PrintWords Go.Proofs.YtomildjihlbbmaaW.PrintLast Go.Proofs.YtomildjihlbbmaaW.PrintMore Go.Proofs.Ytomildjihlbbmaa.PPackUnpacks
set_option linter.unusedVariables false
attribute [local go_sem] run_f64bits run_f64from run_f32bits run_f32from

theorem step2_no {l : List (Nat × Nat)} {acc : List Int} {re im : Nat} {o : Option (List Int)} {last : Int × Int} (h : o = (encCell 2 last (re, im)).bind fun p => encL 2 p.2 l (acc ++ p.1)) (hn : wholeC re im most = false) : o = none := by
  rw [h, encCell, if_neg (by decide), if_neg (by decide), if_neg (by rw [hn]; decide)]; rfl
theorem step2_yes {l : List (Nat × Nat)} {acc : List Int} {re im : Nat} {o : Option (List Int)} {last : Int × Int} (h : o = (encCell 2 last (re, im)).bind fun p => encL 2 p.2 l (acc ++ p.1)) (hn : wholeC re im most = true) :
    o = encL 2 (fInt re, fInt im) l (acc ++ vari 6 (zig (fInt re - last.1)) ++ vari 6 (zig (fInt im - last.2))) := by
  rw [h, encCell, if_neg (by decide), if_neg (by decide), if_pos hn]; simp
theorem wholeC_parts {re im : Nat} (hr : re < 2 ^ 64) (hi : im < 2 ^ 64) (h : wholeC re im most = true) : (floatToIntVal .f64 re .i64 = some (fInt re) ∧ -most ≤ fInt re ∧ fInt re ≤ most) ∧ floatToIntVal .f64 im .i64 = some (fInt im) ∧ -most ≤ fInt im ∧ fInt im ≤ most := by
  unfold wholeC at h
  rw [Bool.and_eq_true] at h
  exact ⟨whole_int hr h.1, whole_int hi h.2⟩
theorem heap_alloc_new' (W : World) (o : Obj) (k : Nat) (h : W.heap.size = k) : (W.alloc o).heap[k]? = some o := by subst h; exact heap_alloc_new W _
theorem two_cells {w : World} {g t : Nat} {a b : Value} (h : w.heap[g]? = some (.cells #[a, b] t (0, 0))) : w.cell? ⟨g, 0, none⟩ = some a ∧ w.cell? ⟨g, 1, none⟩ = some b ∧ w.frozen? ⟨g, 0, none⟩ = false ∧ w.frozen? ⟨g, 1, none⟩ = false := by
  refine ⟨?_, ?_, ?_, ?_⟩ <;> simp [World.cell?, World.frozen?, h]
theorem R_out2 {W W' : World} {b nb lb : Nat} {v : Value} {xs : List Int} (h : kb.R 5 W' b (fun k => (k ≠ nb ∧ k ≠ lb) ∨ W.heap.size ≤ k) v xs) (h1 : nb < W.heap.size) (h2 : lb < W.heap.size) : kb.R 5 W' b (fun k => k ≠ nb ∧ k ≠ lb) v xs :=
  Kd.R_mono h (fun k hk => by
    rcases hk with hk | hk
    · exact hk
    · omega)
theorem R_off {W : World} {b nb lb : Nat} {P : Nat → Prop} {v : Value} {xs : List Int} {c1 c2 : Array Value} (h : kb.R 5 W b P v xs) (h1 : W.heap[nb]? = some (.cells c1 47 (0, 0))) (h2 : W.heap[lb]? = some (.cells c2 47 (0, 0))) : kb.R 5 W b (fun k => k ≠ nb ∧ k ≠ lb) v xs := by
  have ht : ∀ q, q ∈ 5 :: kb.E → q ≠ 47 := by
    intro q hq
    rcases List.mem_cons.1 hq with rfl | hq
    · decide
    · cases hq
  exact Kd.R_mono (Kd.R_types (Kd.R_types h h1 ht) h2 ht) (fun k hk => ⟨hk.1.2, hk.2⟩)
theorem und2 : Try.prog.underlying 2 = some (.int .i64) := by kernel_rfl
theorem run_f2i3 {x : Nat} {n : Int} (h : floatToIntVal .f64 x .i64 = some n) (w : World) : (convert 48 3 (.float .f64 x)).run Try.prog w = .ok (.int .i64 n) w := run_convert_float_int w 48 3 .f64 .i64 _ _ und48 und3 h
theorem run_f2i {x : Nat} {n : Int} (h : floatToIntVal .f64 x .i64 = some n) (w : World) : (convert 48 2 (.float .f64 x)).run Try.prog w = .ok (.int .i64 n) w := run_convert_float_int w 48 2 .f64 .i64 _ _ und48 und2 h

set_option maxHeartbeats 4000000 in
set_option maxRecDepth 100000 in
theorem written2_any (N : Int) (hN : 0 ≤ N ∧ N < 256) (A : Option Addr) (c : Nat) (l : List (Nat × Nat)) (w : World) (hC : kc.C w A l.length l) (hW : Words l) (hl : l.length ≤ 4096) :
    Calls Try.prog 37 #[.agg #[.int .i64 N, .slice A l.length c], .int .i64 2] w fun e w' => ∃ v, e = .returned v ∧ Below w.heap.size w w' ∧ WOut (encL 2 (0, 0) l [2, N]) w w' v := by
  have HC := Lib.hid hC
  have HW := Lib.hid hW
  have HL := Lib.hid hl
  have hN8 : N % 256 = N := by omega
  have hmax : (l.length : Int) < 9223372036854775807 := by omega
  clear hC hW hl hN
  go_enter Try.func37, Try.ntmps37
  go_wp2_with fail
  go_loopg [5, 21] (l.length + 1) (fun gk v5 v21 wr => ∃ (i : Nat) (acc : List Int) (a b : Int), v21 = .int .i64 (i : Int) ∧ Hid (i + gk = l.length + 1) ∧ Hid (i ≤ l.length) ∧ Hid (Below w.heap.size w wr) ∧ Hid (kb.R 5 wr w.heap.size (fun _ => True) v5 acc) ∧ Hid (wr.heap[w.heap.size + 1 + 1]? = some (.cells #[.int .i64 a, .int .i64 b] 47)) ∧ Hid (-most ≤ a ∧ a ≤ most ∧ -most ≤ b ∧ b ≤ most) ∧ Hid (2 ≤ acc.length ∧ acc.length ≤ 2 + 14 * i) ∧ Hid (encL 2 (a, b) (l.drop i) acc = encL 2 (0, 0) l [2, N]))
  case atStart =>
    refine ⟨0, [2, N], 0, 0, rfl, Lib.hid (by omega), Lib.hid (by omega), Lib.hid ?_, Lib.hid ?_, Lib.hid ?_, Lib.hid (by decide), Lib.hid (by simp), rfl⟩
    · exact below_alloc (below_alloc (below_alloc (Below.refl _ _) _) _) _
    · refine Kd.R_alloc ?_ _
      exact lit_R2 _ 2 N _ _ (World.size_alloc ..) (by omega)
    · first | rfl | exact heap_alloc_new' _ _ _ (by rw [World.size_alloc, World.size_alloc])
  case round =>
    obtain ⟨i, acc, a, b, rfl, hk, hi, hb, hr, hl2, hm, ha, he⟩ := hrel
    by_cases hlt : i < l.length
    · have hlt' : (i : Int) < (l.length : Int) := by omega
      have hnn : (0 : Int) ≤ (i : Int) := by omega
      obtain ⟨ad, rfl, hcell⟩ := at_kc (Kd.C_below HC.out hb.out) i hlt
      have hww := Lib.hid (words_at HW.out hlt)
      have hstep := Lib.hid (he.out.symm.trans (by rw [drop_at hlt, encL]))
      obtain ⟨⟨re, im⟩, hre⟩ : ∃ v : Nat × Nat, v = l.getD i (0, 0) := ⟨_, rfl⟩
      rw [← hre] at hcell hww hstep
      clear hre he
      dsimp only at hcell
      have HA := Lib.hid (show acc.length < 2 ^ 39 by have := ha.out.2; have := HL.out; omega)
      go_wp2_with fail
      refine (Narrow_any re im hww.out.1 hww.out.2 _).mono ?_
      rintro e w1 ⟨c1, d1, ok1, rfl, hno, hb1⟩
      have HNO := Lib.hid hno
      have HB1 := Lib.hid (hb.out.trans (hb1.mono hb.out.size))
      have HR1 := Lib.hid (Kd.R_below hr.out hb1)
      have HL1 := Lib.hid ((hb1.block _ (blk_lt hl2.out)).trans hl2.out)
      clear hno hb1
      go_wp2_with fail
      refine (Whole_any re im hww.out.1 hww.out.2 2147483648 (by decide) _).mono ?_
      rintro e w2 ⟨rfl, hb2⟩
      have HB2 := Lib.hid (HB1.out.trans (hb2.mono HB1.out.size))
      have HR2 := Lib.hid (Kd.R_below HR1.out hb2)
      have HL2 := Lib.hid ((hb2.block _ (blk_lt HL1.out)).trans HL1.out)
      rcases bool_cases (wholeC re im 2147483648) with hok | hok
      rotate_left
      · have hnone := Lib.hid (step2_no hstep.out hok)
        rw [hok]
        clear hb2
        go_wp2
        go_ret
        exact ⟨_, rfl, HB2.out, .none_ hnone.out rfl⟩
      have hsome := Lib.hid (step2_yes hstep.out hok)
      obtain ⟨⟨hf1, hg1, hg2⟩, hf2, hg3, hg4⟩ := wholeC_parts hww.out.1 hww.out.2 hok
      have hc1 := run_f2i hf1
      have hc2 := run_f2i hf2
      rw [hok]
      clear hb2
      obtain ⟨nb, hnb⟩ : ∃ nb : Nat, nb = w2.heap.size := ⟨_, rfl⟩
      have hm' := hm.out
      have hd1 : IntKind.i64.wrap (fInt re - a) = fInt re - a := (i64_w _).trans (wrap64_id (by unfold most at *; omega) (by unfold most at *; omega))
      have hd2 : IntKind.i64.wrap (fInt im - b) = fInt im - b := (i64_w _).trans (wrap64_id (by unfold most at *; omega) (by unfold most at *; omega))
      have HD := Lib.hid (show (-8589934592 ≤ fInt re - a ∧ fInt re - a ≤ 8589934592) ∧ -8589934592 ≤ fInt im - b ∧ fInt im - b ≤ 8589934592 from by unfold most at *; omega)
      have HM := Lib.hid (show -most ≤ fInt re ∧ fInt re ≤ most ∧ -most ≤ fInt im ∧ fInt im ≤ most from ⟨hg1, hg2, hg3, hg4⟩)
      clear hm' hg1 hg2 hg3 hg4
      go_upto_region 18 with (fail)
      rw [← hnb]
      obtain ⟨lb, hlb⟩ : ∃ lb : Nat, lb = w.heap.size + 1 + 1 := ⟨_, rfl⟩
      rw [← hlb]
      obtain ⟨w3, hw3⟩ : ∃ w3 : World, w3 = w2.alloc (.cells #[.int .i64 (fInt re), .int .i64 (fInt im)] 47) := ⟨_, rfl⟩
      rw [← hw3]
      have HNB := Lib.hid (show w3.heap[nb]? = some (.cells #[.int .i64 (fInt re), .int .i64 (fInt im)] 47) from by rw [hw3]; exact heap_alloc_new' _ _ _ hnb.symm)
      have HLB := Lib.hid (show w3.heap[lb]? = some (.cells #[.int .i64 a, .int .i64 b] 47) from by rw [hw3, Below.heap_alloc _ _ _ (by rw [hlb]; exact blk_lt HL2.out), hlb]; exact HL2.out)
      have HR3 := Lib.hid (show kb.R 5 w3 w.heap.size (fun k => k ≠ nb ∧ k ≠ lb) u5 acc from R_off (by rw [hw3]; exact Kd.R_alloc HR2.out _) HNB.out HLB.out)
      have HB3 := Lib.hid (show Below w.heap.size w w3 from by rw [hw3]; exact HB2.out.alloc HB2.out.size _)
      have HLT := Lib.hid (show nb < w3.drew.heap.size ∧ lb < w3.drew.heap.size from ⟨blk_lt HNB.out, blk_lt HLB.out⟩)
      have HA1 := Lib.hid (show acc.length < 2 ^ 40 by have := HA.out; omega)
      have HA2 := Lib.hid (show (acc ++ vari 6 (zig (fInt re - a))).length < 2 ^ 40 by have := HA.out; have := vari_length 6 (zig (fInt re - a)); rw [List.length_append]; omega)
      obtain ⟨q1, q2, q3, q4⟩ := two_cells HNB.out
      obtain ⟨q5, q6, q7, q8⟩ := two_cells HLB.out
      clear q3 q4 q7 q8
      replace hlb := Lib.hid hlb
      replace hnb := Lib.hid hnb
      replace hw3 := Lib.hid hw3
      go_region_held3 (fun w' => w'.cell? ⟨nb, 0, none⟩ = some (.int .i64 (fInt re)) ∧ w'.cell? ⟨nb, 1, none⟩ = some (.int .i64 (fInt im)) ∧ w'.cell? ⟨lb, 0, none⟩ = some (.int .i64 a) ∧ w'.cell? ⟨lb, 1, none⟩ = some (.int .i64 b))
        (first | exact HS5.out | exact HS4.out | exact ⟨q1, q2, q5, q6⟩)
        (first
          | (go_at_call 49; refine Calls.mono (groups_any (fun k => k ≠ nb ∧ k ≠ lb) v4 (acc ++ vari 6 (zig (fInt re - a))) (fInt im - b) w w4 HB4.out HR4.out HA2.out HD.out.2.1 HD.out.2.2) ?_; rintro e w5 ⟨v5, rfl, hr5, hb5, hk5⟩; have HR5 := Lib.hid (R_true hr5); have HB5 := Lib.hid hb5; have HK5 := Lib.hid hk5; have HS5 := Lib.hid (show w5.cell? ⟨nb, 0, none⟩ = some (.int .i64 (fInt re)) ∧ w5.cell? ⟨nb, 1, none⟩ = some (.int .i64 (fInt im)) ∧ w5.cell? ⟨lb, 0, none⟩ = some (.int .i64 a) ∧ w5.cell? ⟨lb, 1, none⟩ = some (.int .i64 b) from ⟨cell_kept HS4.out.1 HK5.out (fun h => h.1 rfl), cell_kept HS4.out.2.1 HK5.out (fun h => h.1 rfl), cell_kept HS4.out.2.2.1 HK5.out (fun h => h.2 rfl), cell_kept HS4.out.2.2.2 HK5.out (fun h => h.2 rfl)⟩); clear hr5 hb5 hk5)
          | (go_at_call 49; refine Calls.mono (groups_any (fun k => k ≠ nb ∧ k ≠ lb) u5 acc (fInt re - a) w w3.drew (below_drewN HB3.out 1) (Kd.R_drew HR3.out) HA1.out HD.out.1.1 HD.out.1.2) ?_; rintro e w4 ⟨v4, rfl, hr4, hb4, hk4⟩; have HR4 := Lib.hid (R_out2 hr4 HLT.out.1 HLT.out.2); have HB4 := Lib.hid hb4; have HK4 := Lib.hid (show Kept w3 w4 (fun k => k ≠ nb ∧ k ≠ lb) from hk4); have HS4 := Lib.hid (show w4.cell? ⟨nb, 0, none⟩ = some (.int .i64 (fInt re)) ∧ w4.cell? ⟨nb, 1, none⟩ = some (.int .i64 (fInt im)) ∧ w4.cell? ⟨lb, 0, none⟩ = some (.int .i64 a) ∧ w4.cell? ⟨lb, 1, none⟩ = some (.int .i64 b) from ⟨cell_kept q1 HK4.out (fun h => h.1 rfl), cell_kept q2 HK4.out (fun h => h.1 rfl), cell_kept q5 HK4.out (fun h => h.2 rfl), cell_kept q6 HK4.out (fun h => h.2 rfl)⟩); clear hr4 hb4 hk4))
      have HNB5 := Lib.hid (blk_kept (blk_kept HNB.out HK4.out (fun h => h.1 rfl)) HK5.out (fun h => h.1 rfl))
      have HLB5 := Lib.hid (blk_kept (blk_kept HLB.out HK4.out (fun h => h.2 rfl)) HK5.out (fun h => h.2 rfl))
      clear q1 q2 q5 q6
      rename_i hHeld
      clear hHeld hc1 hc2 hd1 hd2 hf1 hf2 hcell
      have hi1 : wrap64 ((i : Int) + 1) = ((i + 1 : Nat) : Int) := wrap64_id (by omega) (by omega)
      have HG := Lib.hid (show w.heap.size ≤ lb by rw [hlb.out]; omega)
      go_wp2_with (first
        | ((with_reducible refine gate_dst (N := 80) rfl ?_); refine load_pair rfl (.tmp 11) rfl (g := nb) ?hx (u := .int .i64 (fInt re)) (v := .int .i64 (fInt im)) HNB5.out ?_; (case hx => go_simp))
        | ((with_reducible refine gate_store (t := 47) (p := 6) rfl ?_); refine store_pair rfl rfl (.tmp 6) (.tmp 80) rfl (g := lb) ?hp (u := fInt re) (v := fInt im) ?hv HLB5.out ?_; (case hp => go_simp); (case hv => go_simp); intro w6 hh6 hk6 hb6; have HL6 := Lib.hid hh6; have HK6 := Lib.hid hk6; have HB6 := Lib.hid (HB5.out.trans (hb6.mono HG.out)); clear hh6 hk6 hb6))
      have hlb' := hlb.out
      subst hlb'
      go_roundg (gk - 1)
      case measure => have := hk.out; omega
      case rel =>
        refine ⟨i + 1, acc ++ vari 6 (zig (fInt re - a)) ++ vari 6 (zig (fInt im - b)), fInt re, fInt im, by simp, Lib.hid (by have := hk.out; omega), Lib.hid (by omega), HB6, Lib.hid ?_, HL6, HM, Lib.hid ?_, Lib.hid hsome.out.symm⟩
        · exact R_true (Kd.R_kept (R_off HR5.out HLB5.out HLB5.out) HK6.out (fun k hk => hk.1))
        · have := ha.out; have := vari_length 6 (zig (fInt re - a)); have := vari_length 6 (zig (fInt im - b)); rw [List.length_append, List.length_append]; omega
    · have hlt' : ¬ (i : Int) < (l.length : Int) := by omega
      have hie : i = l.length := by have := hi.out; omega
      have hfin := Lib.hid (show encL 2 (0, 0) l [2, N] = some acc by rw [← he.out, hie, List.drop_length, encL])
      go_wp2
      go_ret
      exact ⟨_, rfl, hb.out, .some_ hfin.out hr.out⟩
end Go.Proofs.Ytomildjihlbbmaa
