/-
  The reader: take and difference.
-/
import Derived.Test.YtomildjihlbbmaaBy
import Derived.Lib.Bytes
namespace Go.Proofs.Ytomildjihlbbmaa
open Go.RowKit Flt Num Go.Proofs.YtomildjihlbbmaaW.PrintWords Go.Proofs.YtomildjihlbbmaaW.PrintLast Go.Proofs.YtomildjihlbbmaaW.PrintMore Go.Proofs.Ytomildjihlbbmaa.PPackUnpacks
set_option linter.unusedVariables false

/-- the reader's block: the bytes that are left, and whether they have ended too early -/
def Rd (w : World) (rb : Nat) (st : List Int × Bool) : Prop :=
  ∃ A c, w.heap[rb]? = some (.cells #[.slice A st.1.length c, .bool st.2] 45) ∧ kb.C w A st.1.length st.1 ∧ st.1.length ≤ c ∧ (∀ ad, A = some ad → 0 < st.1.length → ad.block < rb)
theorem add_block (a : Addr) (j : Nat) : (a.add j).block = a.block := by unfold Addr.add; split <;> rfl
theorem C_to {W W' : World} {A : Option Addr} {n : Nat} {xs : List Int} {S : Nat → Prop} (h : kb.C W A n xs) (hk : Kept W W' S) (hf : ∀ ad, A = some ad → 0 < n → ¬ S ad.block) : kb.C W' A n xs := by
  refine Kd.C_of_reads (enc := Value.int .u8) (d := (0 : Int)) (h1 := fun _ => rfl) ?_
  have hr := Kd.reads_of_C (enc := Value.int .u8) (d := (0 : Int)) (h1 := fun _ => rfl) h
  refine ⟨hr.1, hr.2.1, fun hp => ?_⟩
  obtain ⟨ad, e, hc⟩ := hr.2.2 hp
  refine ⟨ad, e, fun j hj => cell_kept (hc j hj) hk ?_⟩
  rw [add_block]
  exact hf ad e hp
theorem Rd.keep {w w' : World} {rb : Nat} {st : List Int × Bool} {S : Nat → Prop} (h : Rd w rb st) (hk : Kept w w' S) (hS : ∀ k, S k → rb < k) : Rd w' rb st := by
  obtain ⟨A, c, h1, h2, h3, h4⟩ := h
  refine ⟨A, c, blk_kept h1 hk (fun h => by have := hS _ h; omega), C_to h2 hk (fun ad e hp h => ?_), h3, h4⟩
  have := hS _ h
  have := h4 ad e hp
  omega

set_option maxHeartbeats 4000000 in
set_option maxRecDepth 100000 in
theorem take_ok (n : Nat) (rb : Nat) (A : Option Addr) (c : Nat) (bs : List Int) (s : Bool) (w : World) (hn : n ≤ bs.length) (hc : bs.length ≤ c) (hmax : bs.length ≤ 9223372036854775807) (hb : w.heap[rb]? = some (.cells #[.slice A bs.length c, .bool s] 45)) :
    Calls Try.prog 18 #[.pointer (some ⟨rb, 0, none⟩), .int .i64 n] w fun e w' => e = .returned (.slice A n c) ∧ w' = w.setCell ⟨rb, 0, none⟩ (.slice (if c = n then A else A.map (·.add n)) (bs.length - n) (c - n)) := by
  obtain ⟨x1, x2, x3, x4⟩ := two_cells hb
  clear hb
  have h1 : ¬ (bs.length : Int) < (n : Int) := by omega
  have h2 : (0 : Int) ≤ (n : Int) := by omega
  have h3 : (n : Int) ≤ (bs.length : Int) := by omega
  have h4 : (n : Int) ≤ (c : Int) := by omega
  go_enter Try.func18, Try.ntmps18
  go_wp2_with fail
  all_goals go_ret
  all_goals exact ⟨rfl, rfl⟩
theorem set_two_eq {w : World} {g t : Nat} {a b c d : Value} (h : w.heap[g]? = some (.cells #[a, b] t (0, 0))) : (w.setCell ⟨g, 0, none⟩ c).setCell ⟨g, 1, none⟩ d = w.setRow g #[c, d] := by
  rw [setCell_eq_setRow w g 0 _ t (0, 0) _ h, setCell_eq_setRow _ g 1 _ t (0, 0) _ (setRow_heap w g _ _ t (0, 0) h), setRow_setRow]
  rfl
theorem set_two_heap {w : World} {g t : Nat} {a b c d : Value} (h : w.heap[g]? = some (.cells #[a, b] t (0, 0))) : ((w.setCell ⟨g, 0, none⟩ c).setCell ⟨g, 1, none⟩ d).heap[g]? = some (.cells #[c, d] t (0, 0)) := by
  rw [set_two_eq h]; exact setRow_heap w g _ _ t (0, 0) h
theorem set_two_kept {w : World} {g t : Nat} {a b c d : Value} (h : w.heap[g]? = some (.cells #[a, b] t (0, 0))) : Kept w ((w.setCell ⟨g, 0, none⟩ c).setCell ⟨g, 1, none⟩ d) (fun k => k = g) := by
  rw [set_two_eq h]; exact ⟨by simp, fun i _ hn => setRow_other w g i _ hn⟩
theorem set_two_size {w : World} {g t : Nat} {a b c d : Value} (h : w.heap[g]? = some (.cells #[a, b] t (0, 0))) : ((w.setCell ⟨g, 0, none⟩ c).setCell ⟨g, 1, none⟩ d).heap.size = w.heap.size := by
  rw [set_two_eq h]; simp
theorem set_two_below {w : World} {g t : Nat} {a b c d : Value} (h : w.heap[g]? = some (.cells #[a, b] t (0, 0))) : Below g w ((w.setCell ⟨g, 0, none⟩ c).setCell ⟨g, 1, none⟩ d) := by
  rw [set_two_eq h]; exact ⟨rfl, rfl, rfl, by simp, fun k hk => setRow_other w g k _ (by omega)⟩
theorem drop_block {A : Option Addr} {c n L rb : Nat} {h4 : ∀ ad, A = some ad → 0 < L → ad.block < rb} {ad : Addr} (e : (if c = n then A else A.map (·.add n)) = some ad) (hp : 0 < L) : ad.block < rb := by
  split at e
  · exact h4 ad e hp
  · cases A with
    | none => cases e
    | some a0 =>
      have : a0.add n = ad := by simpa using e
      rw [← this, add_block]
      exact h4 a0 rfl hp
theorem mkb (n : Nat) (hn : n = 1 ∨ n = 2 ∨ n = 4 ∨ n = 8) (w : World) : (Instr.makeSlice 22 (.int .i64 n) (.int .i64 n)).run Try.prog w = .ok (.slice (some ⟨w.heap.size, 0, none⟩) n n) (w.alloc (.cells (nums .u8 (List.replicate n 0)).toArray 5)) := by
  rcases hn with rfl | rfl | rfl | rfl <;> kernel_rfl

set_option maxHeartbeats 4000000 in
set_option maxRecDepth 100000 in
theorem take_short (n : Nat) (h8 : n = 1 ∨ n = 2 ∨ n = 4 ∨ n = 8) (rb : Nat) (A : Option Addr) (c : Nat) (bs : List Int) (s : Bool) (w : World) (hn : bs.length < n) (hb : w.heap[rb]? = some (.cells #[.slice A bs.length c, .bool s] 45)) :
    Calls Try.prog 18 #[.pointer (some ⟨rb, 0, none⟩), .int .i64 n] w fun e w' => e = .returned (.slice (some ⟨w.heap.size, 0, none⟩) n n) ∧ ∃ w1 : World, w1.heap[rb]? = some (.cells #[.slice none 0 0, .bool true] 45) ∧ Kept w w1 (fun k => k = rb) ∧ w1.heap.size = w.heap.size ∧ Below rb w w1 ∧ w' = w1.alloc (.cells (nums .u8 (List.replicate n 0)).toArray 5) := by
  obtain ⟨x1, x2, x3, x4⟩ := two_cells hb
  have HH := Lib.hid hb
  clear hb
  have h1 : (bs.length : Int) < (n : Int) := by omega
  have hmk := mkb n h8
  clear h8
  go_enter Try.func18, Try.ntmps18
  go_wp2_with fail
  go_ret
  exact ⟨rfl, _, set_two_heap HH.out, set_two_kept HH.out, set_two_size HH.out, set_two_below HH.out, rfl⟩
/-- what take leaves -/
theorem take_any (n : Nat) (h8 : n = 1 ∨ n = 2 ∨ n = 4 ∨ n = 8) (rb : Nat) (st : List Int × Bool) (w : World) (h : Rd w rb st) :
    Calls Try.prog 18 #[.pointer (some ⟨rb, 0, none⟩), .int .i64 n] w fun e w' => ∃ A c, e = .returned (.slice A n c) ∧ n ≤ c ∧ kb.C w' A n (takeP n st).1 ∧ Rd w' rb (takeP n st).2 ∧ Kept w w' (fun k => k = rb) ∧ Below rb w w' := by
  obtain ⟨A, c, h1, h2, h3, h4⟩ := h
  obtain ⟨bs, s⟩ := st
  dsimp only at h1 h2 h3 h4
  by_cases hn : bs.length < n
  · refine (take_short n h8 rb A c bs s w hn h1).mono ?_
    rintro e w' ⟨rfl, w1, k1, k2, k3, k4, rfl⟩
    have e1 : takeP n (bs, s) = (List.replicate n 0, ([], true)) := by unfold takeP; rw [if_pos hn]
    rw [e1]
    refine ⟨_, _, rfl, Nat.le_refl _, ?_, ?_, k2.alloc _, ?_⟩
    · have hr := lit_R w1 (List.replicate n 0) 0 (Nat.zero_le _) (by simp; omega)
      have hx := (Kd.R_reads' hr).2.2
      rw [List.length_replicate, k3] at hx
      exact hx
    · refine ⟨none, 0, ?_, Kd.C_nil _ _, Nat.le_refl _, fun ad e => by cases e⟩
      rw [Below.heap_alloc _ _ _ (blk_lt k1)]; exact k1
    · exact k4.alloc (by rw [k3]; exact Nat.le_of_lt (blk_lt h1)) _
  · refine (take_ok n rb A c bs s w (by omega) h3 (Kd.C_max h2) h1).mono ?_
    rintro e w' ⟨rfl, rfl⟩
    have e1 : takeP n (bs, s) = (bs.take n, (bs.drop n, s)) := by unfold takeP; rw [if_neg hn]
    rw [e1]
    have hk : Kept w (w.setCell ⟨rb, 0, none⟩ (.slice (if c = n then A else A.map (·.add n)) (bs.length - n) (c - n))) (fun k => k = rb) := Kept.setCell (S := fun k => k = rb) (p := ⟨rb, 0, none⟩) (Kept.refl w _) (.inl rfl) _
    have ht := Kd.C_take h2 (m := n) (by omega)
    have hl : (bs.take n).length = n := by rw [List.length_take]; omega
    rw [hl] at ht
    have hd := Kd.C_drop h2 (m := n) (by omega) h3
    simp only [show kb.sz = 1 from rfl, Nat.mul_one] at hd
    refine ⟨_, _, rfl, by omega, C_to ht hk (fun ad e hp h => by have := h4 ad e (by omega); omega), ?_, hk, (Below.refl rb w).setCell (Nat.le_refl _) _⟩
    refine ⟨_, c - n, ?_, C_to hd hk (fun ad e hp h => ?_), by rw [List.length_drop]; omega, fun ad e hp => ?_⟩
    · rw [setCell_eq_setRow w rb 0 _ 45 (0, 0) _ h1, setRow_heap w rb _ _ 45 (0, 0) h1]
      rw [List.length_drop]
      rfl
    · have := drop_block (h4 := h4) e (by rw [List.length_drop] at hp; omega)
      omega
    · exact drop_block (h4 := h4) e (by rw [List.length_drop] at hp; omega)

theorem grp_word (v k cc : Nat) (hv : v < 2 ^ (7 * k)) (hk : k < 6) (hc : cc < 256) :
    bits .or .u64 (v : Int) (IntKind.u64.wrap (IntKind.u64.wrap (bits .and .u8 (cc : Int) 127) * 2 ^ (7 * k))) = ((v + cc % 128 * 2 ^ (7 * k) : Nat) : Int) := by
  have hp : 2 ^ (7 * k) ≤ 2 ^ 35 := Nat.pow_le_pow_right (by omega) (by omega)
  have h1 : bits .and .u8 (cc : Int) 127 = ((cc % 128 : Nat) : Int) := by
    rw [show (127 : Int) = ((127 : Nat) : Int) from rfl, u8_and_nat _ _ hc (by omega), nat_mask7]
  have hx : cc % 128 * 2 ^ (7 * k) ≤ 127 * 2 ^ (7 * k) := Nat.mul_le_mul_right _ (by omega)
  have h2 : IntKind.u64.wrap ((cc % 128 : Nat) : Int) = ((cc % 128 : Nat) : Int) := by simp [IntKind.wrap, IntKind.bits, IntKind.signed]; omega
  have h3 : ((cc % 128 : Nat) : Int) * 2 ^ (7 * k) = ((cc % 128 * 2 ^ (7 * k) : Nat) : Int) := by rw [Int.natCast_mul, Int.natCast_pow]; rfl
  have h4 : IntKind.u64.wrap ((cc % 128 * 2 ^ (7 * k) : Nat) : Int) = ((cc % 128 * 2 ^ (7 * k) : Nat) : Int) := by
    generalize cc % 128 * 2 ^ (7 * k) = y at *
    simp [IntKind.wrap, IntKind.bits, IntKind.signed]; omega
  rw [h1, h2, h3, h4, u64_or_nat _ _ (by omega) (by omega), Nat.or_comm, nat_join (7 * k) _ _ (Nat.mul_mod_left _ _) hv, Nat.add_comm]
theorem unz_word (v : Nat) (h : v < 2 ^ 42) : bits .xor .i64 (wrap64 ((v : Int) / 2)) (wrap64 (-wrap64 (bits .and .u64 (v : Int) 1))) = unzig v := by
  have h1 : bits .and .u64 (v : Int) 1 = ((v % 2 : Nat) : Int) := by
    rw [show (1 : Int) = ((1 : Nat) : Int) from rfl, u64_and_nat _ _ (by omega) (by omega), nat_mask1]
  rw [h1, wrap64_id (n := ((v % 2 : Nat) : Int)) (by omega) (by omega), wrap64_id (n := -((v % 2 : Nat) : Int)) (by omega) (by omega), wrap64_id (by omega) (by omega), show (v : Int) / 2 = ((v / 2 : Nat) : Int) from by omega]
  show IntKind.i64.wrap ((BitVec.ofInt 64 ((v / 2 : Nat) : Int) ^^^ BitVec.ofInt 64 (-((v % 2 : Nat) : Int))).toNat : Int) = _
  unfold unzig
  obtain h2 | h2 : v % 2 = 0 ∨ v % 2 = 1 := by omega
  · rw [h2, if_neg (by omega), BitVec.toNat_xor, ofInt_u64 (v / 2) (by omega), show (BitVec.ofInt 64 (-((0 : Nat) : Int))).toNat = 0 from by decide, Nat.xor_zero, i64_w, wrap64_id (by omega) (by omega)]
  · rw [h2, if_pos rfl, BitVec.toNat_xor, ofInt_u64 (v / 2) (by omega), show (BitVec.ofInt 64 (-((1 : Nat) : Int))).toNat = 2 ^ 64 - 1 from by decide, xor_ones _ (by omega), i64_w]
    unfold wrap64; omega
theorem difP_bound : ∀ (j k v : Nat) (st : List Int × Bool), v < 2 ^ (7 * k) → (difP j k v st).1 < 2 ^ (7 * (k + j))
  | 0, k, v, st, h => h
  | j + 1, k, v, st, h => by
    have hs : v + ((takeP 1 st).1.getD 0 0).toNat % 128 * 2 ^ (7 * k) < 2 ^ (7 * (k + 1)) := by
      rw [pow7]
      have : ((takeP 1 st).1.getD 0 0).toNat % 128 ≤ 127 := by omega
      have := Nat.mul_le_mul_right (2 ^ (7 * k)) this
      omega
    rw [difP]
    split
    · exact Nat.lt_of_lt_of_le hs (Nat.pow_le_pow_right (by omega) (by omega))
    · have := difP_bound j (k + 1) _ (takeP 1 st).2 hs
      rwa [show k + 1 + j = k + (j + 1) from by omega] at this

set_option maxHeartbeats 4000000 in
set_option maxRecDepth 100000 in
theorem difference_any (rb : Nat) (st : List Int × Bool) (w : World) (h : Rd w rb st) (hB : Bytes st.1) :
    Calls Try.prog 23 #[.pointer (some ⟨rb, 0, none⟩)] w fun e w' => e = .returned (.int .i64 (unzig (difP 6 0 0 st).1)) ∧ Rd w' rb (difP 6 0 0 st).2 ∧ Bytes (difP 6 0 0 st).2.1 ∧ Kept w w' (fun k => k = rb) ∧ Below rb w w' := by
  have HRD := Lib.hid h
  have HB := Lib.hid hB
  clear h hB
  go_enter Try.func23, Try.ntmps23
  go_wp2_with fail
  go_loopg [3, 6] 7 (fun gk v3 v6 wr => ∃ (v k : Nat) (st' : List Int × Bool), v3 = .int .u64 (v : Int) ∧ v6 = .int .i64 (k : Int) ∧ Hid (k + gk = 7) ∧ Hid (k ≤ 6) ∧ Hid (v < 2 ^ (7 * k)) ∧ Hid (Rd wr rb st') ∧ Hid (Bytes st'.1) ∧ Hid (difP (6 - k) k v st' = difP 6 0 0 st) ∧ Hid (Kept w wr (fun k => k = rb)) ∧ Hid (Below rb w wr))
  case atStart => exact ⟨0, 0, st, rfl, rfl, Lib.hid rfl, Lib.hid (by decide), Lib.hid (by decide), HRD, HB, Lib.hid rfl, Lib.hid (Kept.refl _ _), Lib.hid (Below.refl _ _)⟩
  case round =>
    obtain ⟨v, k, st', rfl, rfl, hg, hk, hv, hrd, hby, hd, hkp, hbl⟩ := hrel
    by_cases hlt : k < 6
    · have hlt' : (k : Int) < 6 := by omega
      have hnn : (0 : Int) ≤ (k : Int) := by omega
      go_wp2_with fail
      refine (take_any 1 (.inl rfl) rb st' _ hrd.out).mono ?_
      rintro e w1 ⟨A, c, rfl, hc, hC, hrd1, hk1, hb1⟩
      obtain ⟨ad, rfl, hcell⟩ := Kd.at_int hC 0 (by decide) (by decide)
      have hbt := takeP_bytes (n := 1) hby.out
      have hln := takeP_length 1 st'
      have hc0 : 0 ≤ (takeP 1 st').1.getD 0 0 ∧ (takeP 1 st').1.getD 0 0 < 256 := by rw [getD_lt (by omega)]; exact hbt.1 _ (List.getElem_mem _)
      have HD := Lib.hid (hd.out.symm.trans (by rw [show 6 - k = (5 - k) + 1 from by omega, difP]))
      have HBY := Lib.hid hbt.2
      have hcell' : w1.cell? (ad.add 0) = some (.int .u8 ((takeP 1 st').1.getD 0 0)) := hcell
      have e0 : ad.add 0 = ad := by simp [Addr.add]
      rw [e0] at hcell'
      obtain ⟨cc, hcc⟩ : ∃ cc : Nat, (takeP 1 st').1.getD 0 0 = (cc : Int) := ⟨((takeP 1 st').1.getD 0 0).toNat, by omega⟩
      rw [hcc] at HD hcell' hc0
      have HRD1 := Lib.hid hrd1
      have HK1 := Lib.hid (hkp.out.then_ hk1 (fun k hk => .inl hk))
      have HB1 := Lib.hid (hbl.out.trans hb1)
      clear hcell hbt hln hrd1 hk1 hb1 hC hcc e0 hd hrd
      have hcb : cc < 256 := by omega
      have hw := grp_word v k cc hv.out hlt hcb
      have hv42 : v + cc % 128 * 2 ^ (7 * k) < 2 ^ (7 * (k + 1)) := by
        rw [pow7]
        have : cc % 128 * 2 ^ (7 * k) ≤ 127 * 2 ^ (7 * k) := Nat.mul_le_mul_right _ (by omega)
        have := hv.out
        omega
      rw [Int.toNat_natCast] at HD
      obtain ⟨v', hv'⟩ : ∃ v' : Nat, v + cc % 128 * 2 ^ (7 * k) = v' := ⟨_, rfl⟩
      rw [hv'] at hw hv42 HD
      have HV42 := Lib.hid hv42
      have hk1 : wrap64 ((k : Int) + 1) = ((k + 1 : Nat) : Int) := wrap64_id (by omega) (by omega)
      have hun := unz_word v' (Nat.lt_of_lt_of_le hv42 (Nat.pow_le_pow_right (by omega) (by omega)))
      clear hv' hv42
      by_cases h128 : cc < 128
      · have h128' : (cc : Int) < 128 := by omega
        rw [if_pos h128'] at HD
        go_wp2_with fail
        go_ret
        rw [HD.out]
        exact ⟨rfl, HRD1.out, HBY.out, HK1.out, HB1.out⟩
      · have h128' : ¬ (cc : Int) < 128 := by omega
        rw [if_neg h128'] at HD
        go_wp2_with fail
        go_roundg (gk - 1)
        case measure => have := hg.out; omega
        case rel => exact ⟨v', k + 1, (takeP 1 st').2, rfl, by simp, Lib.hid (by have := hg.out; omega), Lib.hid (by omega), HV42, HRD1, HBY, Lib.hid (by rw [HD.out]; congr 1; omega), HK1, HB1⟩
    · have hlt' : ¬ (k : Int) < 6 := by omega
      have hk6 : k = 6 := by have := hk.out; omega
      have hun := unz_word v (Nat.lt_of_lt_of_le hv.out (Nat.pow_le_pow_right (by omega) (by omega)))
      have HD := Lib.hid (hd.out.symm.trans (by rw [show 6 - k = 0 from by omega, difP]))
      clear hk6
      go_wp2_with fail
      go_ret
      rw [HD.out]
      exact ⟨rfl, hrd.out, hby.out, hkp.out, hbl.out⟩
end Go.Proofs.Ytomildjihlbbmaa

/-
  group, in plain form.
-/
namespace Go.Proofs.Ytomildjihlbbmaa
open Go.RowKit Flt Num Go.Proofs.YtomildjihlbbmaaW.PrintWords Go.Proofs.YtomildjihlbbmaaW.PrintLast Go.Proofs.YtomildjihlbbmaaW.PrintMore Go.Proofs.Ytomildjihlbbmaa.PPackUnpacks
set_option linter.unusedVariables false
theorem unz_ref (v : Nat) (h : v < 2 ^ 42) (i : Int) : (if Int.tmod (v : Int) 2 = 1 then some (wrap64 ((wrap64 (-(wrap64 (IntKind.u64.wrap (Int.tdiv (v : Int) 2))))) - 1), i) else some (wrap64 (IntKind.u64.wrap (Int.tdiv (v : Int) 2)), i)) = some (unzig v, i) := by
  have h1 : Int.tmod (v : Int) 2 = ((v % 2 : Nat) : Int) := rfl
  have h2 : Int.tdiv (v : Int) 2 = ((v / 2 : Nat) : Int) := rfl
  have h3 : IntKind.u64.wrap ((v / 2 : Nat) : Int) = ((v / 2 : Nat) : Int) := by
    generalize hy : v / 2 = y
    simp [IntKind.wrap, IntKind.bits, IntKind.signed]; omega
  rw [h1, h2, h3, wrap64_id (n := ((v / 2 : Nat) : Int)) (by omega) (by omega), wrap64_id (n := -((v / 2 : Nat) : Int)) (by omega) (by omega), wrap64_id (by omega) (by omega)]
  unfold unzig
  by_cases hv : v % 2 = 1
  · rw [if_pos (by omega), if_pos hv]
  · rw [if_neg (by omega), if_neg hv]
theorem shl_word (v k : Nat) (x : Int) (hv : v < 2 ^ (7 * k)) (hk : k < 6) (h0 : 0 ≤ x) (h1 : x < 256) :
    bits .or .u64 (v : Int) (shl .u64 (IntKind.u64.wrap (bits .and .u8 x 127)) (wrap64 (7 * (k : Int)))) = ((v + x.toNat % 128 * 2 ^ (7 * k) : Nat) : Int) := by
  obtain ⟨cc, rfl⟩ := Int.eq_ofNat_of_zero_le h0
  rw [Int.toNat_natCast, ← grp_word v k cc hv hk (by omega), wrap64_id (by omega) (by omega)]
  unfold shl
  rw [show min (7 * (k : Int)).toNat IntKind.u64.bits = 7 * k from by (show min (7 * (k : Int)).toNat 64 = 7 * k); omega]
theorem group_l (l : List Int) (hb : Bytes l) : ∀ (j k v i K : Nat), k + j = 6 → v < 2 ^ (7 * k) → i + j < 2 ^ 41 → 2 * j + 2 ≤ K →
    penumbraref21_group.l0 K l i v k = some (unzig (grpR l j k v i).1, ((grpR l j k v i).2 : Int))
  | 0, k, v, i, K, hk, hv, hi, hK => by
    obtain ⟨K, rfl⟩ : ∃ K', K = K' + 1 + 1 := ⟨K - 2, by omega⟩
    rw [penumbraref21_group.l0, if_neg (by omega), penumbraref21_group.j1, if_neg (by decide), grpR]
    exact unz_ref v (Nat.lt_of_lt_of_le hv (Nat.pow_le_pow_right (by omega) (by omega))) _
  | j + 1, k, v, i, K, hk, hv, hi, hK => by
    obtain ⟨K, rfl⟩ : ∃ K', K = K' + 1 + 1 := ⟨K - 2, by omega⟩
    rw [penumbraref21_group.l0, if_pos (by omega), penumbraref21_group.j1, grpR]
    by_cases hl : i < l.length
    · have hc := rd_bytes hb hl
      have hg : rd l (i : Int) = l.getD i 0 := rfl
      rw [if_pos (by simpa using hl), if_pos hl, if_pos (by omega), if_pos (by omega), wrap64_id (n := 7 * (k : Int)) (by omega) (by omega), if_pos (by omega), wrap64_id (n := (i : Int) + 1) (by omega) (by omega), show (i : Int) + 1 - 1 = (i : Int) from by omega, wrap64_id (n := (i : Int)) (by omega) (by omega), if_pos (by omega), if_pos (by omega)]
      have hw := shl_word v k (rd l (i : Int)) hv (by omega) hc.1 hc.2
      rw [wrap64_id (n := 7 * (k : Int)) (by omega) (by omega)] at hw
      rw [hw, hg]
      have hs : v + (l.getD i 0).toNat % 128 * 2 ^ (7 * k) < 2 ^ (7 * (k + 1)) := by
        rw [pow7]
        have : (l.getD i 0).toNat % 128 * 2 ^ (7 * k) ≤ 127 * 2 ^ (7 * k) := Nat.mul_le_mul_right _ (by omega)
        omega
      by_cases h128 : l.getD i 0 < 128
      · rw [if_pos h128, if_pos h128]
        exact unz_ref _ (Nat.lt_of_lt_of_le hs (Nat.pow_le_pow_right (by omega) (by omega))) _
      · rw [if_neg h128, if_neg h128, wrap64_id (n := (k : Int) + 1) (by omega) (by omega)]
        exact group_l l hb j (k + 1) _ (i + 1) K (by omega) hs (by omega) (by omega)
    · rw [if_neg (by simpa using hl), if_neg hl]
      exact unz_ref v (Nat.lt_of_lt_of_le hv (Nat.pow_le_pow_right (by omega) (by omega))) _
theorem group_f (l : List Int) (hb : Bytes l) (i : Nat) (hi : i < 2 ^ 40) : penumbraref21_group.f 14 l i = some (unzig (grpR l 6 0 0 i).1, ((grpR l 6 0 0 i).2 : Int)) :=
  group_l l hb 6 0 0 i 14 rfl (by decide) (by omega) (by decide)
end Go.Proofs.Ytomildjihlbbmaa

/-
  SameBits of equal fields.
-/
namespace Go.Proofs.Ytomildjihlbbmaa
open Go.RowKit Flt Num Go.Proofs.YtomildjihlbbmaaW.PrintWords Go.Proofs.YtomildjihlbbmaaW.PrintLast Go.Proofs.YtomildjihlbbmaaW.PrintMore Go.Proofs.Ytomildjihlbbmaa.PPackUnpacks
set_option linter.unusedVariables false
attribute [local go_sem] run_f64bits run_f64from run_f32bits run_f32from
theorem kept_drewN {w W : World} {S : Nat → Prop} (h : Kept w W S) (n : Nat) : Kept w (W.drewN n) S := h

set_option maxHeartbeats 4000000 in
set_option maxRecDepth 100000 in
theorem sameBits_any (N : Int) (A B : Option Addr) (c d : Nat) (l : List (Nat × Nat)) (w : World) (hA : kc.C w A l.length l) (hB : kc.C w B l.length l) :
    Calls Try.prog 8 #[.agg #[.int .i64 N, .slice A l.length c], .agg #[.int .i64 N, .slice B l.length d]] w fun e w' => e = .returned (.bool true) ∧ Below w.heap.size w w' := by
  have HA := Lib.hid hA
  have HB := Lib.hid hB
  have hmax : (l.length : Int) ≤ 9223372036854775807 := by have := Kd.C_max hA; omega
  clear hA hB
  go_enter Try.func8, Try.ntmps8
  go_wp2_with fail
  obtain ⟨w1, hw1⟩ : ∃ w1 : World, w1 = (w.alloc (.cells #[.int .i64 N, .slice A l.length c] 26)).alloc (.cells #[.int .i64 N, .slice B l.length d] 26) := ⟨_, rfl⟩
  rw [← hw1]
  have HBL := Lib.hid (show Below w.heap.size w w1 by rw [hw1]; exact below_alloc (below_alloc (Below.refl _ _) _) _)
  have HX := Lib.hid (show w1.heap[w.heap.size]? = some (.cells #[.int .i64 N, .slice A l.length c] 26) by rw [hw1]; exact heap_alloc2_old w _ _)
  have HY := Lib.hid (show w1.heap[w.heap.size + 1]? = some (.cells #[.int .i64 N, .slice B l.length d] 26) by rw [hw1]; exact heap_alloc2_new w _ _)
  clear hw1
  go_loopg [5] (l.length + 1) (fun gk v5 wr => ∃ (i : Nat), v5 = .int .i64 (i : Int) ∧ Hid (i + gk = l.length + 1) ∧ Hid (i ≤ l.length) ∧ Hid (Below w.heap.size w wr) ∧ Hid (wr.heap[w.heap.size]? = some (.cells #[.int .i64 N, .slice A l.length c] 26)) ∧ Hid (wr.heap[w.heap.size + 1]? = some (.cells #[.int .i64 N, .slice B l.length d] 26)))
  case atStart => exact ⟨0, rfl, Lib.hid (by omega), Lib.hid (by omega), HBL, HX, HY⟩
  case round =>
    obtain ⟨i, rfl, hk, hi, hb, hx, hy⟩ := hrel
    obtain ⟨x1, x2, x3, x4⟩ := two_cells hx.out
    obtain ⟨y1, y2, y3, y4⟩ := two_cells hy.out
    by_cases hlt : i < l.length
    · have hlt' : (i : Int) < (l.length : Int) := by omega
      have hnn : (0 : Int) ≤ (i : Int) := by omega
      obtain ⟨ad, rfl, hcell⟩ := at_kc (Kd.C_below HA.out hb.out) i hlt
      obtain ⟨bd, rfl, hcell2⟩ := at_kc (Kd.C_below HB.out hb.out) i hlt
      obtain ⟨⟨re, im⟩, hre⟩ : ∃ v : Nat × Nat, v = l.getD i (0, 0) := ⟨_, rfl⟩
      rw [← hre] at hcell hcell2
      clear hre
      dsimp only at hcell hcell2
      have hi1 : wrap64 ((i : Int) + 1) = ((i + 1 : Nat) : Int) := wrap64_id (by omega) (by omega)
      go_wp2_with fail
      go_quiet (fail)
      go_wp2_with fail
      go_roundg (gk - 1)
      case measure => have := hk.out; omega
      case rel => exact ⟨i + 1, by simp, Lib.hid (by have := hk.out; omega), Lib.hid (by omega), Lib.hid (below_drewN hb.out _), hx, hy⟩
    · have hlt' : ¬ (i : Int) < (l.length : Int) := by omega
      go_wp2
      go_ret
      exact ⟨rfl, hb.out⟩
end Go.Proofs.Ytomildjihlbbmaa

/-
  Strings of bytes; the bytes that are written are bytes.
-/
namespace Go.Proofs.Ytomildjihlbbmaa
open Go.RowKit Flt Num Go.Proofs.YtomildjihlbbmaaW.PrintWords Go.Proofs.YtomildjihlbbmaaW.PrintLast Go.Proofs.YtomildjihlbbmaaW.PrintMore Go.Proofs.Ytomildjihlbbmaa.PPackUnpacks
set_option linter.unusedVariables false
theorem byte_back {c : Int} (h : 0 ≤ c ∧ c < 256) : ((UInt8.ofNat c.toNat).toNat : Int) = c := by
  rw [UInt8.toNat_ofNat']; omega
theorem str_inj {l m : List Int} (hl : Bytes l) (hm : Bytes m) (h : strOfNums l = strOfNums m) : l = m := by
  have h2 : (l.map fun n => UInt8.ofNat n.toNat) = m.map fun n => UInt8.ofNat n.toNat := congrArg (fun s : ByteArray => s.data.toList) h
  have back : ∀ x : List Int, Bytes x → (x.map fun n => UInt8.ofNat n.toNat).map (fun b => (b.toNat : Int)) = x := by
    intro x hx
    rw [List.map_map]
    conv => rhs; rw [← List.map_id x]
    exact List.map_congr_left (fun c hc => byte_back (hx c hc))
  rw [← back l hl, ← back m hm, h2]
theorem str_eq {l m : List Int} (hl : Bytes l) (hm : Bytes m) : ((strOfNums l).toList == (strOfNums m).toList) = decide (l = m) := by
  rw [Bool.eq_iff_iff, beq_iff_eq, decide_eq_true_iff]
  refine ⟨fun h => str_inj hl hm ?_, fun h => by rw [h]⟩
  rw [Lib.strOfNums_toList, Lib.strOfNums_toList] at h
  unfold strOfNums
  exact congrArg (fun x : List UInt8 => (⟨x.toArray⟩ : ByteArray)) h
theorem equal_any (A0 : Option Addr) (c0 : Nat) (l0 : List Int) (A1 : Option Addr) (c1 : Nat) (l1 : List Int) (w : World) (hr0 : kb.C w A0 l0.length l0) (hc0 : l0.length ≤ c0) (hr1 : kb.C w A1 l1.length l1) (hc1 : l1.length ≤ c1) (h0 : Bytes l0) (h1 : Bytes l1) :
    Calls Try.prog 24 #[.slice A0 l0.length c0, .slice A1 l1.length c1] w fun e w' => e = .returned (.bool (decide (l0 = l1))) ∧ Drawn0 w w' :=
  bytes_Equal.calls A0 c0 l0 A1 c1 l1 _ w hr0 hc0 hr1 hc1 (congrArg some (str_eq h0 h1))
theorem bapp {l m : List Int} (hl : Bytes l) (hm : Bytes m) : Bytes (l ++ m) := fun c hc => (List.mem_append.1 hc).elim (hl c) (hm c)
theorem encCell_bytes {way : Nat} {last : Int × Int} {v : Nat × Nat} {p : List Int × (Int × Int)} (h : encCell way last v = some p) : Bytes p.1 := by
  unfold encCell at h
  split at h
  · injection h with h; subst h; exact bapp (be_bytes _ _) (be_bytes _ _)
  · split at h
    · split at h
      · injection h with h; subst h; exact bapp (be_bytes _ _) (be_bytes _ _)
      · cases h
    · split at h
      · injection h with h; subst h; exact bapp (vari_bytes _ _) (vari_bytes _ _)
      · cases h
theorem encL_bytes (way : Nat) : ∀ (l : List (Nat × Nat)) (last : Int × Int) (acc r : List Int), Bytes acc → encL way last l acc = some r → Bytes r
  | [], _, acc, r, ha, h => by injection h with h; rwa [← h]
  | v :: vs, last, acc, r, ha, h => by
    rw [encL] at h
    obtain ⟨p, hp, h⟩ := Option.bind_eq_some_iff.1 h
    exact encL_bytes way vs _ _ _ (bapp ha (encCell_bytes hp)) h
theorem encW_bytes {way : Nat} {N : Int} {l : List (Nat × Nat)} {r : List Int} (hN : 0 ≤ N ∧ N < 256) (hw : way < 256) (h : encW way N l = some r) : Bytes r :=
  encL_bytes way l _ _ _ (fun c hc => by
    rcases List.mem_cons.1 hc with rfl | hc
    · omega
    · rw [List.mem_singleton.1 hc]; exact hN) h
theorem better_bytes {best : List Int} {o : Option (List Int)} (hb : Bytes best) (ho : ∀ r, o = some r → Bytes r) : Bytes (better best o) := by
  unfold better
  split
  · split
    · exact ho _ rfl
    · exact hb
  · exact hb
theorem shortL_bytes {N : Int} (hN : 0 ≤ N ∧ N < 256) (l : List (Nat × Nat)) : Bytes (shortL N l) := by
  refine better_bytes (better_bytes ?_ (fun r h => encW_bytes hN (by decide) h)) (fun r h => encW_bytes hN (by decide) h)
  obtain ⟨r, hr⟩ := enc0_some N l (0, 0) [0, N]
  rw [show encW 0 N l = some r from hr]
  exact encW_bytes hN (by decide) (show encW 0 N l = some r from hr)
/-- the shortest is one of the three -/
theorem shortL_way (N : Int) (l : List (Nat × Nat)) : ∃ way, way ≤ 2 ∧ encW way N l = some (shortL N l) := by
  obtain ⟨r0, hr0⟩ := enc0_some N l (0, 0) [0, N]
  have h0 : encW 0 N l = some r0 := hr0
  have step : ∀ best o way, (∃ k, k ≤ 2 ∧ encW k N l = some best) → way ≤ 2 → encW way N l = o → ∃ k, k ≤ 2 ∧ encW k N l = some (better best o) := by
    intro best o way hb hw ho
    cases o with
    | none => exact hb
    | some r =>
      by_cases h : r.length < best.length
      · exact ⟨way, hw, by rw [better_pos h]; exact ho⟩
      · rw [better_neg h]; exact hb
  exact step _ _ 2 (step _ _ 1 ⟨0, by decide, by rw [h0]; rfl⟩ (by decide) rfl) (by decide) rfl
end Go.Proofs.Ytomildjihlbbmaa
