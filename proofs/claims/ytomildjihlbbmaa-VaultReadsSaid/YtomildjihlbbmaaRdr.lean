/-
  The keeper's read: the record at the head of bytes, or a panic because there is none.
-/
import Derived.Test.YtomildjihlbbmaaRrn
namespace Go.Proofs.Ytomildjihlbbmaa
open Go.RowKit Flt Num Go.Proofs.YtomildjihlbbmaaW.PrintWords Go.Proofs.YtomildjihlbbmaaW.PrintLast Go.Proofs.YtomildjihlbbmaaW.PrintMore Go.Proofs.Ytomildjihlbbmaa.PVaultReads
set_option linter.unusedVariables false
set_option linter.unusedSimpArgs false
attribute [local go_sem] run_f64bits run_f64from run_f32bits run_f32from
theorem info5s : ∃ i, Try.prog.info? 5 = some i ∧ i.size = 1 := by
  obtain ⟨i0, hi, hzz⟩ := Option.map_eq_some_iff.1 info5v
  simp only [Prod.mk.injEq] at hzz
  exact ⟨i0, hi, hzz.2.1⟩
theorem slice_mid (A : Option Addr) (c : Nat) (b : List Int) (m : Nat) (hc : b.length ≤ c) (h1 : 1 ≤ m) (h2 : 8 + m ≤ b.length) :
    ∃ A', (∀ W : World, (Instr.slice 22 (.slice A b.length c) (some (.int .i64 9)) (some (.int .i64 (8 + (m : Int)))) none).run Try.prog W = .ok (.slice A' ((b.take (8 + m)).drop 9).length (c - 9)) W) ∧
      (∀ w : World, kb.C w A b.length b → kb.C w A' ((b.take (8 + m)).drop 9).length ((b.take (8 + m)).drop 9)) ∧ ((b.take (8 + m)).drop 9).length ≤ c - 9 := by
  obtain ⟨i, hi, hsz⟩ := info5s
  obtain ⟨A', a1, a2, a3⟩ := print_mid_of (P := Try.prog) (Value.int .u8) (0 : Int) 22 5 .i64 .i64 Try.underlying22 hi hsz A c b 9 (8 + (m : Int)) (by decide) (by omega) (by omega) hc
  have e1 : (8 + (m : Int)).toNat = 8 + m := by omega
  rw [e1, show (9 : Int).toNat = 9 from rfl] at a1 a2 a3
  exact ⟨A', a1, fun w h => Kd.C_of_reads (enc := Value.int .u8) (d := (0 : Int)) (h1 := fun _ => rfl) (a2 w (Kd.reads_of_C (enc := Value.int .u8) (d := (0 : Int)) (h1 := fun _ => rfl) h)), a3⟩
theorem slice_take (A : Option Addr) (c : Nat) (b : List Int) (m : Nat) (hc : b.length ≤ c) (h2 : 8 + m ≤ b.length) :
    (∀ W : World, (Instr.slice 22 (.slice A b.length c) none (some (.int .i64 (8 + (m : Int)))) none).run Try.prog W = .ok (.slice A (b.take (8 + m)).length c) W) ∧
      (∀ w : World, kb.C w A b.length b → kb.C w A (b.take (8 + m)).length (b.take (8 + m))) ∧ (b.take (8 + m)).length ≤ c := by
  obtain ⟨i, hi, hsz⟩ := info5s
  obtain ⟨a1, a2, a3⟩ := print_take_of (P := Try.prog) (Value.int .u8) (0 : Int) 22 5 .i64 Try.underlying22 hi hsz A c b (8 + (m : Int)) (by omega) (by omega) hc
  have e1 : (8 + (m : Int)).toNat = 8 + m := by omega
  rw [e1] at a1 a2 a3
  exact ⟨a1, fun w h => Kd.C_of_reads (enc := Value.int .u8) (d := (0 : Int)) (h1 := fun _ => rfl) (a2 w (Kd.reads_of_C (enc := Value.int .u8) (d := (0 : Int)) (h1 := fun _ => rfl) h)), a3⟩
theorem btake {l : List Int} (h : Bytes l) (n : Nat) : Bytes (l.take n) := fun c hc => h c (List.mem_of_mem_take hc)
theorem bdrop {l : List Int} (h : Bytes l) (n : Nat) : Bytes (l.drop n) := fun c hc => h c (List.mem_of_mem_drop hc)
theorem C_lt {w : World} {A : Option Addr} {n : Nat} {L : List (Nat × Nat)} (h : kc.C w A n L) (ad : Addr) (e : A = some ad) (hp : 0 < n) : ad.block < w.heap.size := by
  obtain ⟨ad', e', hc⟩ := at_kc h 0 hp
  rw [e] at e'
  injection e' with e'
  subst e'
  have := World.block_lt_of_cell? w _ hc
  rwa [add_block] at this
theorem below_undrew2 {p : Nat} {W w1 : World} (h : Below p W.drew w1) : Below p W w1 := ⟨h.os, h.tape, h.output, h.size, h.block⟩
theorem C_keptp {w wz w8 : World} {A : Option Addr} {n : Nat} {xs : List Int} {p : Nat} (h : kb.C w A n xs) (hb : Below w.heap.size w wz) (hk : Kept wz w8 (fun k => k = p)) (hf : ∀ ad, A = some ad → ad.block ≠ p) : kb.C w8 A n xs := by
  refine Kd.C_of_reads (enc := Value.int .u8) (d := (0 : Int)) (h1 := fun _ => rfl) ?_
  have hr := Kd.reads_of_C (enc := Value.int .u8) (d := (0 : Int)) (h1 := fun _ => rfl) (Kd.C_below h hb)
  refine ⟨hr.1, hr.2.1, fun hp => ?_⟩
  obtain ⟨ad, e, hc⟩ := hr.2.2 hp
  refine ⟨ad, e, fun j hj => cell_kept (hc j hj) hk ?_⟩
  rw [add_block]
  exact hf ad e
def brk : List PanicEntry := [{ v := .iface 81 (.agg #[]), recovered := false }]
/-- what read leaves -/
def ReadOut (ah : Option Fld) (p : Nat) (b : List Int) (w : World) (e : Ending) (w' : World) : Prop :=
  Kept w w' (fun k => k = p) ∧ Below p w w' ∧
    ((e = .panicked brk ∧ ∀ f n, ¬ IsNext ah b f n) ∨
     (∃ (N : Nat) (L : List (Nat × Nat)) (B : Option Addr) (c n : Nat), IsNext ah b (N, L) n ∧ e = .returned (.tuple #[.agg #[.int .i64 N, .slice B L.length c], .int .i64 n]) ∧ kc.R 42 w' w.heap.size (fun _ => True) (.slice B L.length c) L ∧ w'.heap[p]? = some (.cells #[.int .i64 N, .slice B L.length c, .bool true] 79 (0, 0))))
theorem read_no {ah : Option Fld} {p : Nat} {b : List Int} {w w' : World} (hlt : p < w.heap.size) (hb : Below w.heap.size w w') (hn : ∀ f n, ¬ IsNext ah b f n) : ReadOut ah p b w (.panicked brk) w' :=
  ⟨⟨hb.size, fun k hk _ => hb.block k hk⟩, hb.mono (Nat.le_of_lt hlt), .inl ⟨rfl, hn⟩⟩
set_option maxHeartbeats 16000000 in
set_option maxRecDepth 100000 in
theorem read_any (ah : Option Fld) (p : Nat) (A : Option Addr) (c : Nat) (b : List Int) (ha : ∀ g, ah = some g → FOk g) (w : World) (hA : kb.C w A b.length b) (hc : b.length ≤ c) (hb : Bytes b) (hK : Kpr ah p w) (hNP : 0 < b.length → ∀ ad, A = some ad → ad.block ≠ p) :
    Calls Try.prog 42 #[.pointer (some ⟨p, 0, none⟩), .slice A b.length c] w fun e w' => ReadOut ah p b w e w' := by
  have HLT := Lib.hid (show p < w.heap.size by cases ah with | none => exact blk_lt hK | some g => obtain ⟨_, _, h1, _⟩ := hK; exact blk_lt h1)
  have HA := Lib.hid hA
  have HC := Lib.hid hc
  have HBY := Lib.hid hb
  have HK := Lib.hid hK
  have HAH := Lib.hid ha
  have HMAX := Lib.hid (show b.length ≤ 9223372036854775807 from Kd.C_max hA)
  have HZ0 := Lib.hid (heap_alloc_new w (.cells #[.int .i64 0, .slice none 0 0] 26))
  have HB0 := Lib.hid (show Below w.heap.size w (w.alloc (.cells #[.int .i64 0, .slice none 0 0] 26)) from below_alloc (Below.refl _ _) _)
  have HNP := Lib.hid hNP
  clear hA hc hb hK ha hNP
  by_cases hlen : b.length ≤ 8
  · have hl' : (b.length : Int) ≤ 8 := by omega
    have HLEN := Lib.hid hlen
    clear hlen
    go_enter Try.func42, Try.ntmps42
    go_wp2
    exact ⟨rfl, read_no HLT.out HB0.out (no_next_short HLEN.out)⟩
  · have hl' : ¬ (b.length : Int) ≤ 8 := by omega
    have hl0 : (0 : Int) < (b.length : Int) := by omega
    have hl0n : 0 < b.length := by omega
    have HNP2 := Lib.hid (HNP.out hl0n)
    have hl1 : (1 : Int) < (b.length : Int) := by omega
    have hl2 : (2 : Int) < (b.length : Int) := by omega
    have hl3 : (3 : Int) < (b.length : Int) := by omega
    have hl8 : (8 : Int) < (b.length : Int) := by omega
    have hlm : (b.length : Int) ≤ 9223372036854775807 := by have := HMAX.out; omega
    have HLEN := Lib.hid hlen
    obtain ⟨ad, rfl, h0⟩ := Kd.at_int HA.out 0 (by decide) (by omega)
    obtain ⟨_, e1, h1⟩ := Kd.at_int HA.out 1 (by decide) (by omega)
    cases e1
    obtain ⟨_, e2, h2⟩ := Kd.at_int HA.out 2 (by decide) (by omega)
    cases e2
    obtain ⟨_, e3, h3⟩ := Kd.at_int HA.out 3 (by decide) (by omega)
    cases e3
    obtain ⟨_, e8, h8⟩ := Kd.at_int HA.out 8 (by decide) (by omega)
    cases e8
    have hx0 := rd_bytes HBY.out (show 0 < b.length by omega)
    have hx1 := rd_bytes HBY.out (show 1 < b.length by omega)
    have hx2 := rd_bytes HBY.out (show 2 < b.length by omega)
    have hx3 := rd_bytes HBY.out (show 3 < b.length by omega)
    have hx8 := rd_bytes HBY.out (show 8 < b.length by omega)
    have hbits := num_bitsW HBY.out (show 4 ≤ b.length by omega)
    have HM4 := Lib.hid (num4_lt HBY.out (show 4 ≤ b.length by omega))
    obtain ⟨x0, e0⟩ : ∃ x, x = b.getD 0 0 := ⟨_, rfl⟩
    obtain ⟨x1, e1⟩ : ∃ x, x = b.getD 1 0 := ⟨_, rfl⟩
    obtain ⟨x2, e2⟩ : ∃ x, x = b.getD 2 0 := ⟨_, rfl⟩
    obtain ⟨x3, e3⟩ : ∃ x, x = b.getD 3 0 := ⟨_, rfl⟩
    obtain ⟨x8, e8⟩ : ∃ x, x = b.getD 8 0 := ⟨_, rfl⟩
    replace h0 : w.cell? ad = some (.int .u8 x0) := by rw [e0]; simpa [Addr.add, rd] using h0
    replace h1 : w.cell? ⟨ad.block, ad.off + 1, none⟩ = some (.int .u8 x1) := by rw [e1]; simpa [Addr.add, rd] using h1
    replace h2 : w.cell? ⟨ad.block, ad.off + 2, none⟩ = some (.int .u8 x2) := by rw [e2]; simpa [Addr.add, rd] using h2
    replace h3 : w.cell? ⟨ad.block, ad.off + 3, none⟩ = some (.int .u8 x3) := by rw [e3]; simpa [Addr.add, rd] using h3
    replace h8 : w.cell? ⟨ad.block, ad.off + 8, none⟩ = some (.int .u8 x8) := by rw [e8]; simpa [Addr.add, rd] using h8
    have H8 := Lib.hid h8
    have y0 : 0 ≤ x0 ∧ x0 < 256 := by rw [e0]; exact hx0
    have y1 : 0 ≤ x1 ∧ x1 < 256 := by rw [e1]; exact hx1
    have y2 : 0 ≤ x2 ∧ x2 < 256 := by rw [e2]; exact hx2
    have y3 : 0 ≤ x3 ∧ x3 < 256 := by rw [e3]; exact hx3
    rw [← e0, ← e1, ← e2, ← e3] at hbits
    obtain ⟨m, hm⟩ : ∃ m, m = num4 b := ⟨_, rfl⟩
    rw [← hm] at hbits HM4
    obtain ⟨z0, z0'⟩ := y0
    obtain ⟨z1, z1'⟩ := y1
    obtain ⟨z2, z2'⟩ := y2
    obtain ⟨z3, z3'⟩ := y3
    replace e8 := Lib.hid e8
    replace hm := Lib.hid hm
    clear hx0 hx1 hx2 hx3 hx8 e0 e1 e2 e3 h8 hlen
    go_enter Try.func42, Try.ntmps42
    go_upto_region 3 with (fail)
    go_cut [6] from 14 to 35 (fun v6 wx => v6 = .int .i64 (m : Int) ∧ Hid (Below w.heap.size w wx) ∧ Hid (wx.heap[w.heap.size]? = some (.cells #[.int .i64 0, .slice none 0 0] 26 (0, 0))))
    case first =>
      refine start_ (n := 23) (S := fun w' => w'.cell? ad = some (.int .u8 x0) ∧ w'.cell? ⟨ad.block, ad.off + 1, none⟩ = some (.int .u8 x1) ∧ w'.cell? ⟨ad.block, ad.off + 2, none⟩ = some (.int .u8 x2) ∧ w'.cell? ⟨ad.block, ad.off + 3, none⟩ = some (.int .u8 x3)) (ds := []) #[false, false, false, false, false, false, false, false, false, false, false, false, false, false, false, false, false, false, false, false, false, false, false] (by kernel_rfl) rfl rfl ⟨(pw_cell_below HB0.out h0), (pw_cell_below HB0.out h1), (pw_cell_below HB0.out h2), (pw_cell_below HB0.out h3)⟩ (fun hHeld => ?_)
      refine pure_ (i := 0) (N := some 14) (v := ?_) (a' := ?_) #[true, false, false, false, false, false, false, false, false, false, false, false, false, false, false, false, false, false, false, false, false, false, false] rfl rfl (by kernel_rfl) (fun _ _ _ h => h) (Or.inl ⟨by rfl, ?_⟩) ?_ ?_
      rotate_left
      · intro w'
        go_simp
        with_reducible rfl
      rotate_left
      · simp only [Act.put, List.setIfInBounds_toArray, List.set_cons_zero, List.set_cons_succ, i64_w, i32_w]
        rfl
      refine pure_ (i := 1) (N := some 15) (v := ?_) (a' := ?_) #[true, true, false, false, false, false, false, false, false, false, false, false, false, false, false, false, false, false, false, false, false, false, false] rfl rfl (by kernel_rfl) (fun _ _ _ h => h) (Or.inl ⟨by rfl, ?_⟩) ?_ ?_
      rotate_left
      · intro w'
        go_simp
        with_reducible rfl
      rotate_left
      · simp only [Act.put, List.setIfInBounds_toArray, List.set_cons_zero, List.set_cons_succ, i64_w, i32_w]
        rfl
      refine pure_ (i := 5) (N := some 19) (v := ?_) (a' := ?_) #[true, true, false, false, false, true, false, false, false, false, false, false, false, false, false, false, false, false, false, false, false, false, false] rfl rfl (by kernel_rfl) (fun _ _ _ h => h) (Or.inl ⟨by rfl, ?_⟩) ?_ ?_
      rotate_left
      · intro w'
        go_simp
        with_reducible rfl
      rotate_left
      · simp only [Act.put, List.setIfInBounds_toArray, List.set_cons_zero, List.set_cons_succ, i64_w, i32_w]
        rfl
      refine pure_ (i := 6) (N := some 20) (v := ?_) (a' := ?_) #[true, true, false, false, false, true, true, false, false, false, false, false, false, false, false, false, false, false, false, false, false, false, false] rfl rfl (by kernel_rfl) (fun _ _ _ h => h) (Or.inl ⟨by rfl, ?_⟩) ?_ ?_
      rotate_left
      · intro w'
        go_simp
        with_reducible rfl
      rotate_left
      · simp only [Act.put, List.setIfInBounds_toArray, List.set_cons_zero, List.set_cons_succ, i64_w, i32_w]
        rfl
      refine pure_ (i := 11) (N := some 25) (v := ?_) (a' := ?_) #[true, true, false, false, false, true, true, false, false, false, false, true, false, false, false, false, false, false, false, false, false, false, false] rfl rfl (by kernel_rfl) (fun _ _ _ h => h) (Or.inl ⟨by rfl, ?_⟩) ?_ ?_
      rotate_left
      · intro w'
        go_simp
        with_reducible rfl
      rotate_left
      · simp only [Act.put, List.setIfInBounds_toArray, List.set_cons_zero, List.set_cons_succ, i64_w, i32_w]
        rfl
      refine pure_ (i := 12) (N := some 26) (v := ?_) (a' := ?_) #[true, true, false, false, false, true, true, false, false, false, false, true, true, false, false, false, false, false, false, false, false, false, false] rfl rfl (by kernel_rfl) (fun _ _ _ h => h) (Or.inl ⟨by rfl, ?_⟩) ?_ ?_
      rotate_left
      · intro w'
        go_simp
        with_reducible rfl
      rotate_left
      · simp only [Act.put, List.setIfInBounds_toArray, List.set_cons_zero, List.set_cons_succ, i64_w, i32_w]
        rfl
      refine pure_ (i := 17) (N := some 31) (v := ?_) (a' := ?_) #[true, true, false, false, false, true, true, false, false, false, false, true, true, false, false, false, false, true, false, false, false, false, false] rfl rfl (by kernel_rfl) (fun _ _ _ h => h) (Or.inl ⟨by rfl, ?_⟩) ?_ ?_
      rotate_left
      · intro w'
        go_simp
        with_reducible rfl
      rotate_left
      · simp only [Act.put, List.setIfInBounds_toArray, List.set_cons_zero, List.set_cons_succ, i64_w, i32_w]
        rfl
      refine pure_ (i := 18) (N := some 32) (v := ?_) (a' := ?_) #[true, true, false, false, false, true, true, false, false, false, false, true, true, false, false, false, false, true, true, false, false, false, false] rfl rfl (by kernel_rfl) (fun _ _ _ h => h) (Or.inl ⟨by rfl, ?_⟩) ?_ ?_
      rotate_left
      · intro w'
        go_simp
        with_reducible rfl
      rotate_left
      · simp only [Act.put, List.setIfInBounds_toArray, List.set_cons_zero, List.set_cons_succ, i64_w, i32_w]
        rfl
      refine take_ (i := 2) (N := some 16) (v := ?_) (a' := ?_) #[true, true, true, false, false, true, true, false, false, false, false, true, true, false, false, false, false, true, true, false, false, false, false] rfl rfl (by kernel_rfl) (fun _ _ _ h => h) (Or.inl ⟨by rfl, ?_⟩) hHeld ?_ ?_
      rotate_left
      · rintro w' ⟨s0, s1, s2, s3⟩
        go_simp
        with_reducible rfl
      rotate_left
      · simp only [Act.put, List.setIfInBounds_toArray, List.set_cons_zero, List.set_cons_succ, i64_w, i32_w]
        rfl
      refine pure_ (i := 3) (N := some 17) (v := ?_) (a' := ?_) #[true, true, true, true, false, true, true, false, false, false, false, true, true, false, false, false, false, true, true, false, false, false, false] rfl rfl (by kernel_rfl) (fun _ _ _ h => h) (Or.inl ⟨by rfl, ?_⟩) ?_ ?_
      rotate_left
      · intro w'
        go_simp
        with_reducible rfl
      rotate_left
      · simp only [Act.put, List.setIfInBounds_toArray, List.set_cons_zero, List.set_cons_succ, i64_w, i32_w]
        rfl
      refine pure_ (i := 4) (N := some 18) (v := ?_) (a' := ?_) #[true, true, true, true, true, true, true, false, false, false, false, true, true, false, false, false, false, true, true, false, false, false, false] rfl rfl (by kernel_rfl) (fun _ _ _ h => h) (Or.inl ⟨by rfl, ?_⟩) ?_ ?_
      rotate_left
      · intro w'
        go_simp
        with_reducible rfl
      rotate_left
      · simp only [Act.put, List.setIfInBounds_toArray, List.set_cons_zero, List.set_cons_succ, i64_w, i32_w]
        rfl
      refine take_ (i := 7) (N := some 21) (v := ?_) (a' := ?_) #[true, true, true, true, true, true, true, true, false, false, false, true, true, false, false, false, false, true, true, false, false, false, false] rfl rfl (by kernel_rfl) (fun _ _ _ h => h) (Or.inl ⟨by rfl, ?_⟩) hHeld ?_ ?_
      rotate_left
      · rintro w' ⟨s0, s1, s2, s3⟩
        go_simp
        with_reducible rfl
      rotate_left
      · simp only [Act.put, List.setIfInBounds_toArray, List.set_cons_zero, List.set_cons_succ, i64_w, i32_w]
        rfl
      refine pure_ (i := 8) (N := some 22) (v := ?_) (a' := ?_) #[true, true, true, true, true, true, true, true, true, false, false, true, true, false, false, false, false, true, true, false, false, false, false] rfl rfl (by kernel_rfl) (fun _ _ _ h => h) (Or.inl ⟨by rfl, ?_⟩) ?_ ?_
      rotate_left
      · intro w'
        go_simp
        with_reducible rfl
      rotate_left
      · simp only [Act.put, List.setIfInBounds_toArray, List.set_cons_zero, List.set_cons_succ, i64_w, i32_w]
        rfl
      refine pure_ (i := 9) (N := some 23) (v := ?_) (a' := ?_) #[true, true, true, true, true, true, true, true, true, true, false, true, true, false, false, false, false, true, true, false, false, false, false] rfl rfl (by kernel_rfl) (fun _ _ _ h => h) (Or.inl ⟨by rfl, ?_⟩) ?_ ?_
      rotate_left
      · intro w'
        go_simp
        with_reducible rfl
      rotate_left
      · simp only [Act.put, List.setIfInBounds_toArray, List.set_cons_zero, List.set_cons_succ, i64_w, i32_w]
        rfl
      refine pure_ (i := 10) (N := some 24) (v := ?_) (a' := ?_) #[true, true, true, true, true, true, true, true, true, true, true, true, true, false, false, false, false, true, true, false, false, false, false] rfl rfl (by kernel_rfl) (fun _ _ _ h => h) (Or.inl ⟨by rfl, ?_⟩) ?_ ?_
      rotate_left
      · intro w'
        go_simp
        with_reducible rfl
      rotate_left
      · simp only [Act.put, List.setIfInBounds_toArray, List.set_cons_zero, List.set_cons_succ, i64_w, i32_w]
        rfl
      refine take_ (i := 13) (N := some 27) (v := ?_) (a' := ?_) #[true, true, true, true, true, true, true, true, true, true, true, true, true, true, false, false, false, true, true, false, false, false, false] rfl rfl (by kernel_rfl) (fun _ _ _ h => h) (Or.inl ⟨by rfl, ?_⟩) hHeld ?_ ?_
      rotate_left
      · rintro w' ⟨s0, s1, s2, s3⟩
        go_simp
        with_reducible rfl
      rotate_left
      · simp only [Act.put, List.setIfInBounds_toArray, List.set_cons_zero, List.set_cons_succ, i64_w, i32_w]
        rfl
      refine pure_ (i := 14) (N := some 28) (v := ?_) (a' := ?_) #[true, true, true, true, true, true, true, true, true, true, true, true, true, true, true, false, false, true, true, false, false, false, false] rfl rfl (by kernel_rfl) (fun _ _ _ h => h) (Or.inl ⟨by rfl, ?_⟩) ?_ ?_
      rotate_left
      · intro w'
        go_simp
        with_reducible rfl
      rotate_left
      · simp only [Act.put, List.setIfInBounds_toArray, List.set_cons_zero, List.set_cons_succ, i64_w, i32_w]
        rfl
      refine pure_ (i := 15) (N := some 29) (v := ?_) (a' := ?_) #[true, true, true, true, true, true, true, true, true, true, true, true, true, true, true, true, false, true, true, false, false, false, false] rfl rfl (by kernel_rfl) (fun _ _ _ h => h) (Or.inl ⟨by rfl, ?_⟩) ?_ ?_
      rotate_left
      · intro w'
        go_simp
        with_reducible rfl
      rotate_left
      · simp only [Act.put, List.setIfInBounds_toArray, List.set_cons_zero, List.set_cons_succ, i64_w, i32_w]
        rfl
      refine pure_ (i := 16) (N := some 30) (v := ?_) (a' := ?_) #[true, true, true, true, true, true, true, true, true, true, true, true, true, true, true, true, true, true, true, false, false, false, false] rfl rfl (by kernel_rfl) (fun _ _ _ h => h) (Or.inl ⟨by rfl, ?_⟩) ?_ ?_
      rotate_left
      · intro w'
        go_simp
        with_reducible rfl
      rotate_left
      · simp only [Act.put, List.setIfInBounds_toArray, List.set_cons_zero, List.set_cons_succ, i64_w, i32_w]
        rfl
      refine take_ (i := 19) (N := some 33) (v := ?_) (a' := ?_) #[true, true, true, true, true, true, true, true, true, true, true, true, true, true, true, true, true, true, true, true, false, false, false] rfl rfl (by kernel_rfl) (fun _ _ _ h => h) (Or.inl ⟨by rfl, ?_⟩) hHeld ?_ ?_
      rotate_left
      · rintro w' ⟨s0, s1, s2, s3⟩
        go_simp
        with_reducible rfl
      rotate_left
      · simp only [Act.put, List.setIfInBounds_toArray, List.set_cons_zero, List.set_cons_succ, i64_w, i32_w]
        rfl
      refine pure_ (i := 20) (N := some 34) (v := ?_) (a' := ?_) #[true, true, true, true, true, true, true, true, true, true, true, true, true, true, true, true, true, true, true, true, true, false, false] rfl rfl (by kernel_rfl) (fun _ _ _ h => h) (Or.inl ⟨by rfl, ?_⟩) ?_ ?_
      rotate_left
      · intro w'
        go_simp
        with_reducible rfl
      rotate_left
      · simp only [Act.put, List.setIfInBounds_toArray, List.set_cons_zero, List.set_cons_succ, i64_w, i32_w]
        rfl
      refine pure_ (i := 21) (N := some 35) (v := ?_) (a' := ?_) #[true, true, true, true, true, true, true, true, true, true, true, true, true, true, true, true, true, true, true, true, true, true, false] rfl rfl (by kernel_rfl) (fun _ _ _ h => h) (Or.inl ⟨by rfl, ?_⟩) ?_ ?_
      rotate_left
      · intro w'
        go_simp
        with_reducible rfl
      rotate_left
      · simp only [Act.put, List.setIfInBounds_toArray, List.set_cons_zero, List.set_cons_succ, i64_w, i32_w]
        rfl
      refine pure_ (i := 22) (N := some 6) (v := ?_) (a' := ?_) #[true, true, true, true, true, true, true, true, true, true, true, true, true, true, true, true, true, true, true, true, true, true, true] rfl rfl (by kernel_rfl) (fun _ _ _ h => h) (Or.inl ⟨by rfl, ?_⟩) ?_ ?_
      rotate_left
      · intro w'
        go_simp
        with_reducible rfl
      rotate_left
      · simp only [Act.put, List.setIfInBounds_toArray, List.set_cons_zero, List.set_cons_succ, i64_w, i32_w]
        rfl
      refine done_ (by kernel_rfl) ?_
      go_wp2_with fail
      go_meet
      exact ⟨rfl, Lib.hid (below_drewN HB0.out 1), HZ0⟩
    case rest =>
    obtain ⟨rfl, hbx, hzx⟩ := hcut
    obtain ⟨wx, rfl⟩ : ∃ wx : World, wx = wc := ⟨_, rfl⟩
    clear h0 h1 h2 h3 z0 z0' z1 z1' z2 z2' z3 z3' hbits hl0 hl0n hl1 hl2 hl3 hlm
    by_cases hbad : m < 1 ∨ b.length < 8 + m
    · have HBAD := Lib.hid hbad
      have hm4 : (m : Int) < 4294967296 := by have := HM4.out; omega
      rcases hbad with hbad | hbad
      · have hb1 : (m : Int) < 1 := by omega
        clear hbad
        go_wp2
        exact ⟨rfl, read_no HLT.out hbx.out (no_next_num (by rw [← hm.out]; exact HBAD.out))⟩
      · by_cases hm1 : m < 1
        · have hb1 : (m : Int) < 1 := by omega
          clear hbad
          go_wp2
          exact ⟨rfl, read_no HLT.out hbx.out (no_next_num (by rw [← hm.out]; exact HBAD.out))⟩
        · have hb1 : ¬ (m : Int) < 1 := by omega
          have hb2 : (b.length : Int) - 8 < (m : Int) := by omega
          clear hbad
          go_wp2
          exact ⟨rfl, read_no HLT.out hbx.out (no_next_num (by rw [← hm.out]; exact HBAD.out))⟩
    · have hb1 : ¬ (m : Int) < 1 := by omega
      have hb2 : ¬ (b.length : Int) - 8 < (m : Int) := by omega
      have hm4 : (m : Int) < 4294967296 := by have := HM4.out; omega
      have HM1 := Lib.hid (show 1 ≤ m by omega)
      have HM2 := Lib.hid (show 8 + m ≤ b.length by omega)
      obtain ⟨MA, hms, hmc, hml⟩ := slice_mid (some ad) c b m HC.out HM1.out HM2.out
      obtain ⟨mid, hmid⟩ : ∃ mid, mid = (b.take (8 + m)).drop 9 := ⟨_, rfl⟩
      obtain ⟨cm, hcm⟩ : ∃ cm, cm = c - 9 := ⟨_, rfl⟩
      rw [← hmid] at hms hmc hml
      rw [← hcm] at hms hml
      have HMC := Lib.hid hmc
      have HML := Lib.hid hml
      have HMS := Lib.hid hms
      replace hmid := Lib.hid hmid
      replace hcm := Lib.hid hcm
      have hw8 : wrap64 ((b.length : Int) - 8) = (b.length : Int) - 8 := wrap64_id (by have := HMAX.out; omega) (by have := HMAX.out; omega)
      have hb3 : (m : Int) ≤ (b.length : Int) - 8 := by omega
      have hws : wrap64 (8 + (m : Int)) = 8 + (m : Int) := wrap64_id (by omega) (by omega)
      have HWS := Lib.hid hws
      clear hbad hmc hml hl' hl8 hm4 hb2
      go_wp2_with fail
      have HBM := Lib.hid (show Bytes mid by rw [hmid.out]; exact bdrop (btake HBY.out _) _)
      refine (unpack_any MA cm mid wx (HMC.out _ (Kd.C_below HA.out hbx.out)) HML.out HBM.out).mono ?_
      rintro e w4 ⟨hb4, ⟨rfl, hno⟩ | ⟨N, L0, UB, cb, hp, hu, rfl, hr4⟩⟩
      · have HB4 := Lib.hid (hbx.out.trans (hb4.mono hbx.out.size))
        have HNO := Lib.hid hno
        clear hb4 hno hw8 hb3 hws hms
        go_wp2
        exact ⟨rfl, read_no HLT.out (HB4.out.alloc HB4.out.size _) (no_next_packs (by rw [← hm.out, ← hmid.out]; exact HNO.out))⟩
      · obtain ⟨w5, hw5⟩ : ∃ w5 : World, w5 = w4.alloc (.cells #[.int .i64 N, .slice UB L0.length cb] 26) := ⟨_, rfl⟩
        have HB4 := Lib.hid (hbx.out.trans (hb4.mono hbx.out.size))
        have HB5 := Lib.hid (show Below w.heap.size w w5 by rw [hw5]; exact HB4.out.alloc HB4.out.size _)
        have H75 := Lib.hid (show w5.heap[w4.heap.size]? = some (.cells #[.int .i64 N, .slice UB L0.length cb] 26 (0, 0)) by rw [hw5]; exact heap_alloc_new w4 _)
        have HZ5 := Lib.hid (show w5.heap[w.heap.size]? = some (.cells #[.int .i64 0, .slice none 0 0] 26 (0, 0)) by rw [hw5]; exact blk_below (blk_below hzx.out hb4) (below_alloc (Below.refl _ _) _))
        have HR5 := Lib.hid (show kc.R 42 w5 w.heap.size (fun _ => True) (.slice UB L0.length cb) L0 by rw [hw5]; exact Kd.R_alloc (Kd.R_lower hr4 hbx.out.size) _)
        have HK5 := Lib.hid (HK.out.below HB5.out)
        have HP := Lib.hid (show Packs ((b.take (8 + num4 b)).drop 9) N L0 by rw [← hm.out, ← hmid.out]; exact hp)
        have HS7 := Lib.hid (show w.heap.size < w4.heap.size from Nat.lt_of_lt_of_le (blk_lt hzx.out) hb4.size)
        obtain ⟨gb, hgb⟩ : ∃ gb, gb = w4.heap.size := ⟨_, rfl⟩
        have h85 := pw_cell_below HB5.out H8.out
        have HW5 := Lib.hid hw5.symm
        rw [← hgb] at H75 HS7
        have HGB := Lib.hid hgb.symm
        clear hb4 hw5 hgb hp hu hr4 hw8 hb3 hws hms
        by_cases hk : x8 = 1
        · subst hk
          go_upto_region 9 with (fail)
          rw [HW5.out, HGB.out]
          have hx81 : ((1 : Int) == 1) = true := rfl
          go_upto_region 10 with (fail)
          rcases ah with _ | ⟨N', L'⟩
          · have hkn := HK5.out
            have HKN := Lib.hid (show w5.heap[p]? = some (.cells #[.int .i64 0, .slice none 0 0, .bool false] 79 (0, 0)) from hkn)
            clear hkn
            refine start_ (n := 11) (S := fun w' => w'.heap[gb]? = some (.cells #[.int .i64 N, .slice UB L0.length cb] 26 (0, 0)) ∧ w'.cell? ⟨p, 0, none⟩ = some (.int .i64 0) ∧ w'.cell? ⟨p, 1, none⟩ = some (.slice none 0 0)) (ds := [9]) #[false, false, false, false, false, false, false, false, false, false, false] (by kernel_rfl) rfl rfl ⟨H75.out, (three_cells HKN.out).1.1, (three_cells HKN.out).1.2.1⟩ (fun hHeld => ?_)
            refine pure_ (i := 1) (N := some 65) (v := ?_) (a' := ?_) #[false, true, false, false, false, false, false, false, false, false, false] rfl rfl (by kernel_rfl) (fun _ _ _ h => h) (Or.inl ⟨by rfl, ?_⟩) ?_ ?_
            rotate_left
            · intro w'
              go_simp
              with_reducible rfl
            rotate_left
            · simp only [Act.put, List.setIfInBounds_toArray, List.set_cons_zero, List.set_cons_succ, i64_w, i32_w]
              rfl
            refine pure_ (i := 2) (N := some 66) (v := ?_) (a' := ?_) #[false, true, true, false, false, false, false, false, false, false, false] rfl rfl (by kernel_rfl) (fun _ _ _ h => h) (Or.inl ⟨by rfl, ?_⟩) ?_ ?_
            rotate_left
            · intro w'
              go_simp
              with_reducible rfl
            rotate_left
            · simp only [Act.put, List.setIfInBounds_toArray, List.set_cons_zero, List.set_cons_succ, i64_w, i32_w]
              rfl
            refine pure_ (i := 3) (N := some 67) (v := ?_) (a' := ?_) #[false, true, true, true, false, false, false, false, false, false, false] rfl rfl (by kernel_rfl) (fun _ _ _ h => h) (Or.inl ⟨by rfl, ?_⟩) ?_ ?_
            rotate_left
            · intro w'
              go_simp
              with_reducible rfl
            rotate_left
            · simp only [Act.put, List.setIfInBounds_toArray, List.set_cons_zero, List.set_cons_succ, i64_w, i32_w]
              rfl
            refine take_ (i := 0) (N := some 64) (v := ?_) (a' := ?_) #[true, true, true, true, false, false, false, false, false, false, false] rfl rfl (by kernel_rfl) (fun _ _ _ h => h) (Or.inl ⟨by rfl, ?_⟩) hHeld ?_ ?_
            rotate_left
            · rintro w' ⟨s0, s1, s2⟩
              refine Eq.trans (exec_load_grid (by rfl) (by rfl) s0) ?_
              with_reducible rfl
            rotate_left
            · simp only [Act.put, List.setIfInBounds_toArray, List.set_cons_zero, List.set_cons_succ, i64_w, i32_w]
              rfl
            refine take_ (i := 4) (N := some 68) (v := ?_) (a' := ?_) #[true, true, true, true, true, false, false, false, false, false, false] rfl rfl (by kernel_rfl) (fun _ _ _ h => h) (Or.inl ⟨by rfl, ?_⟩) hHeld ?_ ?_
            rotate_left
            · rintro w' ⟨s0, s1, s2⟩
              refine Eq.trans (exec_load2 (by rfl) (by rfl) s1 s2) ?_
              with_reducible rfl
            rotate_left
            · simp only [Act.put, List.setIfInBounds_toArray, List.set_cons_zero, List.set_cons_succ, i64_w, i32_w]
              rfl
            refine one_ (i := 5) (N := some 69) #[true, true, true, true, true, true, false, false, false, false, false] rfl rfl (by kernel_rfl) (by decide) (fun K hK => ?_)
            refine goes_ Try.func55 (by kernel_rfl) rfl #[.agg #[.int .i64 N, .slice UB L0.length cb], .agg #[.int .i64 0, .slice none 0 0]] (by rfl) rfl rfl (by simp only [List.map_toArray, List.map_cons, List.map_nil]; rfl) ?_
            with_reducible refine (change_zero N HP.out.side UB cb L0.length HP.out.len _).mono ?_
            rintro e w6 ⟨rfl, hb6⟩
            refine ⟨_, rfl, ?_⟩
            refine hK.out _ _ ⟨(blk_below H75.out (below_undrew hb6)), (three_cells (blk_below HKN.out (below_undrew hb6))).1.1, (three_cells (blk_below HKN.out (below_undrew hb6))).1.2.1⟩ (fun hHeld => ?_)
            clear hK K
            refine norm_ (a' := ?_) ?_ ?_
            rotate_left
            · show Act.put _ (some 69) _ = _
              simp only [Act.put, List.setIfInBounds_toArray, List.set_cons_zero, List.set_cons_succ, i64_w, i32_w]
              rfl
            refine pure_ (i := 6) (N := some 63) (v := ?_) (a' := ?_) #[true, true, true, true, true, true, true, false, false, false, false] rfl rfl (by kernel_rfl) (fun _ _ _ h => h) (Or.inl ⟨by rfl, ?_⟩) ?_ ?_
            rotate_left
            · intro w'
              go_simp
              with_reducible rfl
            rotate_left
            · simp only [Act.put, List.setIfInBounds_toArray, List.set_cons_zero, List.set_cons_succ, i64_w, i32_w]
              rfl
            refine pure_ (i := 7) (N := some 70) (v := ?_) (a' := ?_) #[true, true, true, true, true, true, true, true, false, false, false] rfl rfl (by kernel_rfl) (fun _ _ _ h => h) (Or.inl ⟨by rfl, ?_⟩) ?_ ?_
            rotate_left
            · intro w'
              go_simp
              with_reducible rfl
            rotate_left
            · simp only [Act.put, List.setIfInBounds_toArray, List.set_cons_zero, List.set_cons_succ, i64_w, i32_w]
              rfl
            refine pure_ (i := 8) (N := some 71) (v := ?_) (a' := ?_) #[true, true, true, true, true, true, true, true, true, false, false] rfl rfl (by kernel_rfl) (fun _ _ _ h => h) (Or.inl ⟨by rfl, ?_⟩) ?_ ?_
            rotate_left
            · intro w'
              go_simp
              with_reducible rfl
            rotate_left
            · simp only [Act.put, List.setIfInBounds_toArray, List.set_cons_zero, List.set_cons_succ, i64_w, i32_w]
              rfl
            refine last_ (i := 9) (N := none) #[true, true, true, true, true, true, true, true, true, true, false] rfl rfl (by kernel_rfl) (by decide) (fun K hK => ?_)
            refine store_grid_step (by rfl) rfl (.tmp 7) (.tmp 70) rfl (g := gb) (by rfl) (u := 0) (A := none) (n := 0) (c := 0) (by rfl) (blk_below H75.out (below_undrew hb6)) ?_
            intro w7 hh7 hk7 hb7
            refine hK.out _ _ ?_
            clear hK K
            refine pure_ (i := 10) (N := some 8) (v := ?_) (a' := ?_) #[true, true, true, true, true, true, true, true, true, true, true] rfl rfl (by kernel_rfl) (fun _ _ _ h => h) (Or.inl ⟨by rfl, ?_⟩) ?_ ?_
            rotate_left
            · intro w'
              go_simp
              with_reducible rfl
            rotate_left
            · simp only [Act.put, List.setIfInBounds_toArray, List.set_cons_zero, List.set_cons_succ, i64_w, i32_w]
              rfl
            refine done_ (by kernel_rfl) ?_
            have HB6 := Lib.hid (HB5.out.trans ((below_undrew hb6).mono HB5.out.size))
            have HB7 := Lib.hid (HB6.out.trans (hb7.mono (Nat.le_of_lt HS7.out)))
            clear hb6 hh7 hk7 hb7 hx81 h85
            go_wp2
            exact ⟨rfl, read_no HLT.out HB7.out (no_next_ahead HP.out (by rw [← e8.out]) (by intro L'; simp))⟩
          · obtain ⟨A', c', hkn, hkc⟩ := HK.out
            have HKC0 := Lib.hid hkc
            have HKN := Lib.hid (blk_below hkn HB5.out)
            have HKC := Lib.hid (Kd.C_below hkc HB5.out)
            have HF' := Lib.hid (HAH.out _ rfl)
            clear hkn hkc
            by_cases hNN : N' = N
            · subst hNN
              have HDR := Lib.hid (show Below w5.heap.size w5 w5.drew from below_drewN (Below.refl _ _) 1)
              refine start_ (n := 11) (S := fun w' => w'.heap[gb]? = some (.cells #[.int .i64 N', .slice UB L0.length cb] 26 (0, 0)) ∧ w'.cell? ⟨p, 0, none⟩ = some (.int .i64 N') ∧ w'.cell? ⟨p, 1, none⟩ = some (.slice A' L'.length c')) (ds := [9]) #[false, false, false, false, false, false, false, false, false, false, false] (by kernel_rfl) rfl rfl ⟨H75.out, (three_cells HKN.out).1.1, (three_cells HKN.out).1.2.1⟩ (fun hHeld => ?_)
              refine pure_ (i := 1) (N := some 65) (v := ?_) (a' := ?_) #[false, true, false, false, false, false, false, false, false, false, false] rfl rfl (by kernel_rfl) (fun _ _ _ h => h) (Or.inl ⟨by rfl, ?_⟩) ?_ ?_
              rotate_left
              · intro w'
                go_simp
                with_reducible rfl
              rotate_left
              · simp only [Act.put, List.setIfInBounds_toArray, List.set_cons_zero, List.set_cons_succ, i64_w, i32_w]
                rfl
              refine pure_ (i := 2) (N := some 66) (v := ?_) (a' := ?_) #[false, true, true, false, false, false, false, false, false, false, false] rfl rfl (by kernel_rfl) (fun _ _ _ h => h) (Or.inl ⟨by rfl, ?_⟩) ?_ ?_
              rotate_left
              · intro w'
                go_simp
                with_reducible rfl
              rotate_left
              · simp only [Act.put, List.setIfInBounds_toArray, List.set_cons_zero, List.set_cons_succ, i64_w, i32_w]
                rfl
              refine pure_ (i := 3) (N := some 67) (v := ?_) (a' := ?_) #[false, true, true, true, false, false, false, false, false, false, false] rfl rfl (by kernel_rfl) (fun _ _ _ h => h) (Or.inl ⟨by rfl, ?_⟩) ?_ ?_
              rotate_left
              · intro w'
                go_simp
                with_reducible rfl
              rotate_left
              · simp only [Act.put, List.setIfInBounds_toArray, List.set_cons_zero, List.set_cons_succ, i64_w, i32_w]
                rfl
              refine take_ (i := 0) (N := some 64) (v := ?_) (a' := ?_) #[true, true, true, true, false, false, false, false, false, false, false] rfl rfl (by kernel_rfl) (fun _ _ _ h => h) (Or.inl ⟨by rfl, ?_⟩) hHeld ?_ ?_
              rotate_left
              · rintro w' ⟨s0, s1, s2⟩
                refine Eq.trans (exec_load_grid (by rfl) (by rfl) s0) ?_
                with_reducible rfl
              rotate_left
              · simp only [Act.put, List.setIfInBounds_toArray, List.set_cons_zero, List.set_cons_succ, i64_w, i32_w]
                rfl
              refine take_ (i := 4) (N := some 68) (v := ?_) (a' := ?_) #[true, true, true, true, true, false, false, false, false, false, false] rfl rfl (by kernel_rfl) (fun _ _ _ h => h) (Or.inl ⟨by rfl, ?_⟩) hHeld ?_ ?_
              rotate_left
              · rintro w' ⟨s0, s1, s2⟩
                refine Eq.trans (exec_load2 (by rfl) (by rfl) s1 s2) ?_
                with_reducible rfl
              rotate_left
              · simp only [Act.put, List.setIfInBounds_toArray, List.set_cons_zero, List.set_cons_succ, i64_w, i32_w]
                rfl
              refine one_ (i := 5) (N := some 69) #[true, true, true, true, true, true, false, false, false, false, false] rfl rfl (by kernel_rfl) (by decide) (fun K hK => ?_)
              refine goes_ Try.func55 (by kernel_rfl) rfl #[.agg #[.int .i64 N', .slice UB L0.length cb], .agg #[.int .i64 N', .slice A' L'.length c']] (by rfl) rfl rfl (by simp only [List.map_toArray, List.map_cons, List.map_nil]; rfl) ?_
              with_reducible refine (change_any N' HP.out.side UB A' cb c' L0 L' HP.out.len HF'.out.len HP.out.words HF'.out.words _ (Kd.R_reads' (Kd.R_below HR5.out HDR.out)).2.2 (Kd.C_below HKC.out HDR.out)).mono ?_
              rintro e w6 ⟨FB, fc, rfl, hb6, hr6⟩
              refine ⟨_, rfl, ?_⟩
              refine hK.out _ _ ⟨(blk_below H75.out (below_undrew hb6)), (three_cells (blk_below HKN.out (below_undrew hb6))).1.1, (three_cells (blk_below HKN.out (below_undrew hb6))).1.2.1⟩ (fun hHeld => ?_)
              clear hK K
              refine norm_ (a' := ?_) ?_ ?_
              rotate_left
              · show Act.put _ (some 69) _ = _
                simp only [Act.put, List.setIfInBounds_toArray, List.set_cons_zero, List.set_cons_succ, i64_w, i32_w]
                rfl
              refine pure_ (i := 6) (N := some 63) (v := ?_) (a' := ?_) #[true, true, true, true, true, true, true, false, false, false, false] rfl rfl (by kernel_rfl) (fun _ _ _ h => h) (Or.inl ⟨by rfl, ?_⟩) ?_ ?_
              rotate_left
              · intro w'
                go_simp
                with_reducible rfl
              rotate_left
              · simp only [Act.put, List.setIfInBounds_toArray, List.set_cons_zero, List.set_cons_succ, i64_w, i32_w]
                rfl
              refine pure_ (i := 7) (N := some 70) (v := ?_) (a' := ?_) #[true, true, true, true, true, true, true, true, false, false, false] rfl rfl (by kernel_rfl) (fun _ _ _ h => h) (Or.inl ⟨by rfl, ?_⟩) ?_ ?_
              rotate_left
              · intro w'
                go_simp
                with_reducible rfl
              rotate_left
              · simp only [Act.put, List.setIfInBounds_toArray, List.set_cons_zero, List.set_cons_succ, i64_w, i32_w]
                rfl
              refine pure_ (i := 8) (N := some 71) (v := ?_) (a' := ?_) #[true, true, true, true, true, true, true, true, true, false, false] rfl rfl (by kernel_rfl) (fun _ _ _ h => h) (Or.inl ⟨by rfl, ?_⟩) ?_ ?_
              rotate_left
              · intro w'
                go_simp
                with_reducible rfl
              rotate_left
              · simp only [Act.put, List.setIfInBounds_toArray, List.set_cons_zero, List.set_cons_succ, i64_w, i32_w]
                rfl
              refine last_ (i := 9) (N := none) #[true, true, true, true, true, true, true, true, true, true, false] rfl rfl (by kernel_rfl) (by decide) (fun K hK => ?_)
              refine store_grid_step (by rfl) rfl (.tmp 7) (.tmp 70) rfl (g := gb) (by rfl) (u := (N' : Int)) (A := FB) (n := (xorL L0 L').length) (c := fc) (by rfl) (blk_below H75.out (below_undrew hb6)) ?_
              intro w7 hh7 hk7 hb7
              refine hK.out _ _ ?_
              clear hK K
              refine pure_ (i := 10) (N := some 8) (v := ?_) (a' := ?_) #[true, true, true, true, true, true, true, true, true, true, true] rfl rfl (by kernel_rfl) (fun _ _ _ h => h) (Or.inl ⟨by rfl, ?_⟩) ?_ ?_
              rotate_left
              · intro w'
                go_simp
                with_reducible rfl
              rotate_left
              · simp only [Act.put, List.setIfInBounds_toArray, List.set_cons_zero, List.set_cons_succ, i64_w, i32_w]
                rfl
              refine done_ (by kernel_rfl) ?_
              have HB6 := Lib.hid (HB5.out.trans ((below_undrew hb6).mono HB5.out.size))
              have HB7 := Lib.hid (HB6.out.trans (hb7.mono (Nat.le_of_lt HS7.out)))
              have H77 := Lib.hid hh7
              have HZ7 := Lib.hid (blk_kept (blk_below HZ5.out (below_undrew hb6)) hk7 (by show ¬ (w.heap.size = gb); have := HS7.out; omega))
              have HP7 := Lib.hid (blk_kept (blk_below HKN.out (below_undrew hb6)) hk7 (by show ¬ (p = gb); have := HS7.out; have := HLT.out; omega))
              have HKC7 := Lib.hid (C_toK (Kd.C_below HKC.out (below_undrew hb6)) hk7 (fun ad e hp h => by have h1 := C_lt HKC0.out ad e hp; have h2 := HS7.out; have h3 : ad.block = gb := h; omega))
              have HRZ := Lib.hid (show kc.R 42 w7 w.heap.size (fun _ => True) (.slice FB (xorL L0 L').length fc) (xorL L0 L') from Kd.R_mono (Kd.R_kept (Kd.R_types (Kd.R_lower hr6 HB5.out.size) (blk_below H75.out (below_undrew hb6)) (by decide)) hk7 (fun k ho he => ho.2 he)) (fun _ _ => trivial))
              clear hb6 hr6 hh7 hk7 hb7 HB6
              have HT := Lib.hid (show told (some (N', L')) b N' L0 (N', xorL L0 L') from by unfold told; rw [if_pos e8.out.symm]; exact ⟨L', rfl, rfl⟩)
              have HKZ := Lib.hid (show Kpr (some (N', L')) p w7 from ⟨A', c', HP7.out, HKC7.out⟩)
              obtain ⟨F, hF⟩ : ∃ F, F = xorL L0 L' := ⟨_, rfl⟩
              obtain ⟨wz, hwz⟩ : ∃ wz : World, wz = w7 := ⟨_, rfl⟩
              rw [← hF, ← hwz] at H77
              rw [← hF, ← hwz] at HRZ
              rw [← hF] at HT
              rw [← hwz] at HB7 HZ7 HKZ
              rw [← hwz]
              clear hF hwz HP7 HKC7 HKN HKC H75 HZ5 HR5 HK5 HB5 HB4 HW5
              go_upto_region 13 with (fail)
              have HFO := Lib.hid (told_ok HAH.out HP.out HT.out)
              obtain ⟨htk, htc, htl⟩ := slice_take (some ad) c b m HC.out HM2.out
              obtain ⟨tk, htkd⟩ : ∃ tk, tk = b.take (8 + m) := ⟨_, rfl⟩
              rw [← htkd] at htk htc htl
              have HTC := Lib.hid htc
              have HTL := Lib.hid htl
              have HTB := Lib.hid (show Bytes tk by rw [htkd]; exact btake HBY.out _)
              replace htkd := Lib.hid htkd
              clear htc htl hx81 h85
              have hws := HWS.out
              have HDZ := Lib.hid (show Below wz.heap.size wz wz.drew from below_drewN (Below.refl _ _) 1)
              by_cases heq : recL (some (N', L')) (N', F) = tk
              · have hdec : decide (recL (some (N', L')) (N', F) = tk) = true := decide_eq_true heq
                have HEQ := Lib.hid heq
                clear heq
                refine start_ (n := 9) (S := fun w' => w'.heap[gb]? = some (.cells #[.int .i64 N', .slice FB F.length fc] 26 (0, 0))) (ds := []) #[false, false, false, false, false, false, false, false, false] (by kernel_rfl) rfl rfl (H77.out) (fun hHeld => ?_)
                refine pure_ (i := 0) (N := some 76) (v := ?_) (a' := ?_) #[true, false, false, false, false, false, false, false, false] rfl rfl (by kernel_rfl) (fun _ _ _ h => h) (Or.inl ⟨by rfl, ?_⟩) ?_ ?_
                rotate_left
                · intro w'
                  go_simp
                  with_reducible rfl
                rotate_left
                · simp only [Act.put, List.setIfInBounds_toArray, List.set_cons_zero, List.set_cons_succ, i64_w, i32_w]
                  rfl
                refine pure_ (i := 3) (N := some 79) (v := ?_) (a' := ?_) #[true, false, false, true, false, false, false, false, false] rfl rfl (by kernel_rfl) (fun _ _ _ h => h) (Or.inl ⟨by rfl, ?_⟩) ?_ ?_
                rotate_left
                · intro w'
                  go_simp
                  with_reducible rfl
                rotate_left
                · simp only [Act.put, List.setIfInBounds_toArray, List.set_cons_zero, List.set_cons_succ, i64_w, i32_w]
                  rfl
                refine pure_ (i := 4) (N := some 80) (v := ?_) (a' := ?_) #[true, false, false, true, true, false, false, false, false] rfl rfl (by kernel_rfl) (fun _ _ _ h => h) (Or.inl ⟨by rfl, ?_⟩) ?_ ?_
                rotate_left
                · intro w'
                  go_simp
                  with_reducible rfl
                rotate_left
                · simp only [Act.put, List.setIfInBounds_toArray, List.set_cons_zero, List.set_cons_succ, i64_w, i32_w]
                  rfl
                refine pure_ (i := 5) (N := some 81) (v := ?_) (a' := ?_) #[true, false, false, true, true, true, false, false, false] rfl rfl (by kernel_rfl) (fun _ _ _ h => h) (Or.inl ⟨by rfl, ?_⟩) ?_ ?_
                rotate_left
                · intro w'
                  go_simp
                  with_reducible rfl
                rotate_left
                · simp only [Act.put, List.setIfInBounds_toArray, List.set_cons_zero, List.set_cons_succ, i64_w, i32_w]
                  rfl
                refine pure_ (i := 6) (N := some 82) (v := ?_) (a' := ?_) #[true, false, false, true, true, true, true, false, false] rfl rfl (by kernel_rfl) (fun _ _ _ h => h) (Or.inl ⟨by rfl, ?_⟩) ?_ ?_
                rotate_left
                · intro w'
                  go_simp
                  with_reducible rfl
                rotate_left
                · simp only [Act.put, List.setIfInBounds_toArray, List.set_cons_zero, List.set_cons_succ, i64_w, i32_w]
                  rfl
                refine take_ (i := 1) (N := some 77) (v := ?_) (a' := ?_) #[true, true, false, true, true, true, true, false, false] rfl rfl (by kernel_rfl) (fun _ _ _ h => h) (Or.inl ⟨by rfl, ?_⟩) hHeld ?_ ?_
                rotate_left
                · intro w' s0
                  refine Eq.trans (exec_load_grid (by rfl) (by rfl) s0) ?_
                  with_reducible rfl
                rotate_left
                · simp only [Act.put, List.setIfInBounds_toArray, List.set_cons_zero, List.set_cons_succ, i64_w, i32_w]
                  rfl
                refine one_ (i := 2) (N := some 78) #[true, true, true, true, true, true, true, false, false] rfl rfl (by kernel_rfl) (by decide) (fun K hK => ?_)
                refine goes_ Try.func40 (by kernel_rfl) rfl #[.pointer (some ⟨p, 0, none⟩), .agg #[.int .i64 N', .slice FB F.length fc]] (by rfl) rfl rfl (by simp only [List.map_toArray, List.map_cons, List.map_nil]; rfl) ?_
                with_reducible refine (record_any (some (N', L')) p N' FB fc F HFO.out HAH.out _ (Kd.R_reads' (Kd.R_below HRZ.out HDZ.out)).2.2 (HKZ.out.below HDZ.out)).mono ?_
                rintro e w8 ⟨u8, rfl, hr8, hb8, hk8, hp8⟩
                refine ⟨_, rfl, ?_⟩
                have HK8b := Lib.hid (show Kept wz w8 (fun k => k = p) from hk8)
                obtain ⟨UA, uc, rfl⟩ := Kd.R_slice hr8
                have HR8 := Lib.hid hr8
                clear hr8
                refine hK.out _ _ ((blk_kept H77.out hk8 (by show ¬ (gb = p); have := HS7.out; have := HLT.out; omega))) (fun hHeld => ?_)
                clear hK K
                refine norm_ (a' := ?_) ?_ ?_
                rotate_left
                · show Act.put _ (some 78) _ = _
                  simp only [Act.put, List.setIfInBounds_toArray, List.set_cons_zero, List.set_cons_succ, i64_w, i32_w]
                  rfl
                refine one_ (i := 7) (N := some 83) #[true, true, true, true, true, true, true, true, false] rfl rfl (by kernel_rfl) (by decide) (fun K hK => ?_)
                refine goes_ Try.func24 (by kernel_rfl) rfl #[.slice UA (recL (some (N', L')) (N', F)).length uc, .slice (some ad) tk.length c] (by rfl) rfl rfl (by simp only [List.map_toArray, List.map_cons, List.map_nil]; rfl) ?_
                with_reducible refine (equal_any UA uc (recL (some (N', L')) (N', F)) (some ad) c tk _ (Kd.R_reads' HR8.out).2.2 (Kd.R_reads' HR8.out).2.1 (HTC.out _ (C_keptp HA.out HB7.out HK8b.out HNP2.out)) HTL.out (recL_ok HFO.out HAH.out).2 HTB.out).mono ?_
                rintro e w9 ⟨rfl, ⟨n9, rfl⟩⟩
                refine ⟨_, rfl, ?_⟩
                rw [hdec]
                refine hK.out _ _ (hHeld) (fun hHeld => ?_)
                clear hK K
                refine norm_ (a' := ?_) ?_ ?_
                rotate_left
                · show Act.put _ (some 83) _ = _
                  simp only [Act.put, List.setIfInBounds_toArray, List.set_cons_zero, List.set_cons_succ, i64_w, i32_w]
                  rfl
                refine pure_ (i := 8) (N := some 84) (v := ?_) (a' := ?_) #[true, true, true, true, true, true, true, true, true] rfl rfl (by kernel_rfl) (fun _ _ _ h => h) (Or.inl ⟨by rfl, ?_⟩) ?_ ?_
                rotate_left
                · intro w'
                  go_simp
                  with_reducible rfl
                rotate_left
                · simp only [Act.put, List.setIfInBounds_toArray, List.set_cons_zero, List.set_cons_succ, i64_w, i32_w]
                  rfl
                refine done_ (by kernel_rfl) ?_
                have H79 := Lib.hid (show (w8.drewN n9).heap[gb]? = some (.cells #[.int .i64 N', .slice FB F.length fc] 26 (0, 0)) from blk_kept H77.out hk8 (by show ¬ (gb = p); have := HS7.out; have := HLT.out; omega))
                have HZ9 := Lib.hid (show (w8.drewN n9).heap[w.heap.size]? = some (.cells #[.int .i64 0, .slice none 0 0] 26 (0, 0)) from blk_kept HZ7.out hk8 (by show ¬ (w.heap.size = p); have := HLT.out; omega))
                have HK9 := Lib.hid (show Kept wz (w8.drewN n9) (fun k => k = p) from hk8)
                have HP9 := Lib.hid (show (w8.drewN n9).heap[p]? = some (.cells #[.int .i64 N', .slice FB F.length fc, .bool true] 79 (0, 0)) from hp8)
                have HB9 := Lib.hid (show Below p w (w8.drewN n9) from (HB7.out.mono (Nat.le_of_lt HLT.out)).trans (below_drewN (below_undrew2 hb8) n9))
                clear hk8 hp8 hb8 hdec htk
                go_wp2_with (first
                  | ((with_reducible refine gate_dst (N := 87) rfl ?_); refine load_grid rfl (.tmp 7) rfl (g := gb) ?hx (u := .int .i64 N') (v := .slice FB F.length fc) H79.out ?_; (case hx => go_simp))
                  | ((with_reducible refine gate_store (t := 26) (p := 4) rfl ?_); refine store_grid rfl rfl (.tmp 4) (.tmp 87) rfl (g := w.heap.size) ?hp (u := (N' : Int)) (A := FB) (n := F.length) (c := fc) ?hv HZ9.out ?_; (case hp => go_simp); (case hv => go_simp); intro wE hhE hkE hbE; have HRE := Lib.hid hhE; have HKE := Lib.hid hkE; have HBE := Lib.hid hbE; clear hhE hkE hbE))
                obtain ⟨r1, r2, -, -⟩ := two_cells HRE.out
                refine bodyPost_ret (v := .tuple #[.agg #[.int .i64 N', .slice FB F.length fc], .int .i64 (8 + (m : Int))]) (by first | (simp [results, Try.results42, go_sem, r1, r2]; done) | (simp [results, Try.results42, go_sem, r1, r2]; exact HWS.out)) rfl ⟨?_, ?_, .inr ⟨N', F, FB, fc, 8 + m, ?_, by rw [Int.natCast_add]; rfl, ?_, ?_⟩⟩
                · exact ⟨Nat.le_trans (Nat.le_trans HB7.out.size HK9.out.1) HKE.out.1, fun k hk hne => ((HKE.out.2 k (Nat.lt_of_lt_of_le hk (Nat.le_trans HB7.out.size HK9.out.1)) (by show ¬ (k = w.heap.size); omega)).trans (HK9.out.2 k (Nat.lt_of_lt_of_le hk HB7.out.size) hne)).trans (HB7.out.block k hk)⟩
                · exact HB9.out.trans (HBE.out.mono (Nat.le_of_lt HLT.out))
                · have h := is_next (ah := (some (N', L'))) (b := b) (by rw [← hm.out]; exact HM1.out) (by rw [← hm.out]; exact HM2.out) HP.out HT.out (by rw [← hm.out, ← htkd.out]; exact HEQ.out)
                  rwa [← hm.out] at h
                · exact Kd.R_mono (Kd.R_kept (Kd.R_types (Kd.R_mono (Kd.R_kept (Kd.R_bound HRZ.out) HK9.out (fun k ho he => by have h1 := ho.2.1; have h2 := HLT.out; have h3 : k = p := he; omega)) (ok' := fun _ => True) (fun _ _ => trivial)) HZ9.out (by decide)) HKE.out (fun k ho he => ho.2 he)) (fun _ _ => trivial)
                · exact (HKE.out.2 p (Nat.lt_of_lt_of_le HLT.out (Nat.le_trans HB7.out.size HK9.out.1)) (by show ¬ (p = w.heap.size); have := HLT.out; omega)).trans HP9.out
              · have hdec : decide (recL (some (N', L')) (N', F) = tk) = false := decide_eq_false heq
                have HEQ := Lib.hid heq
                clear heq
                refine start_ (n := 9) (S := fun w' => w'.heap[gb]? = some (.cells #[.int .i64 N', .slice FB F.length fc] 26 (0, 0))) (ds := []) #[false, false, false, false, false, false, false, false, false] (by kernel_rfl) rfl rfl (H77.out) (fun hHeld => ?_)
                refine pure_ (i := 0) (N := some 76) (v := ?_) (a' := ?_) #[true, false, false, false, false, false, false, false, false] rfl rfl (by kernel_rfl) (fun _ _ _ h => h) (Or.inl ⟨by rfl, ?_⟩) ?_ ?_
                rotate_left
                · intro w'
                  go_simp
                  with_reducible rfl
                rotate_left
                · simp only [Act.put, List.setIfInBounds_toArray, List.set_cons_zero, List.set_cons_succ, i64_w, i32_w]
                  rfl
                refine pure_ (i := 3) (N := some 79) (v := ?_) (a' := ?_) #[true, false, false, true, false, false, false, false, false] rfl rfl (by kernel_rfl) (fun _ _ _ h => h) (Or.inl ⟨by rfl, ?_⟩) ?_ ?_
                rotate_left
                · intro w'
                  go_simp
                  with_reducible rfl
                rotate_left
                · simp only [Act.put, List.setIfInBounds_toArray, List.set_cons_zero, List.set_cons_succ, i64_w, i32_w]
                  rfl
                refine pure_ (i := 4) (N := some 80) (v := ?_) (a' := ?_) #[true, false, false, true, true, false, false, false, false] rfl rfl (by kernel_rfl) (fun _ _ _ h => h) (Or.inl ⟨by rfl, ?_⟩) ?_ ?_
                rotate_left
                · intro w'
                  go_simp
                  with_reducible rfl
                rotate_left
                · simp only [Act.put, List.setIfInBounds_toArray, List.set_cons_zero, List.set_cons_succ, i64_w, i32_w]
                  rfl
                refine pure_ (i := 5) (N := some 81) (v := ?_) (a' := ?_) #[true, false, false, true, true, true, false, false, false] rfl rfl (by kernel_rfl) (fun _ _ _ h => h) (Or.inl ⟨by rfl, ?_⟩) ?_ ?_
                rotate_left
                · intro w'
                  go_simp
                  with_reducible rfl
                rotate_left
                · simp only [Act.put, List.setIfInBounds_toArray, List.set_cons_zero, List.set_cons_succ, i64_w, i32_w]
                  rfl
                refine pure_ (i := 6) (N := some 82) (v := ?_) (a' := ?_) #[true, false, false, true, true, true, true, false, false] rfl rfl (by kernel_rfl) (fun _ _ _ h => h) (Or.inl ⟨by rfl, ?_⟩) ?_ ?_
                rotate_left
                · intro w'
                  go_simp
                  with_reducible rfl
                rotate_left
                · simp only [Act.put, List.setIfInBounds_toArray, List.set_cons_zero, List.set_cons_succ, i64_w, i32_w]
                  rfl
                refine take_ (i := 1) (N := some 77) (v := ?_) (a' := ?_) #[true, true, false, true, true, true, true, false, false] rfl rfl (by kernel_rfl) (fun _ _ _ h => h) (Or.inl ⟨by rfl, ?_⟩) hHeld ?_ ?_
                rotate_left
                · intro w' s0
                  refine Eq.trans (exec_load_grid (by rfl) (by rfl) s0) ?_
                  with_reducible rfl
                rotate_left
                · simp only [Act.put, List.setIfInBounds_toArray, List.set_cons_zero, List.set_cons_succ, i64_w, i32_w]
                  rfl
                refine one_ (i := 2) (N := some 78) #[true, true, true, true, true, true, true, false, false] rfl rfl (by kernel_rfl) (by decide) (fun K hK => ?_)
                refine goes_ Try.func40 (by kernel_rfl) rfl #[.pointer (some ⟨p, 0, none⟩), .agg #[.int .i64 N', .slice FB F.length fc]] (by rfl) rfl rfl (by simp only [List.map_toArray, List.map_cons, List.map_nil]; rfl) ?_
                with_reducible refine (record_any (some (N', L')) p N' FB fc F HFO.out HAH.out _ (Kd.R_reads' (Kd.R_below HRZ.out HDZ.out)).2.2 (HKZ.out.below HDZ.out)).mono ?_
                rintro e w8 ⟨u8, rfl, hr8, hb8, hk8, hp8⟩
                refine ⟨_, rfl, ?_⟩
                have HK8b := Lib.hid (show Kept wz w8 (fun k => k = p) from hk8)
                obtain ⟨UA, uc, rfl⟩ := Kd.R_slice hr8
                have HR8 := Lib.hid hr8
                clear hr8
                refine hK.out _ _ ((blk_kept H77.out hk8 (by show ¬ (gb = p); have := HS7.out; have := HLT.out; omega))) (fun hHeld => ?_)
                clear hK K
                refine norm_ (a' := ?_) ?_ ?_
                rotate_left
                · show Act.put _ (some 78) _ = _
                  simp only [Act.put, List.setIfInBounds_toArray, List.set_cons_zero, List.set_cons_succ, i64_w, i32_w]
                  rfl
                refine one_ (i := 7) (N := some 83) #[true, true, true, true, true, true, true, true, false] rfl rfl (by kernel_rfl) (by decide) (fun K hK => ?_)
                refine goes_ Try.func24 (by kernel_rfl) rfl #[.slice UA (recL (some (N', L')) (N', F)).length uc, .slice (some ad) tk.length c] (by rfl) rfl rfl (by simp only [List.map_toArray, List.map_cons, List.map_nil]; rfl) ?_
                with_reducible refine (equal_any UA uc (recL (some (N', L')) (N', F)) (some ad) c tk _ (Kd.R_reads' HR8.out).2.2 (Kd.R_reads' HR8.out).2.1 (HTC.out _ (C_keptp HA.out HB7.out HK8b.out HNP2.out)) HTL.out (recL_ok HFO.out HAH.out).2 HTB.out).mono ?_
                rintro e w9 ⟨rfl, ⟨n9, rfl⟩⟩
                refine ⟨_, rfl, ?_⟩
                rw [hdec]
                refine hK.out _ _ (hHeld) (fun hHeld => ?_)
                clear hK K
                refine norm_ (a' := ?_) ?_ ?_
                rotate_left
                · show Act.put _ (some 83) _ = _
                  simp only [Act.put, List.setIfInBounds_toArray, List.set_cons_zero, List.set_cons_succ, i64_w, i32_w]
                  rfl
                refine pure_ (i := 8) (N := some 84) (v := ?_) (a' := ?_) #[true, true, true, true, true, true, true, true, true] rfl rfl (by kernel_rfl) (fun _ _ _ h => h) (Or.inl ⟨by rfl, ?_⟩) ?_ ?_
                rotate_left
                · intro w'
                  go_simp
                  with_reducible rfl
                rotate_left
                · simp only [Act.put, List.setIfInBounds_toArray, List.set_cons_zero, List.set_cons_succ, i64_w, i32_w]
                  rfl
                refine done_ (by kernel_rfl) ?_
                have HK9 := Lib.hid (show Kept wz (w8.drewN n9) (fun k => k = p) from hk8)
                have HB9 := Lib.hid (show Below p w (w8.drewN n9) from (HB7.out.mono (Nat.le_of_lt HLT.out)).trans (below_drewN (below_undrew2 hb8) n9))
                clear hk8 hp8 hb8 hdec htk
                go_wp2
                exact ⟨rfl, ⟨Nat.le_trans HB7.out.size HK9.out.1, fun k hk hne => (HK9.out.2 k (Nat.lt_of_lt_of_le hk HB7.out.size) hne).trans (HB7.out.block k hk)⟩, HB9.out, .inl ⟨rfl, no_next_record HP.out HT.out (by rw [← hm.out, ← htkd.out]; exact HEQ.out)⟩⟩
            · have HNE := Lib.hid (show N' = N → False from hNN)
              refine start_ (n := 11) (S := fun w' => w'.heap[gb]? = some (.cells #[.int .i64 N, .slice UB L0.length cb] 26 (0, 0)) ∧ w'.cell? ⟨p, 0, none⟩ = some (.int .i64 N') ∧ w'.cell? ⟨p, 1, none⟩ = some (.slice A' L'.length c')) (ds := [9]) #[false, false, false, false, false, false, false, false, false, false, false] (by kernel_rfl) rfl rfl ⟨H75.out, (three_cells HKN.out).1.1, (three_cells HKN.out).1.2.1⟩ (fun hHeld => ?_)
              refine pure_ (i := 1) (N := some 65) (v := ?_) (a' := ?_) #[false, true, false, false, false, false, false, false, false, false, false] rfl rfl (by kernel_rfl) (fun _ _ _ h => h) (Or.inl ⟨by rfl, ?_⟩) ?_ ?_
              rotate_left
              · intro w'
                go_simp
                with_reducible rfl
              rotate_left
              · simp only [Act.put, List.setIfInBounds_toArray, List.set_cons_zero, List.set_cons_succ, i64_w, i32_w]
                rfl
              refine pure_ (i := 2) (N := some 66) (v := ?_) (a' := ?_) #[false, true, true, false, false, false, false, false, false, false, false] rfl rfl (by kernel_rfl) (fun _ _ _ h => h) (Or.inl ⟨by rfl, ?_⟩) ?_ ?_
              rotate_left
              · intro w'
                go_simp
                with_reducible rfl
              rotate_left
              · simp only [Act.put, List.setIfInBounds_toArray, List.set_cons_zero, List.set_cons_succ, i64_w, i32_w]
                rfl
              refine pure_ (i := 3) (N := some 67) (v := ?_) (a' := ?_) #[false, true, true, true, false, false, false, false, false, false, false] rfl rfl (by kernel_rfl) (fun _ _ _ h => h) (Or.inl ⟨by rfl, ?_⟩) ?_ ?_
              rotate_left
              · intro w'
                go_simp
                with_reducible rfl
              rotate_left
              · simp only [Act.put, List.setIfInBounds_toArray, List.set_cons_zero, List.set_cons_succ, i64_w, i32_w]
                rfl
              refine take_ (i := 0) (N := some 64) (v := ?_) (a' := ?_) #[true, true, true, true, false, false, false, false, false, false, false] rfl rfl (by kernel_rfl) (fun _ _ _ h => h) (Or.inl ⟨by rfl, ?_⟩) hHeld ?_ ?_
              rotate_left
              · rintro w' ⟨s0, s1, s2⟩
                refine Eq.trans (exec_load_grid (by rfl) (by rfl) s0) ?_
                with_reducible rfl
              rotate_left
              · simp only [Act.put, List.setIfInBounds_toArray, List.set_cons_zero, List.set_cons_succ, i64_w, i32_w]
                rfl
              refine take_ (i := 4) (N := some 68) (v := ?_) (a' := ?_) #[true, true, true, true, true, false, false, false, false, false, false] rfl rfl (by kernel_rfl) (fun _ _ _ h => h) (Or.inl ⟨by rfl, ?_⟩) hHeld ?_ ?_
              rotate_left
              · rintro w' ⟨s0, s1, s2⟩
                refine Eq.trans (exec_load2 (by rfl) (by rfl) s1 s2) ?_
                with_reducible rfl
              rotate_left
              · simp only [Act.put, List.setIfInBounds_toArray, List.set_cons_zero, List.set_cons_succ, i64_w, i32_w]
                rfl
              refine one_ (i := 5) (N := some 69) #[true, true, true, true, true, true, false, false, false, false, false] rfl rfl (by kernel_rfl) (by decide) (fun K hK => ?_)
              refine goes_ Try.func55 (by kernel_rfl) rfl #[.agg #[.int .i64 N, .slice UB L0.length cb], .agg #[.int .i64 N', .slice A' L'.length c']] (by rfl) rfl rfl (by simp only [List.map_toArray, List.map_cons, List.map_nil]; rfl) ?_
              with_reducible refine (change_ne N N' HP.out.side HF'.out.side (fun e => HNE.out e.symm) UB A' cb c' L0.length L'.length HP.out.len HF'.out.len _).mono ?_
              rintro e w6 ⟨rfl, hb6⟩
              refine ⟨_, rfl, ?_⟩
              refine hK.out _ _ ⟨(blk_below H75.out (below_undrew hb6)), (three_cells (blk_below HKN.out (below_undrew hb6))).1.1, (three_cells (blk_below HKN.out (below_undrew hb6))).1.2.1⟩ (fun hHeld => ?_)
              clear hK K
              refine norm_ (a' := ?_) ?_ ?_
              rotate_left
              · show Act.put _ (some 69) _ = _
                simp only [Act.put, List.setIfInBounds_toArray, List.set_cons_zero, List.set_cons_succ, i64_w, i32_w]
                rfl
              refine pure_ (i := 6) (N := some 63) (v := ?_) (a' := ?_) #[true, true, true, true, true, true, true, false, false, false, false] rfl rfl (by kernel_rfl) (fun _ _ _ h => h) (Or.inl ⟨by rfl, ?_⟩) ?_ ?_
              rotate_left
              · intro w'
                go_simp
                with_reducible rfl
              rotate_left
              · simp only [Act.put, List.setIfInBounds_toArray, List.set_cons_zero, List.set_cons_succ, i64_w, i32_w]
                rfl
              refine pure_ (i := 7) (N := some 70) (v := ?_) (a' := ?_) #[true, true, true, true, true, true, true, true, false, false, false] rfl rfl (by kernel_rfl) (fun _ _ _ h => h) (Or.inl ⟨by rfl, ?_⟩) ?_ ?_
              rotate_left
              · intro w'
                go_simp
                with_reducible rfl
              rotate_left
              · simp only [Act.put, List.setIfInBounds_toArray, List.set_cons_zero, List.set_cons_succ, i64_w, i32_w]
                rfl
              refine pure_ (i := 8) (N := some 71) (v := ?_) (a' := ?_) #[true, true, true, true, true, true, true, true, true, false, false] rfl rfl (by kernel_rfl) (fun _ _ _ h => h) (Or.inl ⟨by rfl, ?_⟩) ?_ ?_
              rotate_left
              · intro w'
                go_simp
                with_reducible rfl
              rotate_left
              · simp only [Act.put, List.setIfInBounds_toArray, List.set_cons_zero, List.set_cons_succ, i64_w, i32_w]
                rfl
              refine last_ (i := 9) (N := none) #[true, true, true, true, true, true, true, true, true, true, false] rfl rfl (by kernel_rfl) (by decide) (fun K hK => ?_)
              refine store_grid_step (by rfl) rfl (.tmp 7) (.tmp 70) rfl (g := gb) (by rfl) (u := 0) (A := none) (n := 0) (c := 0) (by rfl) (blk_below H75.out (below_undrew hb6)) ?_
              intro w7 hh7 hk7 hb7
              refine hK.out _ _ ?_
              clear hK K
              refine pure_ (i := 10) (N := some 8) (v := ?_) (a' := ?_) #[true, true, true, true, true, true, true, true, true, true, true] rfl rfl (by kernel_rfl) (fun _ _ _ h => h) (Or.inl ⟨by rfl, ?_⟩) ?_ ?_
              rotate_left
              · intro w'
                go_simp
                with_reducible rfl
              rotate_left
              · simp only [Act.put, List.setIfInBounds_toArray, List.set_cons_zero, List.set_cons_succ, i64_w, i32_w]
                rfl
              refine done_ (by kernel_rfl) ?_
              have HB6 := Lib.hid (HB5.out.trans ((below_undrew hb6).mono HB5.out.size))
              have HB7 := Lib.hid (HB6.out.trans (hb7.mono (Nat.le_of_lt HS7.out)))
              clear hb6 hh7 hk7 hb7 hx81 h85
              go_wp2
              exact ⟨rfl, read_no HLT.out HB7.out (no_next_ahead HP.out (by rw [← e8.out]) (by intro L2 e; injection e with e; injection e with e _; exact HNE.out e))⟩
        · have hx81 : (x8 == 1) = false := by rw [beq_eq_false_iff_ne]; exact hk
          have HXK := Lib.hid hk
          clear hk
          go_upto_region 9 with (fail)
          rw [HW5.out, HGB.out]
          have HT := Lib.hid (show told ah b N L0 (N, L0) from by unfold told; rw [if_neg (by rw [← e8.out]; exact HXK.out)])
          have HKZ := HK5
          have HB7 := HB5
          have HZ7 := HZ5
          have HRZ := HR5
          have H77 := H75
          obtain ⟨F, hF⟩ : ∃ F, F = L0 := ⟨_, rfl⟩
          obtain ⟨FB, hFB⟩ : ∃ FB, FB = UB := ⟨_, rfl⟩
          obtain ⟨fc, hfc⟩ : ∃ fc, fc = cb := ⟨_, rfl⟩
          obtain ⟨wz, hwz⟩ : ∃ wz : World, wz = w5 := ⟨_, rfl⟩
          have HT2 := Lib.hid (show told ah b N L0 (N, F) by rw [hF]; exact HT.out)
          clear HT
          have HT := HT2
          rw [← hF, ← hFB, ← hfc, ← hwz] at H77
          rw [← hF, ← hFB, ← hfc, ← hwz] at HRZ
          rw [← hwz] at HB7 HZ7 HKZ h85
          rw [← hwz]
          clear hF hFB hfc hwz HT2 H75 HZ5 HR5 HK5 HB5 HB4 HW5
          go_upto_region 13 with (fail)
          have HFO := Lib.hid (told_ok HAH.out HP.out HT.out)
          obtain ⟨htk, htc, htl⟩ := slice_take (some ad) c b m HC.out HM2.out
          obtain ⟨tk, htkd⟩ : ∃ tk, tk = b.take (8 + m) := ⟨_, rfl⟩
          rw [← htkd] at htk htc htl
          have HTC := Lib.hid htc
          have HTL := Lib.hid htl
          have HTB := Lib.hid (show Bytes tk by rw [htkd]; exact btake HBY.out _)
          replace htkd := Lib.hid htkd
          clear htc htl hx81 h85
          have hws := HWS.out
          have HDZ := Lib.hid (show Below wz.heap.size wz wz.drew from below_drewN (Below.refl _ _) 1)
          by_cases heq : recL ah (N, F) = tk
          · have hdec : decide (recL ah (N, F) = tk) = true := decide_eq_true heq
            have HEQ := Lib.hid heq
            clear heq
            refine start_ (n := 9) (S := fun w' => w'.heap[gb]? = some (.cells #[.int .i64 N, .slice FB F.length fc] 26 (0, 0))) (ds := []) #[false, false, false, false, false, false, false, false, false] (by kernel_rfl) rfl rfl (H77.out) (fun hHeld => ?_)
            refine pure_ (i := 0) (N := some 76) (v := ?_) (a' := ?_) #[true, false, false, false, false, false, false, false, false] rfl rfl (by kernel_rfl) (fun _ _ _ h => h) (Or.inl ⟨by rfl, ?_⟩) ?_ ?_
            rotate_left
            · intro w'
              go_simp
              with_reducible rfl
            rotate_left
            · simp only [Act.put, List.setIfInBounds_toArray, List.set_cons_zero, List.set_cons_succ, i64_w, i32_w]
              rfl
            refine pure_ (i := 3) (N := some 79) (v := ?_) (a' := ?_) #[true, false, false, true, false, false, false, false, false] rfl rfl (by kernel_rfl) (fun _ _ _ h => h) (Or.inl ⟨by rfl, ?_⟩) ?_ ?_
            rotate_left
            · intro w'
              go_simp
              with_reducible rfl
            rotate_left
            · simp only [Act.put, List.setIfInBounds_toArray, List.set_cons_zero, List.set_cons_succ, i64_w, i32_w]
              rfl
            refine pure_ (i := 4) (N := some 80) (v := ?_) (a' := ?_) #[true, false, false, true, true, false, false, false, false] rfl rfl (by kernel_rfl) (fun _ _ _ h => h) (Or.inl ⟨by rfl, ?_⟩) ?_ ?_
            rotate_left
            · intro w'
              go_simp
              with_reducible rfl
            rotate_left
            · simp only [Act.put, List.setIfInBounds_toArray, List.set_cons_zero, List.set_cons_succ, i64_w, i32_w]
              rfl
            refine pure_ (i := 5) (N := some 81) (v := ?_) (a' := ?_) #[true, false, false, true, true, true, false, false, false] rfl rfl (by kernel_rfl) (fun _ _ _ h => h) (Or.inl ⟨by rfl, ?_⟩) ?_ ?_
            rotate_left
            · intro w'
              go_simp
              with_reducible rfl
            rotate_left
            · simp only [Act.put, List.setIfInBounds_toArray, List.set_cons_zero, List.set_cons_succ, i64_w, i32_w]
              rfl
            refine pure_ (i := 6) (N := some 82) (v := ?_) (a' := ?_) #[true, false, false, true, true, true, true, false, false] rfl rfl (by kernel_rfl) (fun _ _ _ h => h) (Or.inl ⟨by rfl, ?_⟩) ?_ ?_
            rotate_left
            · intro w'
              go_simp
              with_reducible rfl
            rotate_left
            · simp only [Act.put, List.setIfInBounds_toArray, List.set_cons_zero, List.set_cons_succ, i64_w, i32_w]
              rfl
            refine take_ (i := 1) (N := some 77) (v := ?_) (a' := ?_) #[true, true, false, true, true, true, true, false, false] rfl rfl (by kernel_rfl) (fun _ _ _ h => h) (Or.inl ⟨by rfl, ?_⟩) hHeld ?_ ?_
            rotate_left
            · intro w' s0
              refine Eq.trans (exec_load_grid (by rfl) (by rfl) s0) ?_
              with_reducible rfl
            rotate_left
            · simp only [Act.put, List.setIfInBounds_toArray, List.set_cons_zero, List.set_cons_succ, i64_w, i32_w]
              rfl
            refine one_ (i := 2) (N := some 78) #[true, true, true, true, true, true, true, false, false] rfl rfl (by kernel_rfl) (by decide) (fun K hK => ?_)
            refine goes_ Try.func40 (by kernel_rfl) rfl #[.pointer (some ⟨p, 0, none⟩), .agg #[.int .i64 N, .slice FB F.length fc]] (by rfl) rfl rfl (by simp only [List.map_toArray, List.map_cons, List.map_nil]; rfl) ?_
            with_reducible refine (record_any ah p N FB fc F HFO.out HAH.out _ (Kd.R_reads' (Kd.R_below HRZ.out HDZ.out)).2.2 (HKZ.out.below HDZ.out)).mono ?_
            rintro e w8 ⟨u8, rfl, hr8, hb8, hk8, hp8⟩
            refine ⟨_, rfl, ?_⟩
            have HK8b := Lib.hid (show Kept wz w8 (fun k => k = p) from hk8)
            obtain ⟨UA, uc, rfl⟩ := Kd.R_slice hr8
            have HR8 := Lib.hid hr8
            clear hr8
            refine hK.out _ _ ((blk_kept H77.out hk8 (by show ¬ (gb = p); have := HS7.out; have := HLT.out; omega))) (fun hHeld => ?_)
            clear hK K
            refine norm_ (a' := ?_) ?_ ?_
            rotate_left
            · show Act.put _ (some 78) _ = _
              simp only [Act.put, List.setIfInBounds_toArray, List.set_cons_zero, List.set_cons_succ, i64_w, i32_w]
              rfl
            refine one_ (i := 7) (N := some 83) #[true, true, true, true, true, true, true, true, false] rfl rfl (by kernel_rfl) (by decide) (fun K hK => ?_)
            refine goes_ Try.func24 (by kernel_rfl) rfl #[.slice UA (recL ah (N, F)).length uc, .slice (some ad) tk.length c] (by rfl) rfl rfl (by simp only [List.map_toArray, List.map_cons, List.map_nil]; rfl) ?_
            with_reducible refine (equal_any UA uc (recL ah (N, F)) (some ad) c tk _ (Kd.R_reads' HR8.out).2.2 (Kd.R_reads' HR8.out).2.1 (HTC.out _ (C_keptp HA.out HB7.out HK8b.out HNP2.out)) HTL.out (recL_ok HFO.out HAH.out).2 HTB.out).mono ?_
            rintro e w9 ⟨rfl, ⟨n9, rfl⟩⟩
            refine ⟨_, rfl, ?_⟩
            rw [hdec]
            refine hK.out _ _ (hHeld) (fun hHeld => ?_)
            clear hK K
            refine norm_ (a' := ?_) ?_ ?_
            rotate_left
            · show Act.put _ (some 83) _ = _
              simp only [Act.put, List.setIfInBounds_toArray, List.set_cons_zero, List.set_cons_succ, i64_w, i32_w]
              rfl
            refine pure_ (i := 8) (N := some 84) (v := ?_) (a' := ?_) #[true, true, true, true, true, true, true, true, true] rfl rfl (by kernel_rfl) (fun _ _ _ h => h) (Or.inl ⟨by rfl, ?_⟩) ?_ ?_
            rotate_left
            · intro w'
              go_simp
              with_reducible rfl
            rotate_left
            · simp only [Act.put, List.setIfInBounds_toArray, List.set_cons_zero, List.set_cons_succ, i64_w, i32_w]
              rfl
            refine done_ (by kernel_rfl) ?_
            have H79 := Lib.hid (show (w8.drewN n9).heap[gb]? = some (.cells #[.int .i64 N, .slice FB F.length fc] 26 (0, 0)) from blk_kept H77.out hk8 (by show ¬ (gb = p); have := HS7.out; have := HLT.out; omega))
            have HZ9 := Lib.hid (show (w8.drewN n9).heap[w.heap.size]? = some (.cells #[.int .i64 0, .slice none 0 0] 26 (0, 0)) from blk_kept HZ7.out hk8 (by show ¬ (w.heap.size = p); have := HLT.out; omega))
            have HK9 := Lib.hid (show Kept wz (w8.drewN n9) (fun k => k = p) from hk8)
            have HP9 := Lib.hid (show (w8.drewN n9).heap[p]? = some (.cells #[.int .i64 N, .slice FB F.length fc, .bool true] 79 (0, 0)) from hp8)
            have HB9 := Lib.hid (show Below p w (w8.drewN n9) from (HB7.out.mono (Nat.le_of_lt HLT.out)).trans (below_drewN (below_undrew2 hb8) n9))
            clear hk8 hp8 hb8 hdec htk
            go_wp2_with (first
              | ((with_reducible refine gate_dst (N := 87) rfl ?_); refine load_grid rfl (.tmp 7) rfl (g := gb) ?hx (u := .int .i64 N) (v := .slice FB F.length fc) H79.out ?_; (case hx => go_simp))
              | ((with_reducible refine gate_store (t := 26) (p := 4) rfl ?_); refine store_grid rfl rfl (.tmp 4) (.tmp 87) rfl (g := w.heap.size) ?hp (u := (N : Int)) (A := FB) (n := F.length) (c := fc) ?hv HZ9.out ?_; (case hp => go_simp); (case hv => go_simp); intro wE hhE hkE hbE; have HRE := Lib.hid hhE; have HKE := Lib.hid hkE; have HBE := Lib.hid hbE; clear hhE hkE hbE))
            obtain ⟨r1, r2, -, -⟩ := two_cells HRE.out
            refine bodyPost_ret (v := .tuple #[.agg #[.int .i64 N, .slice FB F.length fc], .int .i64 (8 + (m : Int))]) (by first | (simp [results, Try.results42, go_sem, r1, r2]; done) | (simp [results, Try.results42, go_sem, r1, r2]; exact HWS.out)) rfl ⟨?_, ?_, .inr ⟨N, F, FB, fc, 8 + m, ?_, by rw [Int.natCast_add]; rfl, ?_, ?_⟩⟩
            · exact ⟨Nat.le_trans (Nat.le_trans HB7.out.size HK9.out.1) HKE.out.1, fun k hk hne => ((HKE.out.2 k (Nat.lt_of_lt_of_le hk (Nat.le_trans HB7.out.size HK9.out.1)) (by show ¬ (k = w.heap.size); omega)).trans (HK9.out.2 k (Nat.lt_of_lt_of_le hk HB7.out.size) hne)).trans (HB7.out.block k hk)⟩
            · exact HB9.out.trans (HBE.out.mono (Nat.le_of_lt HLT.out))
            · have h := is_next (ah := ah) (b := b) (by rw [← hm.out]; exact HM1.out) (by rw [← hm.out]; exact HM2.out) HP.out HT.out (by rw [← hm.out, ← htkd.out]; exact HEQ.out)
              rwa [← hm.out] at h
            · exact Kd.R_mono (Kd.R_kept (Kd.R_types (Kd.R_mono (Kd.R_kept (Kd.R_bound HRZ.out) HK9.out (fun k ho he => by have h1 := ho.2.1; have h2 := HLT.out; have h3 : k = p := he; omega)) (ok' := fun _ => True) (fun _ _ => trivial)) HZ9.out (by decide)) HKE.out (fun k ho he => ho.2 he)) (fun _ _ => trivial)
            · exact (HKE.out.2 p (Nat.lt_of_lt_of_le HLT.out (Nat.le_trans HB7.out.size HK9.out.1)) (by show ¬ (p = w.heap.size); have := HLT.out; omega)).trans HP9.out
          · have hdec : decide (recL ah (N, F) = tk) = false := decide_eq_false heq
            have HEQ := Lib.hid heq
            clear heq
            refine start_ (n := 9) (S := fun w' => w'.heap[gb]? = some (.cells #[.int .i64 N, .slice FB F.length fc] 26 (0, 0))) (ds := []) #[false, false, false, false, false, false, false, false, false] (by kernel_rfl) rfl rfl (H77.out) (fun hHeld => ?_)
            refine pure_ (i := 0) (N := some 76) (v := ?_) (a' := ?_) #[true, false, false, false, false, false, false, false, false] rfl rfl (by kernel_rfl) (fun _ _ _ h => h) (Or.inl ⟨by rfl, ?_⟩) ?_ ?_
            rotate_left
            · intro w'
              go_simp
              with_reducible rfl
            rotate_left
            · simp only [Act.put, List.setIfInBounds_toArray, List.set_cons_zero, List.set_cons_succ, i64_w, i32_w]
              rfl
            refine pure_ (i := 3) (N := some 79) (v := ?_) (a' := ?_) #[true, false, false, true, false, false, false, false, false] rfl rfl (by kernel_rfl) (fun _ _ _ h => h) (Or.inl ⟨by rfl, ?_⟩) ?_ ?_
            rotate_left
            · intro w'
              go_simp
              with_reducible rfl
            rotate_left
            · simp only [Act.put, List.setIfInBounds_toArray, List.set_cons_zero, List.set_cons_succ, i64_w, i32_w]
              rfl
            refine pure_ (i := 4) (N := some 80) (v := ?_) (a' := ?_) #[true, false, false, true, true, false, false, false, false] rfl rfl (by kernel_rfl) (fun _ _ _ h => h) (Or.inl ⟨by rfl, ?_⟩) ?_ ?_
            rotate_left
            · intro w'
              go_simp
              with_reducible rfl
            rotate_left
            · simp only [Act.put, List.setIfInBounds_toArray, List.set_cons_zero, List.set_cons_succ, i64_w, i32_w]
              rfl
            refine pure_ (i := 5) (N := some 81) (v := ?_) (a' := ?_) #[true, false, false, true, true, true, false, false, false] rfl rfl (by kernel_rfl) (fun _ _ _ h => h) (Or.inl ⟨by rfl, ?_⟩) ?_ ?_
            rotate_left
            · intro w'
              go_simp
              with_reducible rfl
            rotate_left
            · simp only [Act.put, List.setIfInBounds_toArray, List.set_cons_zero, List.set_cons_succ, i64_w, i32_w]
              rfl
            refine pure_ (i := 6) (N := some 82) (v := ?_) (a' := ?_) #[true, false, false, true, true, true, true, false, false] rfl rfl (by kernel_rfl) (fun _ _ _ h => h) (Or.inl ⟨by rfl, ?_⟩) ?_ ?_
            rotate_left
            · intro w'
              go_simp
              with_reducible rfl
            rotate_left
            · simp only [Act.put, List.setIfInBounds_toArray, List.set_cons_zero, List.set_cons_succ, i64_w, i32_w]
              rfl
            refine take_ (i := 1) (N := some 77) (v := ?_) (a' := ?_) #[true, true, false, true, true, true, true, false, false] rfl rfl (by kernel_rfl) (fun _ _ _ h => h) (Or.inl ⟨by rfl, ?_⟩) hHeld ?_ ?_
            rotate_left
            · intro w' s0
              refine Eq.trans (exec_load_grid (by rfl) (by rfl) s0) ?_
              with_reducible rfl
            rotate_left
            · simp only [Act.put, List.setIfInBounds_toArray, List.set_cons_zero, List.set_cons_succ, i64_w, i32_w]
              rfl
            refine one_ (i := 2) (N := some 78) #[true, true, true, true, true, true, true, false, false] rfl rfl (by kernel_rfl) (by decide) (fun K hK => ?_)
            refine goes_ Try.func40 (by kernel_rfl) rfl #[.pointer (some ⟨p, 0, none⟩), .agg #[.int .i64 N, .slice FB F.length fc]] (by rfl) rfl rfl (by simp only [List.map_toArray, List.map_cons, List.map_nil]; rfl) ?_
            with_reducible refine (record_any ah p N FB fc F HFO.out HAH.out _ (Kd.R_reads' (Kd.R_below HRZ.out HDZ.out)).2.2 (HKZ.out.below HDZ.out)).mono ?_
            rintro e w8 ⟨u8, rfl, hr8, hb8, hk8, hp8⟩
            refine ⟨_, rfl, ?_⟩
            have HK8b := Lib.hid (show Kept wz w8 (fun k => k = p) from hk8)
            obtain ⟨UA, uc, rfl⟩ := Kd.R_slice hr8
            have HR8 := Lib.hid hr8
            clear hr8
            refine hK.out _ _ ((blk_kept H77.out hk8 (by show ¬ (gb = p); have := HS7.out; have := HLT.out; omega))) (fun hHeld => ?_)
            clear hK K
            refine norm_ (a' := ?_) ?_ ?_
            rotate_left
            · show Act.put _ (some 78) _ = _
              simp only [Act.put, List.setIfInBounds_toArray, List.set_cons_zero, List.set_cons_succ, i64_w, i32_w]
              rfl
            refine one_ (i := 7) (N := some 83) #[true, true, true, true, true, true, true, true, false] rfl rfl (by kernel_rfl) (by decide) (fun K hK => ?_)
            refine goes_ Try.func24 (by kernel_rfl) rfl #[.slice UA (recL ah (N, F)).length uc, .slice (some ad) tk.length c] (by rfl) rfl rfl (by simp only [List.map_toArray, List.map_cons, List.map_nil]; rfl) ?_
            with_reducible refine (equal_any UA uc (recL ah (N, F)) (some ad) c tk _ (Kd.R_reads' HR8.out).2.2 (Kd.R_reads' HR8.out).2.1 (HTC.out _ (C_keptp HA.out HB7.out HK8b.out HNP2.out)) HTL.out (recL_ok HFO.out HAH.out).2 HTB.out).mono ?_
            rintro e w9 ⟨rfl, ⟨n9, rfl⟩⟩
            refine ⟨_, rfl, ?_⟩
            rw [hdec]
            refine hK.out _ _ (hHeld) (fun hHeld => ?_)
            clear hK K
            refine norm_ (a' := ?_) ?_ ?_
            rotate_left
            · show Act.put _ (some 83) _ = _
              simp only [Act.put, List.setIfInBounds_toArray, List.set_cons_zero, List.set_cons_succ, i64_w, i32_w]
              rfl
            refine pure_ (i := 8) (N := some 84) (v := ?_) (a' := ?_) #[true, true, true, true, true, true, true, true, true] rfl rfl (by kernel_rfl) (fun _ _ _ h => h) (Or.inl ⟨by rfl, ?_⟩) ?_ ?_
            rotate_left
            · intro w'
              go_simp
              with_reducible rfl
            rotate_left
            · simp only [Act.put, List.setIfInBounds_toArray, List.set_cons_zero, List.set_cons_succ, i64_w, i32_w]
              rfl
            refine done_ (by kernel_rfl) ?_
            have HK9 := Lib.hid (show Kept wz (w8.drewN n9) (fun k => k = p) from hk8)
            have HB9 := Lib.hid (show Below p w (w8.drewN n9) from (HB7.out.mono (Nat.le_of_lt HLT.out)).trans (below_drewN (below_undrew2 hb8) n9))
            clear hk8 hp8 hb8 hdec htk
            go_wp2
            exact ⟨rfl, ⟨Nat.le_trans HB7.out.size HK9.out.1, fun k hk hne => (HK9.out.2 k (Nat.lt_of_lt_of_le hk HB7.out.size) hne).trans (HB7.out.block k hk)⟩, HB9.out, .inl ⟨rfl, no_next_record HP.out HT.out (by rw [← hm.out, ← htkd.out]; exact HEQ.out)⟩⟩
end Go.Proofs.Ytomildjihlbbmaa
