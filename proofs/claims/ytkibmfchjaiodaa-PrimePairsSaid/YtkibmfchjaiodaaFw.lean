import Derived.Test.YtkibmfchjaiodaaFns
import Derived.Test.YtkibmfchjaiodaaCx
namespace Go.Proofs.Ytkibmfchjaiodaa
open Go.RowKit
open Go.Proofs.YtkibmfchjaiodaaW.PrintWords
set_option linter.unusedVariables false

/-- the numbers 0 to 10 as floats -/
def fb (n : Nat) : Nat := FloatKind.f64.nearest n
/-- the place in list m of the line through cell i of the grid of side 2 -/
def lineAt (m i : Nat) : Nat := if m = 2 then i % 2 else (i / 2 + m * (i % 2)) % 2
/-- the sum in list m at place t when i cells have been added -/
def part (m i t : Nat) : Nat := ((List.range i).filter fun j => lineAt m j == t).foldl (fun s j => s + (j + 1)) 0

theorem at_n (m i : Nat) (hm : m < 3) (hi : i < 4) (w : World) :
    Calls Try.prog 13 #[.int .i64 2, .int .i64 m, .int .i64 ((i : Int) % 2), .int .i64 ((i : Int) / 2)] w fun e w' => e = .returned (.int .i64 (lineAt m i)) ∧ Drawn0 w w' := by
  have h : PPrimeLines.prime_at.f 2 m ((i : Int) % 2) ((i : Int) / 2) = some (lineAt m i : Int) := by
    have : ∀ m, m < 3 → ∀ i, i < 4 → PPrimeLines.prime_at.f 2 (m : Nat) ((i : Nat) % 2 : Int) ((i : Int) / 2) = some (lineAt m i : Int) := by decide +kernel
    exact this m hm i hi
  exact (PPrimeLines.prime_at.calls _ _ _ _ _ w h)

theorem fb_small (n : Nat) (h : n ≤ 4) : small (fb n) := by
  have : n = 0 ∨ n = 1 ∨ n = 2 ∨ n = 3 ∨ n = 4 := by omega
  unfold small
  rcases this with rfl | rfl | rfl | rfl | rfl
  · exact .inl (by kernel_rfl)
  · exact .inr (.inl (by kernel_rfl))
  · exact .inr (.inr (.inl (by kernel_rfl)))
  · exact .inr (.inr (.inr (.inl (by kernel_rfl))))
  · exact .inr (.inr (.inr (.inr (by kernel_rfl))))

theorem add_fb : ∀ a, a < 11 → ∀ b, b < 5 → cSumBits .add .f64 (fb a) 0 (fb b) 0 = some (fb (a + b), 0) := by decide +kernel
theorem pl_fb : ∀ a, a < 15 → pl (fb a) = fb a := by decide +kernel
theorem part_le : ∀ m, m < 3 → ∀ i, i < 4 → ∀ t, t < 2 → part m i t < 11 := by decide
theorem part_hit : ∀ m, m < 3 → ∀ i, i < 4 → part m (i + 1) (lineAt m i) = part m i (lineAt m i) + (i + 1) := by decide
theorem part_miss : ∀ m, m < 3 → ∀ i, i < 4 → part m (i + 1) (1 - lineAt m i) = part m i (1 - lineAt m i) := by decide
theorem lineAt_lt : ∀ m, m < 3 → ∀ i, i < 4 → lineAt m i < 2 := by decide

theorem is2 (w : World) : Calls Try.prog 8 #[.int .i64 2] w fun e w' => e = .returned (.bool true) ∧ Drawn0 w w' := PPrimeLines.prime_Is.calls 0 2 true w (by kernel_rfl)
theorem is61 (w : World) : Calls Try.prog 8 #[.int .i64 61] w fun e w' => e = .returned (.bool true) ∧ Drawn0 w w' := PPrimeLines.prime_Is.calls 0 61 true w (by kernel_rfl)
theorem is1 (w : World) : Calls Try.prog 8 #[.int .i64 1] w fun e w' => e = .returned (.bool false) ∧ Drawn0 w w' := PPrimeLines.prime_Is.calls 0 1 false w (by kernel_rfl)

theorem mk3 (w : World) : (Instr.makeSlice 33 (.int .i64 3) (.int .i64 3)).run Try.prog w = .ok (.slice (some ⟨w.heap.size, 0, none⟩) 3 3) (w.alloc (.cells #[.slice none 0 0, .slice none 0 0, .slice none 0 0] 37)) := by kernel_rfl
theorem mk2 (w : World) : (Instr.makeSlice 37 (.int .i64 2) (.int .i64 2)).run Try.prog w = .ok (.slice (some ⟨w.heap.size, 0, none⟩) 2 2) (w.alloc (.cells #[.complex .f64 0 0, .complex .f64 0 0] 36)) := by kernel_rfl
theorem run_store_complex (P : Program) (w : World) (a : Addr) (m : Mode) (k : FloatKind) (x y : Nat) : (store a (.complex k x y) m).run P w = stored P w a (.complex k x y) m := run_store P w a _ m rfl
attribute [local go_sem] mk3 mk2 run_store_complex

/-- behind m lists: the block of the lists, and each list's own block -/
def rowV (L m j : Nat) : Value := if j < m then .slice (some ⟨L + 1 + j, 0, none⟩) 2 2 else .slice none 0 0
structure Lists (L m : Nat) (w : World) : Prop where
  size : w.heap.size = L + 1 + m
  top : w.heap[L]? = some (.cells #[rowV L m 0, rowV L m 1, rowV L m 2] 37)
  row : ∀ j, j < m → w.heap[L + 1 + j]? = some (.cells #[.complex .f64 (fb (part j 4 0)) 0, .complex .f64 (fb (part j 4 1)) 0] 36)

/-- in the midst of list m, behind q cells -/
structure Part (L m q : Nat) (w : World) : Prop where
  size : w.heap.size = L + 1 + m + 1
  top : w.heap[L]? = some (.cells #[rowV L (m + 1) 0, rowV L (m + 1) 1, rowV L (m + 1) 2] 37)
  row : ∀ j, j < m → w.heap[L + 1 + j]? = some (.cells #[.complex .f64 (fb (part j 4 0)) 0, .complex .f64 (fb (part j 4 1)) 0] 36)
  last : w.heap[L + 1 + m]? = some (.cells #[.complex .f64 (fb (part m q 0)) 0, .complex .f64 (fb (part m q 1)) 0] 36)

theorem cell_of_block {w : World} {b o : Nat} {c : Array Value} {t : TypeId} {fr : Nat × Nat} {v : Value} (h : w.heap[b]? = some (.cells c t fr)) (hv : c[o]? = some v) : w.cell? ⟨b, o, none⟩ = some v := by
  simp [World.cell?, h, hv]
theorem free_of_block {w : World} {b o : Nat} {c : Array Value} {t : TypeId} (h : w.heap[b]? = some (.cells c t (0, 0))) : w.frozen? ⟨b, o, none⟩ = false := by
  simp [World.frozen?, h]
theorem set_block {w : World} {b o : Nat} {c : Array Value} {t : TypeId} {fr : Nat × Nat} (h : w.heap[b]? = some (.cells c t fr)) (v : Value) : (w.setCell ⟨b, o, none⟩ v).heap[b]? = some (.cells (c.setIfInBounds o v) t fr) := by
  simp only [World.setCell, Array.getElem?_modify, if_pos, h]
  rfl
theorem set_other {w : World} {b k o : Nat} {v : Value} (h : k ≠ b) : (w.setCell ⟨b, o, none⟩ v).heap[k]? = w.heap[k]? := Below.heap_setCell w ⟨b, o, none⟩ v k h
theorem alloc_new (w : World) (o : Obj) : (w.alloc o).heap[w.heap.size]? = some o := by
  show (w.heap.push o)[w.heap.size]? = some o
  simp
theorem Lists.cell {L m : Nat} {w : World} (h : Lists L m w) (hm : m < 3) : w.cell? ⟨L, m, none⟩ = some (.slice none 0 0) := by
  have : m = 0 ∨ m = 1 ∨ m = 2 := by omega
  refine cell_of_block h.top ?_
  rcases this with rfl | rfl | rfl <;> simp [rowV]
theorem Lists.begin {L m : Nat} {w : World} (h : Lists L m w) (hm : m < 3) : Part L m 0 ((w.setCell ⟨L, m, none⟩ (.slice (some ⟨L + 1 + m, 0, none⟩) 2 2)).alloc (.cells #[.complex .f64 0 0, .complex .f64 0 0] 36)) := by
  have hs := h.size
  have hs2 : (w.setCell ⟨L, m, none⟩ (.slice (some ⟨L + 1 + m, 0, none⟩) 2 2)).heap.size = L + 1 + m := by simp [World.setCell]; exact hs
  refine ⟨by simp; omega, ?_, ?_, ?_⟩
  · rw [Below.heap_alloc _ _ _ (by omega), set_block h.top]
    have : m = 0 ∨ m = 1 ∨ m = 2 := by omega
    rcases this with rfl | rfl | rfl <;> simp [rowV]
  · intro j hj
    rw [Below.heap_alloc _ _ _ (by omega), set_other (by omega)]
    exact h.row j hj
  · have hn : ∀ (w1 : World) (o : Obj) (k : Nat), w1.heap.size = k → (w1.alloc o).heap[k]? = some o := fun w1 o k e => by subst e; exact alloc_new _ _
    rw [hn _ _ _ hs2]
    have e : ∀ t, part m 0 t = 0 := fun t => rfl
    rw [e, e]
    rfl
theorem Part.topcell {L m q : Nat} {w : World} (h : Part L m q w) (hm : m < 3) : w.cell? ⟨L, m, none⟩ = some (.slice (some ⟨L + 1 + m, 0, none⟩) 2 2) := by
  have : m = 0 ∨ m = 1 ∨ m = 2 := by omega
  refine cell_of_block h.top ?_
  rcases this with rfl | rfl | rfl <;> simp [rowV]
theorem Part.lists {L m : Nat} {w : World} (h : Part L m 4 w) : Lists L (m + 1) w := by
  refine ⟨by rw [h.size]; omega, h.top, fun j hj => ?_⟩
  by_cases e : j = m
  · subst e; exact h.last
  · exact h.row j (by omega)
theorem Part.lastcell {L m q t : Nat} {w : World} (h : Part L m q w) (ht : t < 2) : w.cell? ⟨L + 1 + m, t, none⟩ = some (.complex .f64 (fb (part m q t)) 0) := by
  have : t = 0 ∨ t = 1 := by omega
  refine cell_of_block h.last ?_
  rcases this with rfl | rfl <;> rfl
theorem Part.step {L m q : Nat} {w : World} (h : Part L m q w) (hm : m < 3) (hq : q < 4) : Part L m (q + 1) (w.setCell ⟨L + 1 + m, lineAt m q, none⟩ (.complex .f64 (fb (part m q (lineAt m q) + (q + 1))) 0)) := by
  refine ⟨by simp [World.setCell, h.size], ?_, ?_, ?_⟩
  · rw [set_other (by omega)]; exact h.top
  · intro j hj; rw [set_other (by omega)]; exact h.row j hj
  · rw [set_block h.last]
    have h1 := part_hit m hm q hq
    have h2 := part_miss m hm q hq
    have h3 := lineAt_lt m hm q hq
    have : lineAt m q = 0 ∨ lineAt m q = 1 := by omega
    rcases this with e | e <;> rw [e] at h1 h2 ⊢ <;> simp only [Nat.sub_zero, Nat.sub_self] at h2 <;> rw [h1, h2] <;> rfl
theorem Part.drewN {L m q : Nat} {w : World} (h : Part L m q w) (n : Nat) : Part L m q (w.drewN n) := ⟨h.size, h.top, h.row, h.last⟩
theorem Below.drewN {B : Nat} {a w : World} (h : Below B a w) (n : Nat) : Below B a (w.drewN n) := ⟨h.os, h.tape, h.output, h.size, h.block⟩

set_option maxHeartbeats 2000000 in
theorem forward_n (g : Nat) (w : World) (hc : ∀ k, k < 4 → w.cell? ⟨g, k, none⟩ = some (.complex .f64 (fb (k + 1)) 0)) (hg : g < w.heap.size) :
    Calls Try.prog 9 #[.agg #[.int .i64 2, .slice (some ⟨g,0,none⟩) 4 4]] w fun e w' => ∃ L, e = .returned (.tuple #[.slice (some ⟨L, 0, none⟩) 3 3, .int .i64 0]) ∧ Lists L 3 w' ∧ Below w.heap.size w w' := by
  have HC := Lib.hid hc
  clear hc
  go_enter Try.func9, Try.ntmps9
  go_wp2_with fail
  refine (check_n (fun k => fb (k + 1)) g _ (fun k hk => fb_small _ (by omega)) (fun k hk => by rw [← HC.out k hk]; exact (Below.cell ((Below.refl _ _).alloc (Nat.le_refl _) _) (p := ⟨g, k, none⟩) hg)) (by simp; omega)).mono ?_
  rintro e w' ⟨rfl, hb⟩
  have HB := Lib.hid hb
  have hsz := hb.size
  simp only [World.size_alloc] at hsz
  have hbx0 : w'.cell? ⟨w.heap.size, 0, none⟩ = some (.int .i64 2) := by rw [hb.cell (p := ⟨w.heap.size, 0, none⟩) (by simp)]; go_simp
  have hbx1 : w'.cell? ⟨w.heap.size, 1, none⟩ = some (.slice (some ⟨g,0,none⟩) 4 4) := by rw [hb.cell (p := ⟨w.heap.size, 1, none⟩) (by simp)]; go_simp
  have HG := Lib.hid (fun k hk => (Below.cell hb (p := ⟨g, k, none⟩) (by simp; omega)).trans (by rw [← HC.out k hk]; exact (Below.cell ((Below.refl _ _).alloc (Nat.le_refl _) _) (p := ⟨g, k, none⟩) hg)) : ∀ k, k < 4 → w'.cell? ⟨g, k, none⟩ = some (.complex .f64 (fb (k + 1)) 0))
  clear hb
  go_wp2_with fail
  refine (is2 _).mono ?_
  rintro e w2 ⟨rfl, ⟨nd, rfl⟩⟩
  go_wp2_with fail
  go_loopg [25] 3 (fun k i wr => ∃ m : Nat, m + k = 3 ∧ i = .int .i64 m ∧ Lists w'.heap.size m wr ∧ Below w'.heap.size w' wr)
  case atStart => exact ⟨0, rfl, rfl, ⟨by simp, alloc_new (w'.drewN nd) _, fun j hj => by omega⟩, (Below.drewN (Below.refl _ _) nd).alloc (Nat.le_refl _) _⟩
  case round =>
    obtain ⟨wo, rfl⟩ : ∃ wo : World, wo = wr := ⟨_, rfl⟩
    obtain ⟨m, hm, rfl, hl, hb⟩ := hrel
    obtain ⟨gk_, rfl⟩ : ∃ n : Nat, n = gk := ⟨_, rfl⟩
    have HL := Lib.hid hl
    have HB2 := Lib.hid hb
    by_cases hlt : m < 3
    · have c0 : wo.cell? ⟨w.heap.size, 0, none⟩ = some (.int .i64 2) := by rw [hb.cell (p := ⟨w.heap.size, 0, none⟩) (by simp; omega)]; exact hbx0
      have c1 : wo.cell? ⟨w.heap.size, 1, none⟩ = some (.slice (some ⟨g,0,none⟩) 4 4) := by rw [hb.cell (p := ⟨w.heap.size, 1, none⟩) (by simp; omega)]; exact hbx1
      have c2 := hl.cell hlt
      have c3 : wo.frozen? ⟨w'.heap.size, m, none⟩ = false := free_of_block hl.top
      have c4 := hl.size
      have hdm : decide ((m : Int) < 3) = true := by simp; omega
      have d1 : w'.heap.size < w'.heap.size + 1 + m := by omega
      have d2 : w.heap.size < w'.heap.size + 1 + m := by omega
      have d3 : ¬ w.heap.size = w'.heap.size := by omega
      clear hl hb
      go_wp2_with fail
      go_loopg [37] 4 (fun k i wr => ∃ q : Nat, q + k = 4 ∧ i = .int .i64 q ∧ Part w'.heap.size m q wr ∧ Below w'.heap.size w' wr)
      case atStart => exact ⟨0, rfl, rfl, HL.out.begin hlt, (HB2.out.setCell (Nat.le_refl _) _).alloc (by simp; omega) _⟩
      case round =>
        obtain ⟨wi, rfl⟩ : ∃ wi : World, wi = wr := ⟨_, rfl⟩
        obtain ⟨q, hq, rfl, hp, hb3⟩ := hrel
        have HP := Lib.hid hp
        have HB3 := Lib.hid hb3
        clear c0 c1 c2 c3 c4 d1 d2 d3
        by_cases hlq : q < 4
        · have c0 : wi.cell? ⟨w.heap.size, 0, none⟩ = some (.int .i64 2) := by rw [hb3.cell (p := ⟨w.heap.size, 0, none⟩) (by simp; omega)]; exact hbx0
          have c2 := hp.topcell hlt
          have c3 : wi.cell? ⟨g, q, none⟩ = some (.complex .f64 (fb (q + 1)) 0) := by rw [hb3.cell (p := ⟨g, q, none⟩) (by simp; omega)]; exact HG.out q hlq
          have c4 := hp.lastcell (lineAt_lt m hlt q hlq)
          have c5 : wi.frozen? ⟨w'.heap.size + 1 + m, lineAt m q, none⟩ = false := free_of_block hp.last
          have c6 := lineAt_lt m hlt q hlq
          clear hp hb3
          have AT := Lib.hid (at_n m q hlt hlq)
          go_wp2_with fail
          go_quiet ((go_at_call 13; refine Calls.quiet_of ((AT.out _).mono fun _ _ ⟨he, hd⟩ => ⟨he, hd.out⟩)))
          go_wp2_with fail
          refine (add_n _ _ _ _ _ _ (add_fb _ (part_le m hlt q hlq _ c6) _ (by omega)) _).mono ?_
          rintro e w3 ⟨rfl, rfl⟩
          go_wp2_with fail
          refine (plain_any _ _ _).mono ?_
          rintro e w3 ⟨rfl, rfl⟩
          rw [pl_fb _ (by have := part_le m hlt q hlq _ c6; omega), show pl 0 = 0 by kernel_rfl]
          go_wp2
          go_roundg (gk - 1)
          case measure => omega
          case rel => 
              exact ⟨q + 1, by omega, by go_num, (HP.out.drewN nq).step hlt hlq, (Below.drewN HB3.out nq).setCell (by show w'.heap.size ≤ w'.heap.size + 1 + m; omega) _⟩
        · have e4 : q = 4 := by omega
          subst e4
          clear hp hb3
          go_wp2
          go_roundg (gk_ - 1)
          case measure => omega
          case rel => exact ⟨m + 1, by omega, by go_num, HP.out.lists, HB3.out⟩
    · have e3 : m = 3 := by omega
      subst e3
      clear hl hb
      go_wp2
      go_ret2
      exact ⟨_, rfl, HL.out, (((Below.refl _ _).alloc (Nat.le_refl _) _).trans (HB.out.mono (by simp))).trans (HB2.out.mono (by omega))⟩

theorem eq7 : (FloatKind.f64.format.order 4619567317775286272 4619567317775286272 == some .eq) = true := by kernel_rfl
theorem eq5 : (FloatKind.f64.format.order 4617315517961601024 4617315517961601024 == some .eq) = true := by kernel_rfl
theorem eq0 : (FloatKind.f64.format.order 0 0 == some .eq) = true := by kernel_rfl
set_option maxHeartbeats 2000000 in
theorem alive_calls (w : World) : Calls Try.prog 5 #[] w fun e w' => e = .returned (.bool true) ∧ Below w.heap.size w w' := by
  have e7 := eq7
  have e5 := eq5
  have e0 := eq0
  go_enter Try.func5, Try.ntmps5
  go_wp2_with fail
  refine (forward_n _ _ (fun k hk => ?_) (by simp)).mono ?_
  · have : k = 0 ∨ k = 1 ∨ k = 2 ∨ k = 3 := by omega
    rcases this with rfl | rfl | rfl | rfl
    · exact (cell_of_block (alloc_new _ _) rfl).trans (congrArg (fun x => some (Value.complex .f64 x 0)) (show 4607182418800017408 = fb (0 + 1) by kernel_rfl))
    · exact (cell_of_block (alloc_new _ _) rfl).trans (congrArg (fun x => some (Value.complex .f64 x 0)) (show 4611686018427387904 = fb (1 + 1) by kernel_rfl))
    · exact (cell_of_block (alloc_new _ _) rfl).trans (congrArg (fun x => some (Value.complex .f64 x 0)) (show 4613937818241073152 = fb (2 + 1) by kernel_rfl))
    · exact (cell_of_block (alloc_new _ _) rfl).trans (congrArg (fun x => some (Value.complex .f64 x 0)) (show 4616189618054758400 = fb (3 + 1) by kernel_rfl))
  rintro e w' ⟨L, rfl, hl, hb⟩
  have c0 : w'.cell? ⟨L, 0, none⟩ = some (.slice (some ⟨L + 1, 0, none⟩) 2 2) := cell_of_block hl.top rfl
  have c1 : w'.cell? ⟨L, 1, none⟩ = some (.slice (some ⟨L + 1 + 1, 0, none⟩) 2 2) := cell_of_block hl.top rfl
  have c2 : w'.cell? ⟨L + 1, 1, none⟩ = some (.complex .f64 4619567317775286272 0) := cell_of_block (hl.row 0 (by omega)) (by kernel_rfl)
  have c3 : w'.cell? ⟨L + 1 + 1, 0, none⟩ = some (.complex .f64 4617315517961601024 0) := cell_of_block (hl.row 1 (by omega)) (by kernel_rfl)
  have HB := Lib.hid (((Below.refl w.heap.size w).alloc (Nat.le_refl _) _).trans (hb.mono (by simp)))
  clear hl hb
  go_wp2_with fail
  refine (is61 _).mono ?_
  rintro e w2 ⟨rfl, ⟨n1, rfl⟩⟩
  go_wp2_with fail
  refine (is1 _).mono ?_
  rintro e w2 ⟨rfl, ⟨n2, rfl⟩⟩
  go_wp2
  go_ret
  exact ⟨rfl, Below.drewN HB.out (n1 + n2)⟩
end Go.Proofs.Ytkibmfchjaiodaa
