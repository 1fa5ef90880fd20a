/-
  PrimePairs: for every p and every two cells the law counts the lines that bear both, and answers true; there are no conditions.
-/
import Derived.Test.YtkibmfchjaiodaaRows
import Derived.Test.YtkibmfchjaiodaaPairs
import Derived.Test.YtkibmfchjaiodaaFw
import Derived.WalkKit
import Derived.ProofKit
import Derived.OpenShut
import Derived.ChangeOld
import Derived.Below
namespace Go.Proofs.Ytkibmfchjaiodaa.primePairs
open Go.ChangeShapes Go.WideShapes Go.ChangeAt Go.RowKit
open Go.Proofs.Ytkibmfchjaiodaa.PPrimeLines Go.Proofs.YtkibmfchjaiodaaW.PrintWords
set_option linter.unusedVariables false

theorem dn_old {w : World} {b i : Nat} {v : Value} (h : w.cell? ⟨b, i, none⟩ = some v) (hb : b < w.heap.size) : ∀ n (o : Obj), ((w.drewN n).alloc o).cell? ⟨b, i, none⟩ = some v := fun n o => by
  rw [← h]; exact World.cell?_alloc_lt (w.drewN n) o ⟨b, i, none⟩ hb
theorem dn_cell0 (w : World) (t : TypeId) : ∀ n (a b : Value), ((w.drewN n).alloc (.cells #[a, b] t)).cell? ⟨w.heap.size, 0, none⟩ = some a := fun n a b => World.cell?_alloc_new (w.drewN n) #[a, b] t 0
theorem dn_cell1 (w : World) (t : TypeId) : ∀ n (a b : Value), ((w.drewN n).alloc (.cells #[a, b] t)).cell? ⟨w.heap.size, 1, none⟩ = some b := fun n a b => World.cell?_alloc_new (w.drewN n) #[a, b] t 1
theorem dn_free (w : World) (t : TypeId) : ∀ n (c : Array Value) i, ((w.drewN n).alloc (.cells c t)).frozen? ⟨w.heap.size, i, none⟩ = false := fun n c i => free_of_block (alloc_new (w.drewN n) _)
theorem dn_set (w : World) (t : TypeId) : ∀ n (c : Array Value) i v, ((w.drewN n).alloc (.cells c t)).setCell ⟨w.heap.size, i, none⟩ v = (w.drewN n).alloc (.cells (c.setIfInBounds i v) t) := fun n c i v => World.setCell_alloc_at _ _ _ _ _ rfl
theorem is_calls (p : Int) (w : World) : Calls Try.prog 8 #[.int .i64 p] w fun e w' => e = .returned (.bool (isP p)) ∧ Drawn0 w w' := prime_Is.calls 0 p _ w (is_prog p)

theorem walk_no (p : Int) (A B : Array Value) (h : isP p = false) (w : World) :
    Calls Try.prog 4 #[.int .i64 p, .agg A, .agg B] w fun e w' => e = .returned (.bool true) ∧ Below w.heap.size w w' := by
  have hl : lineOf p 0 0 = ([], 150) := by unfold lineOf; rw [h]; rfl
  have H1 := Lib.hid (line_prog p 0 0)
  rw [hl] at H1
  have HI := Lib.hid (is_calls p)
  rw [h] at HI
  clear h hl
  go_enter Try.func4, Try.ntmps4
  go_wp2_with fail
  refine (alive_calls _).mono ?_
  rintro e w1 ⟨rfl, hb1⟩
  have HB1 := Lib.hid hb1
  clear hb1
  go_wp2_with fail
  refine (HI.out _).mono ?_
  rintro e w1 ⟨rfl, ⟨nd, rfl⟩⟩
  go_wp2_with fail
  refine (prime_Line.calls 100 p 0 0 [] 150 _ H1.out).mono ?_
  rintro e w2 ⟨v1, rfl, hr1, hb2⟩
  obtain ⟨A1, c1, rfl, hc1, hC1⟩ := Kd.R_reads hr1
  have HB2 := Lib.hid hb2
  clear hr1 hC1 hb2
  go_wp2
  go_ret
  exact ⟨rfl, (((Below.refl _ _).alloc (Nat.le_refl _) _).alloc (by simp) _).trans ((HB1.out.mono (by simp; omega)).trans ((below_drewN (Below.refl _ _) nd).trans (HB2.out.mono (by have := HB1.out.size; simp at this; show w.heap.size ≤ w1.heap.size; omega))))⟩

set_option maxRecDepth 100000 in
set_option maxHeartbeats 2000000 in
theorem walk_yes (p x0 x1 y0 y1 : Int) (hx0 : 0 ≤ x0 ∧ x0 < 256) (hx1 : 0 ≤ x1 ∧ x1 < 256) (hy0 : 0 ≤ y0 ∧ y0 < 256) (hy1 : 0 ≤ y1 ∧ y1 < 256) (h : isP p = true) (w : World) :
    Calls Try.prog 4 #[.int .i64 p, .agg #[.int .u8 x0, .int .u8 x1], .agg #[.int .u8 y0, .int .u8 y1]] w fun e w' => e = .returned (.bool true) ∧ Below w.heap.size w w' := by
  have hp := isP_range h
  have HI := Lib.hid (is_calls p)
  have HP := Lib.hid h
  rw [h] at HI
  clear h
  obtain ⟨hp0, hp1⟩ := hp
  go_enter Try.func4, Try.ntmps4
  go_wp2_with fail
  refine (alive_calls _).mono ?_
  rintro e w1 ⟨rfl, hb1⟩
  have HB1 := Lib.hid hb1
  have hsz := hb1.size
  simp only [World.size_alloc] at hsz
  have c0 : w1.cell? ⟨w.heap.size, 0, none⟩ = some (.int .u8 x0) := by rw [hb1.cell (p := ⟨w.heap.size, 0, none⟩) (by simp; omega)]; go_simp
  have c1 : w1.cell? ⟨w.heap.size, 1, none⟩ = some (.int .u8 x1) := by rw [hb1.cell (p := ⟨w.heap.size, 1, none⟩) (by simp; omega)]; go_simp
  have c2 : w1.cell? ⟨w.heap.size + 1, 0, none⟩ = some (.int .u8 y0) := by rw [hb1.cell (p := ⟨w.heap.size + 1, 0, none⟩) (by simp)]; go_simp
  have c3 : w1.cell? ⟨w.heap.size + 1, 1, none⟩ = some (.int .u8 y1) := by rw [hb1.cell (p := ⟨w.heap.size + 1, 1, none⟩) (by simp)]; go_simp
  clear hb1
  go_wp2_with fail
  refine (HI.out _).mono ?_
  rintro e w2 ⟨rfl, ⟨nd, rfl⟩⟩
  go_upto_if 36 with (fail)
  go_cut [0] (fun v wc => ∃ q : Int, v = .int .i64 q ∧ isP q = true ∧ 2 ≤ q ∧ q ≤ 31 ∧ wc = w1.drewN nd)
  case first =>
    by_cases hq : p > 31
    · have hq' : decide (31 < p) = true := by simp; omega
      go_wp2
      go_meet
      case rel => exact ⟨31, rfl, by kernel_rfl, by omega, by omega, rfl⟩
    · have hq' : decide (31 < p) = false := by simp; omega
      go_wp2
      go_meet
      case rel => exact ⟨p, rfl, HP.out, by omega, by omega, rfl⟩
  case rest =>
    obtain ⟨q, rfl, hq, hq0, hq1, rfl⟩ := hcut
    have HQ := Lib.hid hq
    have d1 : w.heap.size < w1.heap.size := by omega
    have d2 : w.heap.size + 1 < w1.heap.size := by omega
    have d3 : w.heap.size + 1 < w1.heap.size + 1 := by omega
    have d4 : ¬ q = 0 := by omega
    have g0 := dn_old c0 d1
    have g1 := dn_old c1 d1
    have g2 := dn_cell0 w1 28
    have g3 := dn_cell1 w1 28
    have g4 := dn_free w1 28
    have g5 := dn_set w1 28
    go_wp2_with fail
    go_region
    go_wp2_with fail
    clear g0 g1 g2 g3 g4 g5
    obtain ⟨cx, hcx⟩ : ∃ cx, x0 % q = cx := ⟨_, rfl⟩
    obtain ⟨cy, hcy⟩ : ∃ cy, x1 % q = cy := ⟨_, rfl⟩
    have a0 : 0 ≤ cx := by rw [← hcx]; exact Int.emod_nonneg _ d4
    have a1 : cx < q := by rw [← hcx]; exact Int.emod_lt_of_pos _ (by omega)
    have a2 : 0 ≤ cy := by rw [← hcy]; exact Int.emod_nonneg _ d4
    have a3 : cy < q := by rw [← hcy]; exact Int.emod_lt_of_pos _ (by omega)
    rw [hcx, hcy]
    clear hcx hcy
    obtain ⟨w3, hw3⟩ : ∃ w3, (w1.drewN (nd + 1)).alloc (Obj.cells #[Value.int IntKind.i64 cx, Value.int IntKind.i64 cy] 28) = w3 := ⟨_, rfl⟩
    have HB3 := Lib.hid (show Below w.heap.size w w3 from by
      rw [← hw3]
      exact (((((Below.refl _ _).alloc (Nat.le_refl _) _).alloc (by simp) _).trans (HB1.out.mono (by simp; omega))).trans (below_drewN (Below.refl _ _) _)).alloc (by show w.heap.size ≤ w1.heap.size; omega) _)
    have hsz3 : w3.heap.size = w1.heap.size + 1 := by rw [← hw3]; simp
    have b2 : w3.cell? ⟨w.heap.size + 1, 0, none⟩ = some (.int .u8 y0) := by rw [← hw3]; exact dn_old c2 d2 _ _
    have b3 : w3.cell? ⟨w.heap.size + 1, 1, none⟩ = some (.int .u8 y1) := by rw [← hw3]; exact dn_old c3 d2 _ _
    have b4 : w3.cell? ⟨w1.heap.size, 0, none⟩ = some (.int .i64 cx) := by rw [← hw3]; exact dn_cell0 w1 28 _ _ _
    have b5 : w3.cell? ⟨w1.heap.size, 1, none⟩ = some (.int .i64 cy) := by rw [← hw3]; exact dn_cell1 w1 28 _ _ _
    rw [hw3]
    clear hw3 c0 c1 c2 c3
    have d5 : w.heap.size + 1 < w3.heap.size := by omega
    have HSZ3 := Lib.hid hsz3
    clear hsz3 d1 d2 d3
    have g0 := dn_old b2 d5
    have g1 := dn_old b3 d5
    have g2 := dn_cell0 w3 28
    have g3 := dn_cell1 w3 28
    have g4 := dn_free w3 28
    have g5 := dn_set w3 28
    go_region
    go_wp2_with fail
    clear g0 g1 g2 g3 g4 g5 b2 b3
    obtain ⟨dx, hdx⟩ : ∃ dx, y0 % q = dx := ⟨_, rfl⟩
    obtain ⟨dy, hdy⟩ : ∃ dy, y1 % q = dy := ⟨_, rfl⟩
    have a4 : 0 ≤ dx := by rw [← hdx]; exact Int.emod_nonneg _ d4
    have a5 : dx < q := by rw [← hdx]; exact Int.emod_lt_of_pos _ (by omega)
    have a6 : 0 ≤ dy := by rw [← hdy]; exact Int.emod_nonneg _ d4
    have a7 : dy < q := by rw [← hdy]; exact Int.emod_lt_of_pos _ (by omega)
    rw [hdx, hdy]
    clear hdx hdy d5
    (try clear e0); (try clear e1); (try clear e2); (try clear e3); (try clear f0); (try clear f1); (try clear f2); (try clear f3)
    obtain ⟨w4, hw4⟩ : ∃ w4, (w3.alloc (Obj.cells #[Value.int IntKind.i64 dx, Value.int IntKind.i64 dy] 28)).drew = w4 := ⟨_, rfl⟩
    have HB4 := Lib.hid (show Below w.heap.size w w4 from by
      rw [← hw4]
      exact (HB3.out.alloc HB3.out.size _).drew)
    have b2 : w4.cell? ⟨w1.heap.size, 0, none⟩ = some (.int .i64 cx) := by rw [← hw4]; exact dn_old b4 (by have := HSZ3.out; omega) 0 _
    have b3 : w4.cell? ⟨w1.heap.size, 1, none⟩ = some (.int .i64 cy) := by rw [← hw4]; exact dn_old b5 (by have := HSZ3.out; omega) 0 _
    have b6 : w4.cell? ⟨w3.heap.size, 0, none⟩ = some (.int .i64 dx) := by rw [← hw4]; exact dn_cell0 w3 28 0 _ _
    have b7 : w4.cell? ⟨w3.heap.size, 1, none⟩ = some (.int .i64 dy) := by rw [← hw4]; exact dn_cell1 w3 28 0 _ _
    have HS := Lib.hid (show w1.heap.size < w4.heap.size ∧ w3.heap.size < w4.heap.size from by rw [← hw4]; have := HSZ3.out; simp; omega)
    rw [hw4]
    clear hw4 b4 b5
    obtain ⟨Q, rfl⟩ := Int.eq_ofNat_of_zero_le (show 0 ≤ q by omega)
    go_loopg [11, 12] (Q + 1) (fun k vn vm wr => ∃ m : Nat, m + k = Q + 1 ∧ vm = .int .i64 m ∧ vn = .int .i64 (totN cx cy dx dy Q m : Nat) ∧ Below w4.heap.size w4 wr)
    case atStart => exact ⟨0, by omega, rfl, rfl, Below.refl _ _⟩
    case round =>
      obtain ⟨wo, rfl⟩ : ∃ wo : World, wo = wr := ⟨_, rfl⟩
      obtain ⟨go, rfl⟩ : ∃ go : Nat, go = gk := ⟨_, rfl⟩
      obtain ⟨m, hm, rfl, rfl, hbo⟩ := hrel
      have HBO := Lib.hid hbo
      clear hbo
      have hT : totN cx cy dx dy Q m ≤ 1000 := by
        have h1 := totN_le cx cy dx dy Q m
        have h2 : m * Q ≤ 32 * 31 := Nat.mul_le_mul (by omega) (by omega)
        rw [Int.toNat_natCast] at h1
        omega
      by_cases hmq : m < Q + 1
      · have q1 : decide (m ≤ Q) = true := by simp; omega
        go_wp2_with fail
        go_loopg [11, 13] Q (fun k vn vt wr => ∃ t : Nat, t + k = Q ∧ vt = .int .i64 t ∧ vn = .int .i64 ((totN cx cy dx dy Q m + rowN cx cy dx dy Q m t : Nat) : Int) ∧ Below w4.heap.size w4 wr)
        case atStart => exact ⟨0, by omega, rfl, rfl, HBO.out⟩
        case round =>
          obtain ⟨wm, rfl⟩ : ∃ wm : World, wm = wr := ⟨_, rfl⟩
          obtain ⟨gm, rfl⟩ : ∃ gm : Nat, gm = gk := ⟨_, rfl⟩
          obtain ⟨t, ht, rfl, rfl, hbm⟩ := hrel
          have HBM := Lib.hid hbm
          clear hbm
          have hR := rowN_le cx cy dx dy Q m t
          by_cases htq : t < Q
          · have q2 : decide (t < Q) = true := by simp; omega
            have HL := Lib.hid (lineOf_cells HQ.out m t (by omega) (by omega))
            have HP2 := Lib.hid (line_prog Q m t)
            rw [HL.out] at HP2
            go_wp2_with fail
            refine (prime_Line.calls 100 Q m t (cells Q m t) 0 _ HP2.out).mono ?_
            rintro e w5 ⟨v1, rfl, hr1, hb5⟩
            obtain ⟨A1, k1, rfl, hk1, hC1⟩ := Kd.R_reads hr1
            have hcl := cells_length Q m t
            rw [Int.toNat_natCast] at hcl
            rw [hcl] at hC1 hk1 ⊢
            have HC1 := Lib.hid hC1
            have HCL := Lib.hid hcl
            have HB5 := Lib.hid (HBM.out.trans (hb5.mono HBM.out.size))
            clear hr1 hC1 hb5 hcl
            have b8 : w5.cell? ⟨w1.heap.size, 0, none⟩ = some (.int .i64 cx) := by rw [HB5.out.cell (p := ⟨w1.heap.size, 0, none⟩) HS.out.1]; exact b2
            have b9 : w5.cell? ⟨w1.heap.size, 1, none⟩ = some (.int .i64 cy) := by rw [HB5.out.cell (p := ⟨w1.heap.size, 1, none⟩) HS.out.1]; exact b3
            have b10 : w5.cell? ⟨w3.heap.size, 0, none⟩ = some (.int .i64 dx) := by rw [HB5.out.cell (p := ⟨w3.heap.size, 0, none⟩) HS.out.2]; exact b6
            have b11 : w5.cell? ⟨w3.heap.size, 1, none⟩ = some (.int .i64 dy) := by rw [HB5.out.cell (p := ⟨w3.heap.size, 1, none⟩) HS.out.2]; exact b7
            go_wp2_with fail
            go_loopg [16, 17] Q (fun k vc vi wr => ∃ j : Nat, j + k = Q ∧ vi = .int .i64 j ∧ vc = .int .i64 (cntF cx cy dx dy ((cells Q m t).take j) : Nat) ∧ ∃ n, wr = w5.drewN n)
            case atStart => exact ⟨0, by omega, rfl, rfl, 0, rfl⟩
            case round =>
              obtain ⟨j, hj, rfl, rfl, n, rfl⟩ := hrel
              by_cases hjq : j < Q
              · obtain ⟨ad, rfl, l1, l2⟩ := at_T28 HC1.out (j : Int) (by omega) (by omega)
                simp only [Int.toNat_natCast] at l1 l2
                have q3 : decide (j < Q) = true := by simp; omega
                have hN : cntF cx cy dx dy ((cells Q m t).take j) ≤ j := Nat.le_trans (cntF_le _ _ _ _ _) (by simp; omega)
                obtain ⟨x, hx⟩ : ∃ x, rd_T28 (cells Q m t) j = x := ⟨_, rfl⟩
                have HT := Lib.hid (cntF_take cx cy dx dy (cells Q m t) j (by rw [HCL.out]; exact hjq))
                rw [hx] at l1 l2 HT
                clear hx
                have HH : Hid (hitB cx cy dx dy x = ((x.f0 == cx && x.f1 == cy) || (x.f0 == dx && x.f1 == dy))) := rfl
                obtain ⟨s0, t0⟩ : ∃ s0, (x.f0 == cx) = s0 := ⟨_, rfl⟩
                obtain ⟨s1, t1⟩ : ∃ s1, (x.f1 == cy) = s1 := ⟨_, rfl⟩
                obtain ⟨s2, t2⟩ : ∃ s2, (x.f0 == dx) = s2 := ⟨_, rfl⟩
                obtain ⟨s3, t3⟩ : ∃ s3, (x.f1 == dy) = s3 := ⟨_, rfl⟩
                rw [t0, t1, t2, t3] at HH
                have hw : ∀ s : Bool, s = true ∨ s = false := by decide
                rcases hw s0 with rfl | rfl <;> rcases hw s1 with rfl | rfl <;> rcases hw s2 with rfl | rfl <;> rcases hw s3 with rfl | rfl
                all_goals
                  go_wp2_with fail
                  go_quiet (fail)
                  go_wp2_with fail
                  go_roundg (gk - 1)
                  case measure => omega
                  case rel => exact ⟨j + 1, by omega, by go_num, by rw [HT.out, HH.out]; first | rfl | go_num, n + nq, rfl⟩
              · have hjQ : j = Q := by omega
                subst hjQ
                rw [List.take_of_length_le (by rw [HCL.out]; exact Nat.le_refl _)]
                have HBB : Hid (both cx cy dx dy j m t = ((cntF cx cy dx dy (cells j m t) == 2) || ((cx == dx && cy == dy) && (cntF cx cy dx dy (cells j m t) == 1)))) := rfl
                have HRS : Hid (rowN cx cy dx dy j m (t + 1) = rowN cx cy dx dy j m t + (if both cx cy dx dy j m t = true then 1 else 0)) := rfl
                have hN : cntF cx cy dx dy (cells j m t) ≤ j := by have := cntF_le cx cy dx dy (cells j m t); rw [HCL.out] at this; exact this
                obtain ⟨N, hNN⟩ : ∃ N, cntF cx cy dx dy (cells j m t) = N := ⟨_, rfl⟩
                rw [hNN] at HBB hN ⊢
                clear hNN
                obtain ⟨s0, t0⟩ : ∃ s0, (N == 2) = s0 := ⟨_, rfl⟩
                obtain ⟨s1, t1⟩ : ∃ s1, (N == 1) = s1 := ⟨_, rfl⟩
                obtain ⟨s2, t2⟩ : ∃ s2, (cx == dx) = s2 := ⟨_, rfl⟩
                obtain ⟨s3, t3⟩ : ∃ s3, (cy == dy) = s3 := ⟨_, rfl⟩
                have t0' : (((N : Nat) : Int) == 2) = s0 := by rw [← t0]; exact Bool.eq_iff_iff.2 (by simp; omega)
                have t1' : (((N : Nat) : Int) == 1) = s1 := by rw [← t1]; exact Bool.eq_iff_iff.2 (by simp; omega)
                rw [t0, t1, t2, t3] at HBB
                clear t0 t1
                have hw : ∀ s : Bool, s = true ∨ s = false := by decide
                rcases hw s0 with rfl | rfl <;> rcases hw s1 with rfl | rfl <;> rcases hw s2 with rfl | rfl <;> rcases hw s3 with rfl | rfl
                all_goals
                  go_wp2_with fail
                  go_roundg (gm - 1)
                  case measure => omega
                  case rel => exact ⟨t + 1, by omega, by go_num, by rw [HRS.out, HBB.out]; first | rfl | go_num, Below.drewN HB5.out n⟩
          · have htQ : t = Q := by omega
            subst htQ
            have HTS : Hid (totN cx cy dx dy t (m + 1) = totN cx cy dx dy t m + rowN cx cy dx dy t m t) := by
              show totN cx cy dx dy t m + rowN cx cy dx dy t m (t : Int).toNat = _
              rw [Int.toNat_natCast]
            go_wp2_with fail
            go_roundg (go - 1)
            case measure => omega
            case rel => exact ⟨m + 1, by omega, by go_num, by rw [HTS.out], HBM.out⟩
      · have hmQ : m = Q + 1 := by omega
        subst hmQ
        have HPL := Lib.hid (pairs_law HQ.out (by omega) a0 a1 a2 a3 a4 a5 a6 a7)
        rw [Int.toNat_natCast] at HPL
        obtain ⟨N, hNN⟩ : ∃ N, totN cx cy dx dy Q (Q + 1) = N := ⟨_, rfl⟩
        rw [hNN] at HPL hT ⊢
        clear hNN
        rcases HPL.out with hl | ⟨hl, rfl, rfl⟩
        · subst hl
          go_wp2_with fail
          go_ret
          exact ⟨rfl, HB4.out.trans (HBO.out.mono HB4.out.size)⟩
        · subst hl
          have z0 : (((Q : Int) + 1) == 1) = false := beq_eq_false_iff_ne.2 (by omega)
          have b8 : wo.cell? ⟨w1.heap.size, 0, none⟩ = some (.int .i64 cx) := by rw [HBO.out.cell (p := ⟨w1.heap.size, 0, none⟩) HS.out.1]; exact b2
          have b9 : wo.cell? ⟨w1.heap.size, 1, none⟩ = some (.int .i64 cy) := by rw [HBO.out.cell (p := ⟨w1.heap.size, 1, none⟩) HS.out.1]; exact b3
          have b10 : wo.cell? ⟨w3.heap.size, 0, none⟩ = some (.int .i64 cx) := by rw [HBO.out.cell (p := ⟨w3.heap.size, 0, none⟩) HS.out.2]; exact b6
          have b11 : wo.cell? ⟨w3.heap.size, 1, none⟩ = some (.int .i64 cy) := by rw [HBO.out.cell (p := ⟨w3.heap.size, 1, none⟩) HS.out.2]; exact b7
          go_wp2_with fail
          go_ret
          exact ⟨rfl, HB4.out.trans (HBO.out.mono HB4.out.size)⟩
end Go.Proofs.Ytkibmfchjaiodaa.primePairs
