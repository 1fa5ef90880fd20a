/-
  What prime.Line and penumbraref15.Line tell: the same cells in the same order, at every three numbers. No program and no memory here.
-/
import Derived.Test.YtkibmfchjaiodaaFns
namespace Go.Proofs.Ytkibmfchjaiodaa.PPrimeLines
open Go.RowKit Go.Proofs.YtkibmfchjaiodaaW.PrintWords

/-- cell i of a line -/
def el (p m t i : Int) : S28 := if m = p then ⟨t, i⟩ else ⟨i, (m * i + t) % p⟩
/-- d cells of it, from i on -/
def els (p m t : Int) : Nat → Int → List S28
  | 0, _ => []
  | d + 1, i => el p m t i :: els p m t d (i + 1)
theorem els_length (p m t : Int) : ∀ (d : Nat) (i : Int), (els p m t d i).length = d
  | 0, _ => rfl
  | d + 1, i => by simp [els, els_length p m t d]

/-- an argument that both functions take for a line's -/
structure Okay (p m t : Int) : Prop where
  p0 : 0 < p
  p1 : p ≤ 61
  m0 : 0 ≤ m
  m1 : m ≤ p
  t0 : 0 ≤ t
  t1 : t < p

theorem wrap_small {x : Int} (h0 : 0 ≤ x) (h1 : x ≤ 10000) : wrap64 x = x := by unfold wrap64; omega
theorem at_row {p m t x : Int} (h : Okay p m t) (h0 : 0 ≤ x) (h1 : x < p) : Int.tmod (wrap64 (wrap64 (m * x) + t)) p = (m * x + t) % p := by
  have hp := h.p1
  have hm := h.m1
  have a : 0 ≤ m * x := Int.mul_nonneg h.m0 h0
  have b : m * x ≤ 61 * 61 := Int.mul_le_mul (by omega) (by omega) h0 (by omega)
  have ht0 := h.t0
  have ht1 := h.t1
  rw [wrap_small a (by omega), wrap_small (by omega) (by omega), Int.tmod_eq_emod_of_nonneg (by omega)]

theorem line_l0 {p m t : Int} (h : Okay p m t) : ∀ (d k : Nat) (xs : List S28) (i : Int), 0 ≤ i → p - i = d → d < k → (xs.length : Int) ≤ i →
    prime_Line.l0 k p m t xs p i = some (xs ++ els p m t d i, 0)
  | 0, k, xs, i, hi, hd, hk, _ => by
    obtain ⟨k, rfl⟩ : ∃ n, k = n + 1 := ⟨k - 1, by omega⟩
    simp only [prime_Line.l0]
    rw [if_neg (by omega)]
    simp [els]
  | d + 1, k, xs, i, hi, hd, hk, hx => by
    obtain ⟨k, rfl⟩ : ∃ n, k = n + 1 := ⟨k - 1, by omega⟩
    have hp := h.p1
    have hp0 := h.p0
    simp only [prime_Line.l0]
    rw [if_pos (by omega), wrap_small (by omega) (by omega)]
    by_cases e : m = p
    · rw [if_pos e, if_pos (by omega), line_l0 h d k _ (i + 1) (by omega) (by omega) (by omega) (by simp; omega)]
      simp [els, el, e]
    · rw [if_neg e, if_neg (by omega), if_pos (by omega), at_row h hi (by omega), line_l0 h d k _ (i + 1) (by omega) (by omega) (by omega) (by simp; omega)]
      simp [els, el, e]

/-- the cells of row x that the reference's inner loop has still to find, from y on -/
theorem ref_l1_miss {p m t : Int} (h : Okay p m t) (x : Int) (hx : m = p → x ≠ t) (hx0 : 0 ≤ x) (hx1 : x < p) : ∀ (d k : Nat) (xs : List S28) (y : Int), 0 ≤ y → p - y = d → (m < p → (m * x + t) % p < y) →
    penumbraref15_Line.l1 (k + 1 + d) p m t xs x y = penumbraref15_Line.l0 k p m t xs (x + 1)
  | 0, k, xs, y, hy, hd, _ => by
    have hp := h.p1
    simp only [penumbraref15_Line.l1]
    rw [if_neg (by omega), wrap_small (by omega) (by omega)]
  | d + 1, k, xs, y, hy, hd, hv => by
    have hp := h.p1
    have hm := h.m1
    have hp0 := h.p0
    have ih := ref_l1_miss h x hx hx0 hx1 d k xs (y + 1) (by omega) (by omega) (fun hl => by have := hv hl; omega)
    rw [show k + 1 + (d + 1) = k + 1 + d + 1 from rfl]
    simp only [penumbraref15_Line.l1]
    rw [if_pos (by omega), wrap_small (x := y + 1) (by omega) (by omega), at_row h hx0 hx1]
    by_cases e : m = p
    · rw [if_pos e, if_neg (hx e), if_neg (by omega)]
      exact ih
    · rw [if_neg e, if_pos (by omega), if_neg (by omega), if_neg (by have := hv (by omega); omega)]
      exact ih

theorem ref_l1_hit {p m t : Int} (h : Okay p m t) (e : m ≠ p) (x : Int) (hx0 : 0 ≤ x) (hx1 : x < p) : ∀ (d k : Nat) (xs : List S28) (y : Int), 0 ≤ y → p - y = d → y ≤ (m * x + t) % p → (xs.length : Int) ≤ x →
    penumbraref15_Line.l1 (k + 1 + d) p m t xs x y = penumbraref15_Line.l0 k p m t (xs ++ [el p m t x]) (x + 1)
  | 0, k, xs, y, hy, hd, hv, _ => by
    have := Int.emod_lt_of_pos (m * x + t) h.p0
    omega
  | d + 1, k, xs, y, hy, hd, hv, hl => by
    have hp := h.p1
    have hm := h.m1
    have hp0 := h.p0
    rw [show k + 1 + (d + 1) = k + 1 + d + 1 from rfl]
    simp only [penumbraref15_Line.l1]
    rw [if_pos (by omega), wrap_small (x := y + 1) (by omega) (by omega), at_row h hx0 hx1, if_neg e, if_pos (by omega), if_neg (by omega)]
    by_cases e2 : (m * x + t) % p = y
    · rw [if_pos e2, if_pos (by omega), ref_l1_miss h x (fun e3 => absurd e3 e) hx0 hx1 d k _ (y + 1) (by omega) (by omega) (fun _ => by omega)]
      simp [el, e, e2]
    · rw [if_neg e2]
      exact ref_l1_hit h e x hx0 hx1 d k xs (y + 1) (by omega) (by omega) (by omega) hl

theorem ref_l1_column {p m t : Int} (h : Okay p m t) (e : m = p) : ∀ (d k : Nat) (xs : List S28) (y : Int), 0 ≤ y → p - y = d → (xs.length : Int) ≤ y →
    penumbraref15_Line.l1 (k + 1 + d) p m t xs t y = penumbraref15_Line.l0 k p m t (xs ++ els p m t d y) (t + 1)
  | 0, k, xs, y, hy, hd, _ => by
    have hp := h.p1
    have ht := h.t1
    have ht0 := h.t0
    simp only [penumbraref15_Line.l1]
    rw [if_neg (by omega), wrap_small (by omega) (by omega)]
    simp [els]
  | d + 1, k, xs, y, hy, hd, hl => by
    have hp := h.p1
    have hp0 := h.p0
    rw [show k + 1 + (d + 1) = k + 1 + d + 1 from rfl]
    simp only [penumbraref15_Line.l1]
    rw [if_pos (by omega), wrap_small (x := y + 1) (by omega) (by omega), if_pos e, if_pos trivial, if_pos (by omega), ref_l1_column h e d k _ (y + 1) (by omega) (by omega) (by simp; omega)]
    simp [els, el, e]

theorem ref_l0_line {p m t : Int} (h : Okay p m t) (e : m ≠ p) : ∀ (d k : Nat) (xs : List S28) (x : Int), 0 ≤ x → p - x = d → d * 63 < k → (xs.length : Int) ≤ x →
    penumbraref15_Line.l0 k p m t xs x = some (xs ++ els p m t d x, 0)
  | 0, k, xs, x, hx, hd, hk, _ => by
    obtain ⟨k, rfl⟩ : ∃ n, k = n + 1 := ⟨k - 1, by omega⟩
    simp only [penumbraref15_Line.l0]
    rw [if_neg (by omega)]
    simp [els]
  | d + 1, k, xs, x, hx, hd, hk, hl => by
    have hp := h.p1
    have hp0 := h.p0
    obtain ⟨k, rfl⟩ : ∃ n, k = n + 1 + p.toNat + 1 := ⟨k - 2 - p.toNat, by omega⟩
    simp only [penumbraref15_Line.l0]
    rw [if_pos (by omega), ref_l1_hit h e x hx (by omega) p.toNat k xs 0 (by omega) (by omega) (Int.emod_nonneg _ (by omega)) hl,
      ref_l0_line h e d k _ (x + 1) (by omega) (by omega) (by omega) (by simp; omega)]
    simp [els]

/-- behind the column there is nothing more -/
theorem ref_l0_behind {p m t : Int} (h : Okay p m t) (e : m = p) : ∀ (d k : Nat) (xs : List S28) (x : Int), t < x → p - x = d → d * 63 < k →
    penumbraref15_Line.l0 k p m t xs x = some (xs, 0)
  | 0, k, xs, x, hx, hd, hk => by
    obtain ⟨k, rfl⟩ : ∃ n, k = n + 1 := ⟨k - 1, by omega⟩
    simp only [penumbraref15_Line.l0]
    rw [if_neg (by omega)]
  | d + 1, k, xs, x, hx, hd, hk => by
    have hp := h.p1
    have hp0 := h.p0
    have ht := h.t0
    obtain ⟨k, rfl⟩ : ∃ n, k = n + 1 + p.toNat + 1 := ⟨k - 2 - p.toNat, by omega⟩
    simp only [penumbraref15_Line.l0]
    rw [if_pos (by omega), ref_l1_miss h x (fun _ => by omega) (by omega) (by omega) p.toNat k xs 0 (by omega) (by omega) (fun hl => by omega)]
    exact ref_l0_behind h e d k xs (x + 1) (by omega) (by omega) (by omega)

theorem ref_l0_column {p m t : Int} (h : Okay p m t) (e : m = p) : ∀ (d k : Nat) (x : Int), 0 ≤ x → x ≤ t → p - x = d → d * 63 < k →
    penumbraref15_Line.l0 k p m t [] x = some (els p m t p.toNat 0, 0)
  | 0, k, x, hx, hx2, hd, hk => by
    have := h.t1
    omega
  | d + 1, k, x, hx, hx2, hd, hk => by
    have hp := h.p1
    have hp0 := h.p0
    have ht := h.t1
    obtain ⟨k, rfl⟩ : ∃ n, k = n + 1 + p.toNat + 1 := ⟨k - 2 - p.toNat, by omega⟩
    simp only [penumbraref15_Line.l0]
    rw [if_pos (by omega)]
    by_cases ex : x = t
    · subst ex
      rw [ref_l1_column h e p.toNat k [] 0 (by omega) (by omega) (by simp), ref_l0_behind h e d k _ (x + 1) (by omega) (by omega) (by omega)]
      simp
    · rw [ref_l1_miss h x (fun _ => ex) (by omega) (by omega) p.toNat k [] 0 (by omega) (by omega) (fun hl => by omega)]
      exact ref_l0_column h e d k (x + 1) (by omega) (by omega) (by omega) (by omega)

theorem is_all : ∀ p : Nat, p < 62 → prime_Is.f 0 p = penumbraref15_Is.f 100 p ∧ (prime_Is.f 0 p).isSome = true ∧ (p < 2 → prime_Is.f 0 p = some false) := by decide +kernel

/-- a prime number of at most 61 -/
def isP (p : Int) : Bool := (prime_Is.f 0 p).getD false
theorem isP_range {p : Int} (h : isP p = true) : 2 ≤ p ∧ p ≤ 61 := by
  unfold isP at h
  by_cases h0 : 0 ≤ p
  · by_cases h1 : p < 62
    · obtain ⟨n, rfl⟩ := Int.eq_ofNat_of_zero_le h0
      by_cases h2 : n < 2
      · rw [(is_all n (by omega)).2.2 h2] at h
        cases h
      · omega
    · unfold prime_Is.f at h
      rw [if_pos h0] at h
      simp [bits_Len64.f, h1] at h
  · unfold prime_Is.f at h
    rw [if_neg (by omega)] at h
    cases h
theorem is_prog (p : Int) : prime_Is.f 0 p = some (isP p) := by
  unfold isP
  by_cases h0 : 0 ≤ p
  · by_cases h1 : p < 62
    · obtain ⟨n, rfl⟩ := Int.eq_ofNat_of_zero_le h0
      have := (is_all n (by omega)).2.1
      revert this
      cases prime_Is.f 0 (n : Int) with
      | none => intro h; cases h
      | some b => intro _; rfl
    · unfold prime_Is.f
      rw [if_pos h0]
      simp [bits_Len64.f, h1]
  · unfold prime_Is.f
    rw [if_neg (by omega)]
    rfl
theorem is_ref (p : Int) : penumbraref15_Is.f 100 p = some (isP p) := by
  rw [← is_prog]
  by_cases h0 : 0 ≤ p
  · by_cases h1 : p < 62
    · obtain ⟨n, rfl⟩ := Int.eq_ofNat_of_zero_le h0
      exact (is_all n (by omega)).1.symm
    · unfold prime_Is.f penumbraref15_Is.f
      rw [if_pos h0, if_neg (by omega), decide_eq_true (by omega)]
      simp [bits_Len64.f, h1, penumbraref15_Is.j0]
  · unfold prime_Is.f penumbraref15_Is.f
    rw [if_pos (by omega), if_neg (by omega)]
    rfl

/-- the answer at p, m, t -/
def lineOf (p m t : Int) : List S28 × Int :=
  if isP p = true then if 0 ≤ m ∧ m ≤ p ∧ 0 ≤ t ∧ t < p then (els p m t p.toNat 0, 0) else ([], 1) else ([], 150)

theorem is_mono {p : Int} {b : Bool} : ∀ (j : Nat), prime_Is.f 0 p = some b → prime_Is.f j p = some b
  | 0, h => h
  | j + 1, h => prime_Is.mono p j _ (is_mono j h)
theorem is_mono_ref {p : Int} {b : Bool} : ∀ (j : Nat), penumbraref15_Is.f 100 p = some b → penumbraref15_Is.f (100 + j) p = some b
  | 0, h => h
  | j + 1, h => penumbraref15_Is.mono p (100 + j) _ (is_mono_ref j h)

theorem line_prog (p m t : Int) : prime_Line.f 100 p m t = some (lineOf p m t) := by
  unfold prime_Line.f lineOf
  rw [is_mono 100 (is_prog p), Option.bind_some]
  by_cases h : isP p = true
  · rw [if_pos h, if_pos h]
    have hp := isP_range h
    by_cases h1 : m < 0
    · rw [if_pos h1, if_neg (by omega)]; rfl
    · by_cases h2 : m > p
      · rw [if_neg h1, if_pos h2, if_neg (by omega)]; rfl
      · by_cases h3 : t < 0
        · rw [if_neg h1, if_neg h2, if_pos h3, if_neg (by omega)]; rfl
        · rw [if_neg h1, if_neg h2, if_neg h3]
          by_cases h4 : t ≥ p
          · rw [decide_eq_true h4, if_neg (by omega)]; rfl
          · rw [decide_eq_false h4, if_pos (by omega)]
            simp only [prime_Line.j0]
            rw [if_neg (by decide), line_l0 ⟨by omega, by omega, by omega, by omega, by omega, by omega⟩ p.toNat 99 [] 0 (by omega) (by omega) (by omega) (by simp)]
            simp
  · rw [if_neg h, if_neg h]

theorem line_ref (p m t : Int) : penumbraref15_Line.f 5000 p m t = some (lineOf p m t) := by
  unfold penumbraref15_Line.f lineOf
  rw [is_mono_ref 4900 (is_ref p), Option.bind_some]
  by_cases h : isP p = true
  · rw [if_pos h, if_pos h]
    have hp := isP_range h
    by_cases h1 : m < 0
    · rw [if_pos h1, if_neg (by omega)]; rfl
    · by_cases h2 : m > p
      · rw [if_neg h1, if_pos h2, if_neg (by omega)]; rfl
      · by_cases h3 : t < 0
        · rw [if_neg h1, if_neg h2, if_pos h3, if_neg (by omega)]; rfl
        · rw [if_neg h1, if_neg h2, if_neg h3]
          by_cases h4 : t ≥ p
          · rw [decide_eq_true h4, if_neg (by omega)]; rfl
          · rw [decide_eq_false h4, if_pos (by omega)]
            simp only [penumbraref15_Line.j0]
            rw [if_neg (by decide)]
            have ok : Okay p m t := ⟨by omega, by omega, by omega, by omega, by omega, by omega⟩
            by_cases e : m = p
            · exact ref_l0_column ok e p.toNat 4999 0 (by omega) (by omega) (by omega) (by omega)
            · rw [ref_l0_line ok e p.toNat 4999 [] 0 (by omega) (by omega) (by omega) (by simp)]
              simp
  · rw [if_neg h, if_neg h]

theorem lineOf_length (p m t : Int) : (lineOf p m t).1.length ≤ 61 := by
  unfold lineOf
  split
  · rename_i h
    have := isP_range h
    split
    · simp only [els_length]; omega
    · simp
  · simp
end Go.Proofs.Ytkibmfchjaiodaa.PPrimeLines
