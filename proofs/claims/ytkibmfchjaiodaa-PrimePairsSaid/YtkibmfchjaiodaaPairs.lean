/-
  How many lines of a prime number's side bear two given cells: just one where they are unlike, one of each direction where they are one cell. No program and no memory here.
-/
import Derived.Test.YtkibmfchjaiodaaLines
namespace Go.Proofs.Ytkibmfchjaiodaa.PPrimeLines
open Go.RowKit Go.Proofs.YtkibmfchjaiodaaW.PrintWords

/-- is a cell one of the two? -/
def hitB (cx cy dx dy : Int) (x : S28) : Bool := (x.f0 == cx && x.f1 == cy) || (x.f0 == dx && x.f1 == dy)
/-- how many cells of a list are -/
def cntF (cx cy dx dy : Int) (l : List S28) : Nat := (l.filter (hitB cx cy dx dy)).length
/-- the cells of a line -/
def cells (q : Int) (m t : Nat) : List S28 := els q m t q.toNat 0
/-- does the line bear both? -/
def both (cx cy dx dy q : Int) (m t : Nat) : Bool :=
  (cntF cx cy dx dy (cells q m t) == 2) || ((cx == dx && cy == dy) && (cntF cx cy dx dy (cells q m t) == 1))
def rowN (cx cy dx dy q : Int) (m : Nat) : Nat → Nat
  | 0 => 0
  | j + 1 => rowN cx cy dx dy q m j + (if both cx cy dx dy q m j = true then 1 else 0)
def totN (cx cy dx dy q : Int) : Nat → Nat
  | 0 => 0
  | i + 1 => totN cx cy dx dy q i + rowN cx cy dx dy q i q.toNat

theorem cntF_take (cx cy dx dy : Int) (l : List S28) (j : Nat) (h : j < l.length) :
    cntF cx cy dx dy (l.take (j + 1)) = cntF cx cy dx dy (l.take j) + (if hitB cx cy dx dy (rd_T28 l j) = true then 1 else 0) := by
  unfold cntF rd_T28
  rw [List.take_succ_eq_append_getElem h, List.filter_append, List.length_append]
  have e : l.getD (j : Int).toNat z28 = l[j] := by
    rw [Int.toNat_natCast, List.getD_eq_getElem?_getD, List.getElem?_eq_getElem h]; rfl
  rw [e]
  by_cases hh : hitB cx cy dx dy l[j] = true <;> simp [hh]
theorem cntF_le (cx cy dx dy : Int) (l : List S28) : cntF cx cy dx dy l ≤ l.length := List.length_filter_le _ _
theorem rowN_le (cx cy dx dy q : Int) (m : Nat) : ∀ j, rowN cx cy dx dy q m j ≤ j
  | 0 => Nat.le_refl _
  | j + 1 => by
    have := rowN_le cx cy dx dy q m j
    unfold rowN
    split <;> omega
theorem totN_le (cx cy dx dy q : Int) : ∀ i, totN cx cy dx dy q i ≤ i * q.toNat
  | 0 => Nat.zero_le _
  | i + 1 => by
    have h1 := totN_le cx cy dx dy q i
    have h2 := rowN_le cx cy dx dy q i q.toNat
    unfold totN
    rw [Nat.succ_mul]
    omega
theorem lineOf_cells {q : Int} (h : isP q = true) (m t : Nat) (hm : (m : Int) ≤ q) (ht : (t : Int) < q) : lineOf q m t = (cells q m t, 0) := by
  unfold lineOf cells
  rw [if_pos h, if_pos ⟨by omega, hm, by omega, ht⟩]
theorem cells_length (q : Int) (m t : Nat) : (cells q m t).length = q.toNat := els_length _ _ _ _ _
/-- how often one cell stands in a list -/
def cnt1 (cx cy : Int) (l : List S28) : Nat := (l.filter fun x => x.f0 == cx && x.f1 == cy).length
theorem cntF_split {cx cy dx dy : Int} (h : ¬ (cx = dx ∧ cy = dy)) : ∀ l : List S28, cntF cx cy dx dy l = cnt1 cx cy l + cnt1 dx dy l
  | [] => rfl
  | x :: l => by
    have ih := cntF_split h l
    unfold cntF cnt1 at *
    simp only [List.filter_cons, hitB]
    by_cases h1 : (x.f0 == cx && x.f1 == cy) = true
    · have h2 : (x.f0 == dx && x.f1 == dy) = false := by
        simp only [Bool.and_eq_true, beq_iff_eq] at h1
        obtain ⟨e1, e2⟩ := h1
        rw [e1, e2]
        cases hh : (cx == dx && cy == dy)
        · rfl
        · simp only [Bool.and_eq_true, beq_iff_eq] at hh
          exact absurd hh h
      simp only [h1, h2, Bool.true_or, if_true, List.length_cons]
      simp only [Bool.false_eq_true, if_false]
      omega
    · have h1' : (x.f0 == cx && x.f1 == cy) = false := by simpa using h1
      by_cases h2 : (x.f0 == dx && x.f1 == dy) = true
      · simp only [h1', h2, Bool.or_true, if_true, List.length_cons, Bool.false_eq_true, if_false]
        omega
      · have h2' : (x.f0 == dx && x.f1 == dy) = false := by simpa using h2
        simp only [h1', h2', Bool.or_false]
        simpa using ih
theorem cntF_one (cx cy : Int) (l : List S28) : cntF cx cy cx cy l = cnt1 cx cy l := by
  unfold cntF cnt1
  congr 1
  exact List.filter_congr fun x _ => by simp [hitB]

/-- does the line bear the cell? -/
def On (q m t cx cy : Int) : Prop := if m = q then t = cx else (m * cx + t) % q = cy
instance (q m t cx cy : Int) : Decidable (On q m t cx cy) := by unfold On; exact inferInstance
/-- the place of the cell among the line's -/
def ixOf (q m cx cy : Int) : Int := if m = q then cy else cx
theorem cnt1_els (q m t cx cy : Int) : ∀ (d : Nat) (i : Int), cnt1 cx cy (els q m t d i) = if On q m t cx cy ∧ i ≤ ixOf q m cx cy ∧ ixOf q m cx cy < i + d then 1 else 0
  | 0, i => by
    rw [if_neg (by omega)]
    rfl
  | d + 1, i => by
    have ih := cnt1_els q m t cx cy d (i + 1)
    have e : cnt1 cx cy (els q m t (d + 1) i) = (if ((el q m t i).f0 == cx && (el q m t i).f1 == cy) = true then 1 else 0) + cnt1 cx cy (els q m t d (i + 1)) := by
      unfold cnt1
      simp only [els, List.filter_cons]
      split <;> simp <;> omega
    rw [e, ih]
    by_cases hm : m = q
    · have e2 : ((el q m t i).f0 == cx && (el q m t i).f1 == cy) = true ↔ (t = cx ∧ i = cy) := by simp [el, hm]
      simp only [On, ixOf, if_pos hm, e2]
      by_cases a : t = cx
      · by_cases b : i = cy
        · rw [if_pos ⟨a, b⟩, if_neg (by omega), if_pos ⟨a, by omega, by omega⟩]
        · rw [if_neg (fun h => b h.2)]
          by_cases c : i + 1 ≤ cy ∧ cy < i + 1 + d
          · rw [if_pos ⟨a, c⟩, if_pos ⟨a, by omega, by omega⟩]
          · rw [if_neg (fun h => c h.2), if_neg (fun h => c ⟨by omega, by omega⟩)]
      · rw [if_neg (fun h => a h.1), if_neg (fun h => a h.1), if_neg (fun h => a h.1)]
    · have e2 : ((el q m t i).f0 == cx && (el q m t i).f1 == cy) = true ↔ (i = cx ∧ (m * i + t) % q = cy) := by simp [el, hm]
      simp only [On, ixOf, if_neg hm, e2]
      by_cases b : i = cx
      · subst b
        by_cases a : (m * i + t) % q = cy
        · rw [if_pos ⟨rfl, a⟩, if_neg (by omega), if_pos ⟨a, by omega, by omega⟩]
        · rw [if_neg (fun h => a h.2), if_neg (fun h => a h.1), if_neg (fun h => a h.1)]
      · rw [if_neg (fun h => b h.1)]
        by_cases c : (m * cx + t) % q = cy ∧ i + 1 ≤ cx ∧ cx < i + 1 + d
        · rw [if_pos c, if_pos ⟨c.1, by omega, by omega⟩]
        · rw [if_neg c, if_neg (fun h => c ⟨h.1, by omega, by omega⟩)]

section
variable {Q : Nat} {cx cy dx dy : Int} (a0 : 0 ≤ cx) (a1 : cx < Q) (a2 : 0 ≤ cy) (a3 : cy < Q) (a4 : 0 ≤ dx) (a5 : dx < Q) (a6 : 0 ≤ dy) (a7 : dy < Q)
include a0 a1 a2 a3
theorem cnt1_cells (m t : Nat) : cnt1 cx cy (cells Q m t) = if On Q m t cx cy then 1 else 0 := by
  unfold cells
  rw [cnt1_els]
  have h : 0 ≤ ixOf Q m cx cy ∧ ixOf Q m cx cy < 0 + ((Q : Int).toNat : Int) := by
    rw [Int.toNat_natCast]
    unfold ixOf
    split <;> omega
  by_cases o : On Q m t cx cy
  · rw [if_pos ⟨o, h⟩, if_pos o]
  · rw [if_neg (fun x => o x.1), if_neg o]
include a4 a5 a6 a7
theorem both_iff (m t : Nat) : both cx cy dx dy Q m t = true ↔ On Q m t cx cy ∧ On Q m t dx dy := by
  unfold both
  by_cases e : cx = dx ∧ cy = dy
  · obtain ⟨rfl, rfl⟩ := e
    rw [cntF_one, cnt1_cells a0 a1 a2 a3]
    by_cases o : On Q m t cx cy <;> simp [o]
  · rw [cntF_split e, cnt1_cells a0 a1 a2 a3, cnt1_cells a4 a5 a6 a7]
    have e2 : (cx == dx && cy == dy) = false := by
      cases hh : (cx == dx && cy == dy)
      · rfl
      · simp only [Bool.and_eq_true, beq_iff_eq] at hh
        exact absurd hh e
    rw [e2]
    by_cases o : On Q m t cx cy <;> by_cases p : On Q m t dx dy <;> simp [o, p]
end

/-- the number of the line of direction m through a cell -/
def tau (Q : Nat) (m : Nat) (cx cy : Int) : Int := if (m : Int) = Q then cx else (cy - m * cx) % Q
theorem tau_range {Q : Nat} (m : Nat) {cx cy : Int} (a0 : 0 ≤ cx) (a1 : cx < Q) : 0 ≤ tau Q m cx cy ∧ tau Q m cx cy < Q := by
  unfold tau
  split
  · exact ⟨a0, a1⟩
  · exact ⟨Int.emod_nonneg _ (by omega), Int.emod_lt_of_pos _ (by omega)⟩
theorem on_iff {Q : Nat} {m t : Nat} {cx cy : Int} (ht : t < Q) (a2 : 0 ≤ cy) (a3 : cy < Q) : On Q m t cx cy ↔ (t : Int) = tau Q m cx cy := by
  unfold On tau
  split
  · exact Iff.rfl
  · rw [eq_comm (a := (t : Int)), Int.emod_eq_iff (by omega), Int.emod_eq_iff (by omega)]
    have e : (t : Int) - (cy - m * cx) = -(cy - (m * cx + t)) := by omega
    rw [e, Int.dvd_neg]
    constructor
    · rintro ⟨_, _, h⟩; exact ⟨by omega, by omega, h⟩
    · rintro ⟨_, _, h⟩; exact ⟨a2, by omega, h⟩

theorem lines_meet : ∀ Q : Nat, Q < 32 → isP (Q : Int) = true → ∀ e : Nat, e < Q → e ≠ 0 → ∀ f : Nat, f < Q → ((List.range Q).filter fun m => (m * e) % Q == f).length = 1 := by decide +kernel

theorem tau_meet {Q : Nat} (cx cy dx dy : Int) (m : Nat) (hm : m < Q) : tau Q m cx cy = tau Q m dx dy ↔ (m * ((cx - dx) % Q).toNat) % Q = ((cy - dy) % Q).toNat := by
  have q0 : (Q : Int) ≠ 0 := by omega
  unfold tau
  rw [if_neg (by omega), if_neg (by omega), Int.emod_eq_emod_iff_emod_sub_eq_zero]
  obtain ⟨a, ha⟩ := Int.eq_ofNat_of_zero_le (Int.emod_nonneg (cx - dx) q0)
  obtain ⟨b, hb⟩ := Int.eq_ofNat_of_zero_le (Int.emod_nonneg (cy - dy) q0)
  have e3 : (m * ((cx - dx) % Q).toNat) % Q = ((cy - dy) % Q).toNat ↔ ((m : Int) * ((cx - dx) % Q)) % Q = (cy - dy) % Q := by
    rw [ha, hb, Int.toNat_natCast, Int.toNat_natCast]
    constructor <;> intro h <;> exact_mod_cast h
  rw [e3, Int.emod_eq_emod_iff_emod_sub_eq_zero]
  have e4 : ((m : Int) * ((cx - dx) % Q) - (cy - dy)) % Q = ((m : Int) * (cx - dx) - (cy - dy)) % Q := by
    rw [Int.sub_emod, Int.mul_emod, Int.emod_emod, ← Int.mul_emod, ← Int.sub_emod]
  rw [e4]
  have e5 : cy - m * cx - (dy - m * dx) = -(m * (cx - dx) - (cy - dy)) := by rw [Int.mul_sub]; omega
  rw [e5, ← Int.dvd_iff_emod_eq_zero, Int.dvd_neg, Int.dvd_iff_emod_eq_zero]

section
variable {Q : Nat} {cx cy dx dy : Int} (h0 : isP (Q : Int) = true) (hQ : Q ≤ 31) (a0 : 0 ≤ cx) (a1 : cx < Q) (a2 : 0 ≤ cy) (a3 : cy < Q) (a4 : 0 ≤ dx) (a5 : dx < Q) (a6 : 0 ≤ dy) (a7 : dy < Q)
include a0 a1 a2 a3 a4 a5 a6 a7
theorem rowN_eq (m : Nat) : ∀ j : Nat, j ≤ Q → rowN cx cy dx dy Q m j = if tau Q m cx cy = tau Q m dx dy ∧ tau Q m cx cy < j then 1 else 0
  | 0, _ => by
    rw [if_neg (fun h => by have := (tau_range m (cy := cy) a0 a1).1; omega)]
    rfl
  | j + 1, hj => by
    have ih := rowN_eq m j (by omega)
    have hb := both_iff a0 a1 a2 a3 a4 a5 a6 a7 m j
    rw [on_iff (by omega) a2 a3, on_iff (by omega) a6 a7] at hb
    unfold rowN
    rw [ih]
    by_cases e : tau Q m cx cy = tau Q m dx dy
    · by_cases l : (j : Int) = tau Q m cx cy
      · rw [if_neg (by omega), if_pos (hb.2 ⟨l, by omega⟩), if_pos ⟨e, by omega⟩]
      · rw [if_neg (fun h => l (hb.1 h).1)]
        by_cases k : tau Q m cx cy < j
        · rw [if_pos ⟨e, k⟩, if_pos ⟨e, by omega⟩]
        · rw [if_neg (fun h => k h.2), if_neg (fun h => by have := h.2; omega)]
    · rw [if_neg (fun h => e h.1), if_neg (fun h => e (by have := hb.1 h; omega)), if_neg (fun h => e h.1)]
theorem totN_eq : ∀ i : Nat, totN cx cy dx dy Q i = ((List.range i).filter fun m => decide (tau Q m cx cy = tau Q m dx dy)).length
  | 0 => rfl
  | i + 1 => by
    have ih := totN_eq i
    unfold totN
    rw [ih, Int.toNat_natCast, rowN_eq a0 a1 a2 a3 a4 a5 a6 a7 i Q (Nat.le_refl _), List.range_succ, List.filter_append, List.length_append]
    have := (tau_range (Q := Q) i (cy := cy) a0 a1).2
    by_cases e : tau Q i cx cy = tau Q i dx dy
    · rw [if_pos ⟨e, this⟩]; simp [e]
    · rw [if_neg (fun h => e h.1)]; simp [e]
include h0 hQ
theorem pairs_law : totN cx cy dx dy Q ((Q : Int).toNat + 1) = 1 ∨ (totN cx cy dx dy Q ((Q : Int).toNat + 1) = (Q : Int).toNat + 1 ∧ cx = dx ∧ cy = dy) := by
  rw [Int.toNat_natCast, totN_eq a0 a1 a2 a3 a4 a5 a6 a7]
  by_cases e : cx = dx ∧ cy = dy
  · obtain ⟨rfl, rfl⟩ := e
    refine .inr ⟨?_, rfl, rfl⟩
    rw [List.filter_eq_self.2 (fun _ _ => decide_eq_true rfl)]
    exact List.length_range
  · refine .inl ?_
    rw [List.range_succ, List.filter_append, List.length_append]
    have hl : tau Q Q cx cy = cx ∧ tau Q Q dx dy = dx := ⟨if_pos rfl, if_pos rfl⟩
    by_cases ex : cx = dx
    · subst ex
      have ey : ¬ cy = dy := fun h => e ⟨rfl, h⟩
      have h1 : ((List.range Q).filter fun m => decide (tau Q m cx cy = tau Q m cx dy)) = [] := by
        rw [List.filter_eq_nil_iff]
        intro m hm
        have hm2 := List.mem_range.1 hm
        rw [decide_eq_true_iff, tau_meet cx cy cx dy m hm2, Int.sub_self]
        intro h
        have h2 : (cy - dy) % (Q : Int) = 0 := by
          have h3 : ((cy - dy) % (Q : Int)).toNat = 0 := by rw [← h]; simp
          have := Int.emod_nonneg (cy - dy) (show (Q : Int) ≠ 0 by omega)
          omega
        obtain ⟨k, hk⟩ := Int.dvd_of_emod_eq_zero h2
        have : k = 0 := by
          rcases Int.lt_trichotomy k 0 with h4 | h4 | h4
          · have : (Q : Int) * k ≤ Q * (-1) := Int.mul_le_mul_of_nonneg_left (by omega) (by omega)
            omega
          · exact h4
          · have : (Q : Int) * 1 ≤ Q * k := Int.mul_le_mul_of_nonneg_left (by omega) (by omega)
            omega
        subst this
        omega
      rw [h1]
      simp [hl]
    · have h2 : ((List.range Q).filter fun m => decide (tau Q m cx cy = tau Q m dx dy)) = ((List.range Q).filter fun m => (m * ((cx - dx) % Q).toNat) % Q == ((cy - dy) % Q).toNat) := by
        apply List.filter_congr
        intro m hm
        have h3 := tau_meet cx cy dx dy m (List.mem_range.1 hm)
        rw [Bool.eq_iff_iff, decide_eq_true_iff, beq_iff_eq]
        exact h3
      have r1 := Int.emod_nonneg (cx - dx) (show (Q : Int) ≠ 0 by omega)
      have r2 := Int.emod_lt_of_pos (cx - dx) (show (0 : Int) < Q by omega)
      have r3 := Int.emod_nonneg (cy - dy) (show (Q : Int) ≠ 0 by omega)
      have r4 := Int.emod_lt_of_pos (cy - dy) (show (0 : Int) < Q by omega)
      have r5 : (cx - dx) % (Q : Int) ≠ 0 := by
        intro h
        obtain ⟨k, hk⟩ := Int.dvd_of_emod_eq_zero h
        have : k = 0 := by
          rcases Int.lt_trichotomy k 0 with h4 | h4 | h4
          · have : (Q : Int) * k ≤ Q * (-1) := Int.mul_le_mul_of_nonneg_left (by omega) (by omega)
            omega
          · exact h4
          · have : (Q : Int) * 1 ≤ Q * k := Int.mul_le_mul_of_nonneg_left (by omega) (by omega)
            omega
        subst this
        omega
      rw [h2, lines_meet Q (by omega) h0 _ (by omega) (by omega) _ (by omega)]
      simp [hl, ex]
end
end Go.Proofs.Ytkibmfchjaiodaa.PPrimeLines
