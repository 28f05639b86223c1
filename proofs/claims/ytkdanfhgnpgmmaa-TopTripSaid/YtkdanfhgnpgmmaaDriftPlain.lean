/- What the functions of layer 11 return, as integers. No program in sight. -/
import Derived.Test.YtkdanfhgnpgmmaaPlainMd
namespace Go.Proofs.Ytkdanfhgnpgmmaa.Pl

def dok (a b : Int) : Bool := decide (a ≤ b) && decide (-8000000000000000000 ≤ a) && decide (b ≤ 8000000000000000000)
theorem dok_iff {a b : Int} : dok a b = true ↔ a ≤ b ∧ -8000000000000000000 ≤ a ∧ b ≤ 8000000000000000000 := by simp [dok, and_assoc]
theorem dok_no {a b : Int} : dok a b = false ↔ ¬ (a ≤ b ∧ -8000000000000000000 ≤ a ∧ b ≤ 8000000000000000000) := by rw [← dok_iff]; simp
def dchk (a b : Int) : Int := if dok a b then 0 else 3
theorem dchk_yes {a b : Int} (h : dok a b = true) : dchk a b = 0 := by simp [dchk, h]
theorem dchk_no {a b : Int} (h : dok a b = false) : dchk a b = 3 := by simp [dchk, h]
def dvl (a b : Int) : Int × Int × Int := if dok a b then (a, b, 0) else (0, 0, 3)

def eok (raw tol : Int) : Bool := decide (0 ≤ raw) && decide (raw ≤ 2251799813685248) && decide (0 ≤ tol) && decide (tol ≤ 500000)
theorem eok_iff {raw tol : Int} : eok raw tol = true ↔ 0 ≤ raw ∧ raw ≤ 2251799813685248 ∧ 0 ≤ tol ∧ tol ≤ 500000 := by simp [eok, and_assoc]
theorem eok_no {raw tol : Int} : eok raw tol = false ↔ ¬ (0 ≤ raw ∧ raw ≤ 2251799813685248 ∧ 0 ≤ tol ∧ tol ≤ 500000) := by rw [← eok_iff]; simp
def lst (raw tol : Int) : Int := max 0 (md (raw - 1) 1000000000 (1000000000 + tol) + 1)
def mst (raw tol : Int) : Int := - md (-(raw + 1)) 1000000000 (1000000000 - tol) - 1
def ela (raw tol : Int) : Int × Int × Int := if eok raw tol then (lst raw tol, mst raw tol, 0) else (0, 0, 3)

/-- The quotients of Elapsed lie in these bounds. -/
theorem down_in {raw tol : Int} (h : eok raw tol = true) : -1 ≤ md (raw - 1) 1000000000 (1000000000 + tol) ∧ md (raw - 1) 1000000000 (1000000000 + tol) ≤ raw := by
  obtain ⟨h1, h2, h3, h4⟩ := eok_iff.1 h
  unfold md
  constructor
  · rw [Int.le_ediv_iff_mul_le (by omega)]; omega
  · rcases Int.lt_or_le raw 1 with h0 | h0
    · have := Int.ediv_neg_of_neg_of_pos (show (raw - 1) * 1000000000 < 0 by omega) (show 0 < 1000000000 + tol by omega)
      omega
    · have h5 : (raw - 1) * 1000000000 / (1000000000 + tol) < raw := by
        rw [Int.ediv_lt_iff_lt_mul (by omega), Int.mul_add]
        have := Int.mul_nonneg (show 0 ≤ raw by omega) h3
        omega
      omega
theorem up_in {raw tol : Int} (h : eok raw tol = true) : -2 * (raw + 1) ≤ md (-(raw + 1)) 1000000000 (1000000000 - tol) ∧ md (-(raw + 1)) 1000000000 (1000000000 - tol) ≤ -(raw + 1) := by
  obtain ⟨h1, h2, h3, h4⟩ := eok_iff.1 h
  unfold md
  constructor
  · rw [Int.le_ediv_iff_mul_le (by omega), Int.mul_sub]
    have := Int.mul_le_mul_of_nonneg_left h4 (show 0 ≤ 2 * (raw + 1) by omega)
    have e : -2 * (raw + 1) * tol = -(2 * (raw + 1) * tol) := by rw [← Int.neg_mul, ← Int.neg_mul]
    rw [e]
    omega
  · refine Int.lt_add_one_iff.1 ?_
    rw [Int.ediv_lt_iff_lt_mul (by omega), Int.add_mul, Int.one_mul]
    have e : -(raw + 1) * (1000000000 - tol) = -(raw + 1) * 1000000000 + (raw + 1) * tol := by rw [Int.mul_sub, Int.neg_mul, Int.neg_mul, Int.sub_neg]
    have := Int.mul_nonneg (show 0 ≤ raw + 1 by omega) h3
    rw [e]
    omega
theorem lst_in {raw tol : Int} (h : eok raw tol = true) : 0 ≤ lst raw tol ∧ lst raw tol ≤ raw + 1 := by
  have := down_in h
  obtain ⟨h1, h2, h3, h4⟩ := eok_iff.1 h
  unfold lst
  omega
theorem mst_in {raw tol : Int} (h : eok raw tol = true) : raw ≤ mst raw tol ∧ mst raw tol ≤ 2 * raw + 1 := by
  have := up_in h
  unfold mst
  omega
theorem ela_yes {raw tol : Int} (h : eok raw tol = true) : ela raw tol = (lst raw tol, mst raw tol, 0) := by simp [ela, h]
theorem ela_no {raw tol : Int} (h : eok raw tol = false) : ela raw tol = (0, 0, 3) := by simp [ela, h]

def age (a b raw tol : Int) : Int × Int × Int := if dok a b then (if eok raw tol then dvl (a + lst raw tol) (b + mst raw tol) else (0, 0, 3)) else (0, 0, 2)
def trip (a b raw hold tol : Int) : Int × Int × Int := if dok a b then (if eok raw tol then (if hold < 0 then (0, 0, 3) else if mst raw tol < hold then (0, 0, 12) else dvl a (b + mst raw tol - hold)) else (0, 0, 3)) else (0, 0, 2)
def meet (a b c d : Int) : Int × Int × Bool := if dok a b && dok c d && decide (max a c ≤ min b d) then (max a c, min b d, true) else (0, 0, false)
def hull (a b c d : Int) : Int × Int := if dok a b && dok c d then (min a c, max b d) else (0, 0)
def has (a b t : Int) : Bool := dok a b && decide (a ≤ t) && decide (t ≤ b)
def width (a b : Int) : Int := if dok a b then (if fit (b - a) then b - a else 9223372036854775807) else 0
def shift (a b d : Int) : Int × Int × Int := if dok a b then (if fit (a + d) && fit (b + d) then dvl (a + d) (b + d) else (0, 0, 3)) else (0, 0, 2)
end Go.Proofs.Ytkdanfhgnpgmmaa.Pl
