/- Messages of layer 33: their check, as numbers. No program in sight. -/
import Derived.Test.YtnlfkafebbfenaaPlainMd
namespace Go.Proofs.Ytnlfkafebbfenaa.Pl

structure PM where
  k : Int
  d : Int
  fl : Int
  co : Int
  ck : Int
  po : Int
  sq : Int
  lg : Int
  se : Int
  na : Int
  rc : Int
  rp : Int
  ut : Int
  p1 : Int
  cl : Int
  ac : Int
  va : Int
  p2 : Int
  gm : Int
  st : Int
  so : Int

def inr (n lo hi : Int) : Bool := decide (lo ≤ n) && decide (n ≤ hi)
theorem inr_iff {n lo hi : Int} : inr n lo hi = true ↔ lo ≤ n ∧ n ≤ hi := by simp [inr]
theorem inr_no {n lo hi : Int} : inr n lo hi = false ↔ n < lo ∨ hi < n := by
  rw [← Bool.not_eq_true, inr_iff]
  omega
def szOf (k : Int) : Int := if k = 0 ∨ k = 1 ∨ k = 8 then 44 else if k = 2 ∨ k = 3 ∨ k = 9 ∨ k = 10 then 54 else if k = 11 then 64 else 0
/-- the rows that the program ranges over: number, least, greatest -/
def fz (p : PM) : Nat → Int × Int × Int
  | 0 => (p.d, 0, 255)
  | 1 => (p.fl, 0, 65535)
  | 2 => (p.po, 0, 65535)
  | 3 => (p.sq, 0, 65535)
  | 4 => (p.lg, -128, 127)
  | 5 => (p.rp, 0, 65535)
  | 6 => (p.ut, -32768, 32767)
  | 7 => (p.p1, 0, 255)
  | 8 => (p.cl, 0, 255)
  | 9 => (p.ac, 0, 255)
  | 10 => (p.va, 0, 65535)
  | 11 => (p.p2, 0, 255)
  | 12 => (p.st, 0, 65535)
  | _ => (p.so, 0, 255)
def stOk (s n : Int) : Bool := decide (0 ≤ s) && decide (s ≤ 281474976710655) && decide (0 ≤ n) && decide (n < 1000000000)
theorem stOk_iff {s n : Int} : stOk s n = true ↔ 0 ≤ s ∧ s ≤ 281474976710655 ∧ 0 ≤ n ∧ n < 1000000000 := by simp [stOk, and_assoc]
/-- the error of a timestamp -/
def stE (s n : Int) : Int := if stOk s n = true then 0 else 3
theorem stE_zero {s n : Int} : stE s n = 0 ↔ stOk s n = true := by
  unfold stE
  split <;> simp_all
def rows (p : PM) : Bool := inr p.d 0 255 && inr p.fl 0 65535 && inr p.po 0 65535 && inr p.sq 0 65535 && inr p.lg (-128) 127 && inr p.rp 0 65535 && inr p.ut (-32768) 32767 && inr p.p1 0 255 && inr p.cl 0 255 && inr p.ac 0 255 && inr p.va 0 65535 && inr p.p2 0 255 && inr p.st 0 65535 && inr p.so 0 255
theorem rows_of {p : PM} (h : ∀ j, j < 14 → inr (fz p j).1 (fz p j).2.1 (fz p j).2.2 = true) : rows p = true := by
  have h0 := h 0 (by omega)
  have h1 := h 1 (by omega)
  have h2 := h 2 (by omega)
  have h3 := h 3 (by omega)
  have h4 := h 4 (by omega)
  have h5 := h 5 (by omega)
  have h6 := h 6 (by omega)
  have h7 := h 7 (by omega)
  have h8 := h 8 (by omega)
  have h9 := h 9 (by omega)
  have h10 := h 10 (by omega)
  have h11 := h 11 (by omega)
  have h12 := h 12 (by omega)
  have h13 := h 13 (by omega)
  simp only [fz] at h0 h1 h2 h3 h4 h5 h6 h7 h8 h9 h10 h11 h12 h13
  simp [rows, h0, h1, h2, h3, h4, h5, h6, h7, h8, h9, h10, h11, h12, h13]
theorem rows_no {p : PM} {j : Nat} (hj : j < 14) (h : inr (fz p j).1 (fz p j).2.1 (fz p j).2.2 = false) : rows p = false := by
  rcases (by omega : j = 0 ∨ j = 1 ∨ j = 2 ∨ j = 3 ∨ j = 4 ∨ j = 5 ∨ j = 6 ∨ j = 7 ∨ j = 8 ∨ j = 9 ∨ j = 10 ∨ j = 11 ∨ j = 12 ∨ j = 13) with rfl | rfl | rfl | rfl | rfl | rfl | rfl | rfl | rfl | rfl | rfl | rfl | rfl | rfl <;> simp only [fz] at h <;> simp [rows, h]
def rngs (p : PM) : Bool := rows p && stOk p.se p.na
def answ (k : Int) : Bool := decide (k = 9) || decide (k = 3) || decide (k = 10)
def annz (p : PM) : Bool := decide (p.ut = 0) && decide (p.p1 = 0) && decide (p.cl = 0) && decide (p.ac = 0) && decide (p.va = 0) && decide (p.p2 = 0) && decide (p.gm = 0) && decide (p.st = 0) && decide (p.so = 0)
def chk (p : PM) : Int :=
  if szOf p.k = 0 then 8 else if rngs p = false then 3 else if answ p.k = false ∧ ¬ (p.rc = 0 ∧ p.rp = 0) then 7 else if p.k ≠ 11 ∧ annz p = false then 7 else 0
theorem chk_zero {p : PM} (h : chk p = 0) : szOf p.k ≠ 0 ∧ rngs p = true := by
  unfold chk at h
  split at h
  · omega
  · rename_i a
    split at h
    · omega
    · rename_i b
      exact ⟨a, by simpa using b⟩
end Go.Proofs.Ytnlfkafebbfenaa.Pl
