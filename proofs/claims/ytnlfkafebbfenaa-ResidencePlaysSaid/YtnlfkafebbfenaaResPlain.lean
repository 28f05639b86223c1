/- What the functions of layer 40 return, as integers. No program in sight. -/
import Derived.Test.YtnlfkafebbfenaaPtpPlain
namespace Go.Proofs.Ytnlfkafebbfenaa.Pl

def stayE (i o p : Int) : Int :=
  if inr i (-4503599627370496) 4503599627370496 && inr o (-4503599627370496) 4503599627370496 && inr p (-500000) 500000 then (if o < i then 12 else 0) else 3
def stayN (i o p : Int) : Int := if stayE i o p = 0 then md (o - i) 1000000000 (1000000000 + p) else 0
theorem stayE_zero {i o p : Int} (h : stayE i o p = 0) : (-4503599627370496 ≤ i ∧ i ≤ 4503599627370496) ∧ (-4503599627370496 ≤ o ∧ o ≤ 4503599627370496) ∧ (-500000 ≤ p ∧ p ≤ 500000) ∧ i ≤ o := by
  unfold stayE at h
  split at h
  · rename_i a
    simp only [Bool.and_eq_true, inr_iff] at a
    split at h
    · omega
    · exact ⟨a.1.1, a.1.2, a.2, by omega⟩
  · omega
theorem md_in {n p : Int} (h0 : 0 ≤ n) (h1 : n ≤ 9007199254740992) (hp : -500000 ≤ p) (hp2 : p ≤ 500000) : 0 ≤ md n 1000000000 (1000000000 + p) ∧ md n 1000000000 (1000000000 + p) ≤ 18014398509481984 := by
  unfold md
  refine ⟨Int.ediv_nonneg (by omega) (by omega), ?_⟩
  have : n * 1000000000 / (1000000000 + p) < 18014398509481985 := by
    rw [Int.ediv_lt_iff_lt_mul (by omega)]
    have := Int.mul_le_mul_of_nonneg_left (show 999500000 ≤ 1000000000 + p by omega) (show (0 : Int) ≤ 18014398509481985 by omega)
    omega
  omega
theorem stayN_in (i o p : Int) : 0 ≤ stayN i o p ∧ stayN i o p ≤ 18014398509481984 := by
  unfold stayN
  split
  · rename_i h
    obtain ⟨a, b, c, d⟩ := stayE_zero h
    exact md_in (by omega) (by omega) c.1 c.2
  · omega
theorem stay_fit {i o p : Int} (h : stayE i o p = 0) : fit (md (o - i) 1000000000 (1000000000 + p)) = true := by
  obtain ⟨a, b, c, d⟩ := stayE_zero h
  have := md_in (n := o - i) (by omega) (by omega) c.1 c.2
  exact fit_yes (by omega) (by omega)

def pm0 : PM := ⟨0, 0, 0, 0, 0, 0, 0, 0, 0, 0, 0, 0, 0, 0, 0, 0, 0, 0, 0, 0, 0⟩
def PM.wco (p : PM) (n : Int) : PM := ⟨p.k, p.d, p.fl, n, p.ck, p.po, p.sq, p.lg, p.se, p.na, p.rc, p.rp, p.ut, p.p1, p.cl, p.ac, p.va, p.p2, p.gm, p.st, p.so⟩
/-- can a message be corrected by t ns? -/
def corOk (p : PM) (t : Int) : Bool := fit (t * 65536) && fit (p.co + t * 65536)
def corP (p : PM) (t : Int) : PM := if corOk p t = true then p.wco (p.co + t * 65536) else pm0
theorem chk_wco (p : PM) (n : Int) : chk (p.wco n) = chk p := rfl
theorem kind_wco (p : PM) (n : Int) : (p.wco n).k = p.k := rfl
def addE (p : PM) (s l : Int) : Int :=
  if chk p = 0 then (if p.k = 11 then 8 else if inr s 0 1125899906842624 && inr l 0 1125899906842624 then (if corOk p (s + l) = true then 0 else 4) else 3) else 2
def addP (p : PM) (s l : Int) : PM := if addE p s l = 0 then p.wco (p.co + (s + l) * 65536) else pm0
end Go.Proofs.Ytnlfkafebbfenaa.Pl
