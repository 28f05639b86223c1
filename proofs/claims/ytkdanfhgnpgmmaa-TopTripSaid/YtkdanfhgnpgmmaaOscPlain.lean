/- What an oscillator reads, as integers. No program in sight. -/
import Derived.Test.YtkdanfhgnpgmmaaPlainMd
namespace Go.Proofs.Ytkdanfhgnpgmmaa.Pl

def inq (n lo hi : Int) : Bool := decide (lo ≤ n) && decide (n ≤ hi)
theorem inq_iff {n lo hi : Int} : inq n lo hi = true ↔ lo ≤ n ∧ n ≤ hi := by simp [inq]
section
variable (at_ pb : Nat → Int)
/-- the error of segment i -/
def segE (i : Nat) : Int :=
  if inq (at_ i) 0 1125899906842624 && inq (pb i) (-500000) 500000 then (if i = 0 then (if at_ 0 = 0 then 0 else 7) else if at_ i ≤ at_ (i - 1) then 12 else 0) else 3
/-- the first error of k segments from i on -/
def segsE : Nat → Nat → Int
  | 0, _ => 0
  | k + 1, i => if segE at_ pb i = 0 then segsE k (i + 1) else segE at_ pb i
def oscE (ph : Int) (n : Nat) : Int := if n = 0 then 14 else if 16 < n then 6 else if inq ph (-1125899906842624) 1125899906842624 then segsE at_ pb n 0 else 3
def endOf (n i : Nat) : Int := if i + 1 < n then at_ (i + 1) else 1125899906842624
def dOf (n : Nat) (t : Int) (i : Nat) : Int := max 0 (min t (endOf at_ n i) - at_ i)
def gain (n : Nat) (t : Int) : Nat → Int
  | 0 => 0
  | k + 1 => gain n t k + pb k * dOf at_ n t k
def whl (n : Nat) (t : Int) : Nat → Int
  | 0 => 0
  | k + 1 => whl n t k + pb k * (dOf at_ n t k / 1000000000)
def rst (n : Nat) (t : Int) : Nat → Int
  | 0 => 0
  | k + 1 => rst n t k + pb k * (dOf at_ n t k % 1000000000)
def cov (n : Nat) (t : Int) : Nat → Int
  | 0 => 0
  | k + 1 => cov n t k + dOf at_ n t k
def rdg (ph : Int) (n : Nat) (t : Int) : Int := ph + t + gain at_ pb n t n / 1000000000
def bnd : Nat → Int
  | 0 => 0
  | k + 1 => max (max (bnd k) (pb k)) (-(pb k))
end
/-- a valid oscillator -/
structure OscOk (at_ pb : Nat → Int) (ph : Int) (n : Nat) : Prop where
  pos : 0 < n
  few : n ≤ 16
  ph1 : -1125899906842624 ≤ ph
  ph2 : ph ≤ 1125899906842624
  first : at_ 0 = 0
  seg : ∀ i, i < n → 0 ≤ at_ i ∧ at_ i ≤ 1125899906842624 ∧ -500000 ≤ pb i ∧ pb i ≤ 500000
  up : ∀ i, i + 1 < n → at_ i < at_ (i + 1)
section
variable {at_ pb : Nat → Int} {ph : Int} {n : Nat}
theorem segE_zero {i : Nat} (h : segE at_ pb i = 0) : (0 ≤ at_ i ∧ at_ i ≤ 1125899906842624 ∧ -500000 ≤ pb i ∧ pb i ≤ 500000) ∧ (i = 0 → at_ 0 = 0) ∧ (i ≠ 0 → at_ (i - 1) < at_ i) := by
  unfold segE at h
  split at h
  · rename_i c
    simp only [Bool.and_eq_true, inq_iff] at c
    split at h
    · rename_i e
      split at h
      · rename_i q
        exact ⟨⟨c.1.1, c.1.2, c.2.1, c.2.2⟩, fun _ => q, fun x => absurd e x⟩
      · omega
    · rename_i e
      split at h
      · omega
      · exact ⟨⟨c.1.1, c.1.2, c.2.1, c.2.2⟩, fun x => absurd x e, fun _ => by omega⟩
  · omega
theorem segsE_zero : ∀ (k i : Nat), segsE at_ pb k i = 0 → ∀ j, i ≤ j → j < i + k → segE at_ pb j = 0
  | 0, i, _, j, h1, h2 => by omega
  | k + 1, i, h, j, h1, h2 => by
    unfold segsE at h
    split at h
    · rename_i e
      by_cases c : j = i
      · rw [c]; exact e
      · exact segsE_zero k (i + 1) h j (by omega) (by omega)
    · rename_i e
      exact absurd h e
theorem osc_ok (h : oscE at_ pb ph n = 0) : OscOk at_ pb ph n := by
  unfold oscE at h
  split at h
  · omega
  · split at h
    · omega
    · split at h
      · rename_i a b c
        have c := inq_iff.1 c
        have s := fun j hj => segE_zero (segsE_zero n 0 h j (Nat.zero_le _) (by omega))
        exact ⟨by omega, by omega, c.1, c.2, (s 0 (by omega)).2.1 rfl, fun i hi => (s i (by omega)).1, fun i hi => by simpa using (s (i + 1) (by omega)).2.2 (by omega)⟩
      · omega
theorem OscOk.end_ (h : OscOk at_ pb ph n) {i : Nat} (hi : i < n) : at_ i ≤ endOf at_ n i ∧ endOf at_ n i ≤ 1125899906842624 := by
  unfold endOf
  split
  · rename_i c
    exact ⟨Int.le_of_lt (h.up i c), (h.seg _ c).2.1⟩
  · exact ⟨(h.seg i hi).2.1, Int.le_refl _⟩
theorem OscOk.d_in (h : OscOk at_ pb ph n) {i : Nat} (hi : i < n) (t : Int) : 0 ≤ dOf at_ n t i ∧ dOf at_ n t i ≤ 1125899906842624 := by
  have := h.end_ hi
  have := (h.seg i hi).1
  unfold dOf
  omega
theorem OscOk.d_mono (_h : OscOk at_ pb ph n) {i : Nat} {t t' : Int} (ht : t ≤ t') : dOf at_ n t i ≤ dOf at_ n t' i := by
  unfold dOf
  omega
theorem OscOk.cov_eq (h : OscOk at_ pb ph n) {t : Int} (h0 : 0 ≤ t) (h1 : t ≤ 1125899906842624) : ∀ k, k ≤ n → cov at_ n t k = min t (if k < n then at_ k else 1125899906842624)
  | 0, _ => by
    have := h.first
    rw [if_pos h.pos, this]
    unfold cov
    omega
  | k + 1, hk => by
    have ih := h.cov_eq h0 h1 k (by omega)
    rw [if_pos (show k < n by omega)] at ih
    have e := h.end_ (i := k) (by omega)
    unfold cov
    rw [ih]
    unfold dOf
    have e2 : endOf at_ n k = if k + 1 < n then at_ (k + 1) else 1125899906842624 := rfl
    rw [← e2]
    omega
theorem OscOk.cov_all (h : OscOk at_ pb ph n) {t : Int} (h0 : 0 ≤ t) (h1 : t ≤ 1125899906842624) : cov at_ n t n = t := by
  rw [h.cov_eq h0 h1 n (Nat.le_refl _), if_neg (by omega)]
  omega
theorem bnd_ge : ∀ (k : Nat), 0 ≤ bnd pb k ∧ ∀ i, i < k → -(bnd pb k) ≤ pb i ∧ pb i ≤ bnd pb k
  | 0 => ⟨Int.le_refl _, fun i hi => by omega⟩
  | k + 1 => by
    obtain ⟨a, b⟩ := bnd_ge k
    unfold bnd
    refine ⟨by omega, fun i hi => ?_⟩
    by_cases c : i = k
    · subst c; omega
    · have := b i (by omega); omega
theorem OscOk.bnd_le (h : OscOk at_ pb ph n) : ∀ k, k ≤ n → bnd pb k ≤ 500000
  | 0, _ => by unfold bnd; omega
  | k + 1, hk => by
    have := h.bnd_le k (by omega)
    have := h.seg k (by omega)
    unfold bnd
    omega
theorem OscOk.diff (h : OscOk at_ pb ph n) {t t' : Int} (ht : t ≤ t') : ∀ k, k ≤ n → -(bnd pb n * (cov at_ n t' k - cov at_ n t k)) ≤ gain at_ pb n t' k - gain at_ pb n t k ∧ gain at_ pb n t' k - gain at_ pb n t k ≤ bnd pb n * (cov at_ n t' k - cov at_ n t k)
  | 0, _ => by unfold cov gain; simp
  | k + 1, hk => by
    obtain ⟨a, b⟩ := h.diff ht k (by omega)
    have hm := h.d_mono (i := k) ht
    obtain ⟨b1, b2⟩ := (bnd_ge (pb := pb) n).2 k (by omega)
    unfold cov gain
    have e1 := Int.mul_le_mul_of_nonneg_right b2 (show 0 ≤ dOf at_ n t' k - dOf at_ n t k by omega)
    have e2 := Int.mul_le_mul_of_nonneg_right b1 (show 0 ≤ dOf at_ n t' k - dOf at_ n t k by omega)
    have e3 : bnd pb n * (cov at_ n t' k + dOf at_ n t' k - (cov at_ n t k + dOf at_ n t k)) = bnd pb n * (cov at_ n t' k - cov at_ n t k) + bnd pb n * (dOf at_ n t' k - dOf at_ n t k) := by
      rw [← Int.mul_add]; congr 1; omega
    rw [e3]
    rw [Int.neg_mul] at e2
    rw [Int.mul_sub (pb k)] at e1 e2
    omega
theorem gain_split (n : Nat) (t : Int) : ∀ k, gain at_ pb n t k = whl at_ pb n t k * 1000000000 + rst at_ pb n t k
  | 0 => by unfold gain whl rst; rfl
  | k + 1 => by
    have ih := gain_split n t k
    unfold gain whl rst
    have e := Int.mul_ediv_add_emod (dOf at_ n t k) 1000000000
    have e2 : pb k * dOf at_ n t k = pb k * (dOf at_ n t k / 1000000000) * 1000000000 + pb k * (dOf at_ n t k % 1000000000) := by
      rw [Int.mul_assoc, ← Int.mul_add, Int.mul_comm (dOf at_ n t k / 1000000000), e]
    rw [e2, ih, Int.add_mul]
    omega
theorem rdg_eq (ph : Int) (n : Nat) (t : Int) : rdg at_ pb ph n t = ph + t + whl at_ pb n t n + rst at_ pb n t n / 1000000000 := by
  unfold rdg
  rw [gain_split, Int.add_comm (whl at_ pb n t n * 1000000000), Int.add_mul_ediv_right _ _ (by omega)]
  omega
theorem mul_bd {p d K : Int} (h1 : -500000 ≤ p) (h2 : p ≤ 500000) (h3 : 0 ≤ d) (h4 : d ≤ K) : -(500000 * K) ≤ p * d ∧ p * d ≤ 500000 * K := by
  have a := Int.mul_le_mul_of_nonneg_right h1 h3
  have b := Int.mul_le_mul_of_nonneg_right h2 h3
  omega
theorem OscOk.whl_in (h : OscOk at_ pb ph n) (t : Int) : ∀ k, k ≤ n → -(562949953421 * (k : Int)) ≤ whl at_ pb n t k ∧ whl at_ pb n t k ≤ 562949953421 * (k : Int)
  | 0, _ => by unfold whl; simp
  | k + 1, hk => by
    have ih := h.whl_in t k (by omega)
    have s := h.seg k (by omega)
    have d := h.d_in (i := k) (by omega) t
    have := mul_bd s.2.2.1 s.2.2.2 (show 0 ≤ dOf at_ n t k / 1000000000 by omega) (show dOf at_ n t k / 1000000000 ≤ 1125899 by omega)
    unfold whl
    omega
theorem OscOk.rst_in (h : OscOk at_ pb ph n) (t : Int) : ∀ k, k ≤ n → -(500000000000000 * (k : Int)) ≤ rst at_ pb n t k ∧ rst at_ pb n t k ≤ 500000000000000 * (k : Int)
  | 0, _ => by unfold rst; simp
  | k + 1, hk => by
    have ih := h.rst_in t k (by omega)
    have s := h.seg k (by omega)
    have := mul_bd s.2.2.1 s.2.2.2 (show 0 ≤ dOf at_ n t k % 1000000000 by omega) (show dOf at_ n t k % 1000000000 ≤ 1000000000 by omega)
    unfold rst
    omega
/-- what two readings prove of the time between them -/
theorem OscOk.proves (h : OscOk at_ pb ph n) {t t' : Int} (h0 : 0 ≤ t) (ht : t ≤ t') (h1 : t' ≤ 1125899906842624) :
    (rdg at_ pb ph n t' - rdg at_ pb ph n t - 1) * 1000000000 < (t' - t) * (1000000000 + bnd pb n) ∧ (t' - t) * (1000000000 + -(bnd pb n)) < (rdg at_ pb ph n t' - rdg at_ pb ph n t + 1) * 1000000000 := by
  obtain ⟨a, b⟩ := h.diff ht n (Nat.le_refl _)
  rw [h.cov_all (by omega) h1, h.cov_all h0 (by omega), Int.mul_comm] at a b
  unfold rdg
  generalize gain at_ pb n t' n = G' at *
  generalize gain at_ pb n t n = G at *
  have e1 : (t' - t) * (1000000000 + bnd pb n) = (t' - t) * 1000000000 + (t' - t) * bnd pb n := Int.mul_add _ _ _
  have e2 : (t' - t) * (1000000000 + -(bnd pb n)) = (t' - t) * 1000000000 + -((t' - t) * bnd pb n) := by rw [Int.mul_add, Int.mul_neg]
  rw [e1, e2]
  generalize (t' - t) * bnd pb n = M at *
  omega
end
end Go.Proofs.Ytkdanfhgnpgmmaa.Pl
