/- The servo as plain functions on integers, and the plain laws about it: no program in sight. -/
import Derived.Test.YtaaocdgbflifhaaPlainMd
namespace Go.Proofs.Ytaaocdgbflifhaa.Pl

def clampI (n lo hi : Int) : Int := max lo (min n hi)
theorem clamp_in {n lo hi : Int} (h : lo ≤ hi) : lo ≤ clampI n lo hi ∧ clampI n lo hi ≤ hi := by unfold clampI; omega
theorem clamp_id {n lo hi : Int} (h1 : lo ≤ n) (h2 : n ≤ hi) : clampI n lo hi = n := by unfold clampI; omega
theorem clamp_mono {m n lo hi : Int} (h : m ≤ n) : clampI m lo hi ≤ clampI n lo hi := by unfold clampI; omega

/-- is n from lo to hi? -/
def inB (n lo hi : Int) : Bool := decide (clampI n lo hi = n)
theorem inB_yes {n lo hi : Int} (h1 : lo ≤ n) (h2 : n ≤ hi) : inB n lo hi = true := by simp [inB, clamp_id h1 h2]
theorem inB_iff {n lo hi : Int} (h : lo ≤ hi) : inB n lo hi = true ↔ lo ≤ n ∧ n ≤ hi := by
  simp only [inB, decide_eq_true_eq]
  unfold clampI
  omega
theorem inB_no {n lo hi : Int} (h : lo ≤ hi) : inB n lo hi = false ↔ n < lo ∨ hi < n := by
  have := inB_iff (n := n) h
  cases hb : inB n lo hi
  · rw [hb] at this; simp only [Bool.false_eq_true, false_iff] at this; simp only [true_iff]; omega
  · rw [hb] at this; simp only [true_iff] at this; simp only [Bool.true_eq_false, false_iff]; omega

structure Conf where
  kp : Int
  ki : Int
  lim : Int
  sf : Int
  sl : Int

def Conf.ok (c : Conf) : Bool := inB c.kp 0 1048576 && inB c.ki 0 1048576 && inB c.lim 1 500000 && inB c.sf 0 1125899906842624 && inB c.sl 0 1125899906842624
theorem Conf.ok_iff {c : Conf} : c.ok = true ↔ (0 ≤ c.kp ∧ c.kp ≤ 1048576) ∧ (0 ≤ c.ki ∧ c.ki ≤ 1048576) ∧ (1 ≤ c.lim ∧ c.lim ≤ 500000) ∧ (0 ≤ c.sf ∧ c.sf ≤ 1125899906842624) ∧ (0 ≤ c.sl ∧ c.sl ≤ 1125899906842624) := by
  unfold Conf.ok
  simp only [Bool.and_eq_true]
  rw [inB_iff (by omega), inB_iff (by omega), inB_iff (by omega), inB_iff (by omega), inB_iff (by omega)]
  omega

/-- the error of a configuration -/
def Conf.err (c : Conf) : Int := if c.ok then 0 else 3
theorem Conf.err_yes {c : Conf} (h : c.ok = true) : c.err = 0 := by simp [Conf.err, h]
theorem Conf.err_no {c : Conf} (h : c.ok = false) : c.err = 3 := by simp [Conf.err, h]

/-- integral, samples, frequency -/
structure St where
  g : Int
  n : Int
  f : Int

/-- what a sample returns: kind, value, error -/
structure Ret where
  k : Int
  v : Int
  e : Int

def slopeI (o s : Int) : Int := clampI (md o 1000000000 s) (-1000000000) 1000000000
def gainI (k e : Int) : Int := md k e 65536

def argsOk (o p : Int) : Bool := inB o (-1125899906842624) 1125899906842624 && inB p 1 1125899906842624
theorem argsOk_iff {o p : Int} : argsOk o p = true ↔ (-1125899906842624 ≤ o ∧ o ≤ 1125899906842624) ∧ (1 ≤ p ∧ p ≤ 1125899906842624) := by
  unfold argsOk
  simp only [Bool.and_eq_true]
  rw [inB_iff (by omega), inB_iff (by omega)]

def thr (c : Conf) (s : St) : Int := if s.n = 0 then c.sf else c.sl
/-- is it a step? -/
def isStep (c : Conf) (s : St) (o : Int) : Bool := decide (0 < thr c s) && decide (thr c s < max o (-o))

def newG (c : Conf) (s : St) (o p : Int) : Int := clampI (s.g + gainI c.ki (slopeI o p)) (-c.lim) c.lim
def newF (c : Conf) (s : St) (o p : Int) : Int := clampI (gainI c.kp (slopeI o p) + newG c s o p) (-c.lim) c.lim

def stepS (c : Conf) (s : St) (o p : Int) : St :=
  if argsOk o p then (if isStep c s o then ⟨s.g, s.n + 1, s.f⟩ else ⟨newG c s o p, s.n + 1, newF c s o p⟩) else s
def stepR (c : Conf) (s : St) (o p : Int) : Ret :=
  if argsOk o p then (if isStep c s o then ⟨2, o, 0⟩ else ⟨1, newF c s o p, 0⟩) else ⟨0, 0, 3⟩

theorem md_bound (a b c K : Int) (hc : 0 < c) (h1 : -(K * c) ≤ a * b) (h2 : a * b ≤ K * c) : -K ≤ md a b c ∧ md a b c ≤ K := by
  unfold md
  constructor
  · rw [Int.le_ediv_iff_mul_le hc, Int.neg_mul]; exact h1
  · have := Int.ediv_le_ediv hc h2
    rwa [Int.mul_ediv_cancel _ (by omega)] at this

theorem slope_in (o s : Int) : -1000000000 ≤ slopeI o s ∧ slopeI o s ≤ 1000000000 := clamp_in (by omega)

theorem mul_le_both {a b A B : Int} (ha0 : 0 ≤ a) (ha : a ≤ A) (hb1 : -B ≤ b) (hb2 : b ≤ B) : -(A * B) ≤ a * b ∧ a * b ≤ A * B := by
  have hB : 0 ≤ B := by omega
  have h1 : a * b ≤ a * B := Int.mul_le_mul_of_nonneg_left hb2 ha0
  have h2 : a * B ≤ A * B := Int.mul_le_mul_of_nonneg_right ha hB
  have h3 : a * (-B) ≤ a * b := Int.mul_le_mul_of_nonneg_left hb1 ha0
  rw [Int.mul_neg] at h3
  omega

theorem gain_in (k e : Int) (h0 : 0 ≤ k) (h1 : k ≤ 1048576) (h2 : -1000000000 ≤ e) (h3 : e ≤ 1000000000) : -16000000000 ≤ gainI k e ∧ gainI k e ≤ 16000000000 := by
  have := mul_le_both h0 h1 (B := 1000000000) (by omega) h3
  exact md_bound k e 65536 16000000000 (by omega) (by omega) (by omega)

theorem gain_fit (k e : Int) (h0 : 0 ≤ k) (h1 : k ≤ 1048576) (h2 : -1000000000 ≤ e) (h3 : e ≤ 1000000000) : fit (md k e 65536) = true := by
  have := gain_in k e h0 h1 h2 h3
  unfold gainI at this
  exact fit_yes (by omega) (by omega)

/-- What does not fit a word lies beyond the clamp, on the side of its sign. -/
theorem slope_nofit (o s : Int) (hs : 0 < s) (h : fit (md o 1000000000 s) = false) : slopeI o s = if 0 < o then 1000000000 else -1000000000 := by
  have hn := fit_no.1 h
  unfold slopeI clampI
  rcases Int.lt_or_le 0 o with ho | ho
  · rw [if_pos ho]
    have : 0 ≤ md o 1000000000 s := by unfold md; exact Int.ediv_nonneg (by omega) (by omega)
    omega
  · rw [if_neg (by omega)]
    have : md o 1000000000 s ≤ 0 := by
      unfold md
      have := Int.ediv_le_ediv hs (show o * 1000000000 ≤ 0 by omega)
      simpa using this
    omega

/-! ### Invariants -/
def Inv (c : Conf) (s : St) : Prop := -c.lim ≤ s.g ∧ s.g ≤ c.lim ∧ -c.lim ≤ s.f ∧ s.f ≤ c.lim ∧ 0 ≤ s.n

theorem inv_step {c : Conf} {s : St} (hc : c.ok = true) (h : Inv c s) (o p : Int) : Inv c (stepS c s o p) := by
  have hl := (Conf.ok_iff.1 hc).2.2.1
  obtain ⟨a1, a2, a3, a4, a5⟩ := h
  unfold stepS
  split
  · split
    · exact ⟨a1, a2, a3, a4, by show 0 ≤ s.n + 1; omega⟩
    · have b1 := clamp_in (n := s.g + gainI c.ki (slopeI o p)) (lo := -c.lim) (hi := c.lim) (by omega)
      have b2 := clamp_in (n := gainI c.kp (slopeI o p) + newG c s o p) (lo := -c.lim) (hi := c.lim) (by omega)
      exact ⟨b1.1, b1.2, b2.1, b2.2, by show 0 ≤ s.n + 1; omega⟩
  · exact ⟨a1, a2, a3, a4, a5⟩
theorem inv_zero {c : Conf} (hc : c.ok = true) : Inv c ⟨0, 0, 0⟩ := by
  have hl := (Conf.ok_iff.1 hc).2.2.1
  exact ⟨by show -c.lim ≤ 0; omega, by show 0 ≤ c.lim; omega, by show -c.lim ≤ 0; omega, by show 0 ≤ c.lim; omega, by show (0 : Int) ≤ 0; omega⟩

/-! ### Monotony -/
theorem md_mono {a a' b c : Int} (hc : 0 < c) (hb : 0 ≤ b) (h : a ≤ a') : md a b c ≤ md a' b c := by
  unfold md
  exact Int.ediv_le_ediv hc (Int.mul_le_mul_of_nonneg_right h hb)
theorem slope_mono {o o' s : Int} (hs : 0 < s) (h : o ≤ o') : slopeI o s ≤ slopeI o' s := clamp_mono (md_mono hs (by omega) h)
theorem gain_mono {k e e' : Int} (hk : 0 ≤ k) (h : e ≤ e') : gainI k e ≤ gainI k e' := by
  unfold gainI md
  exact Int.ediv_le_ediv (by omega) (Int.mul_le_mul_of_nonneg_left h hk)
theorem newF_mono {c : Conf} {s : St} {o o' p : Int} (hc : c.ok = true) (hp : 0 < p) (h : o ≤ o') : newF c s o p ≤ newF c s o' p := by
  obtain ⟨⟨k1, _⟩, ⟨k2, _⟩, _⟩ := Conf.ok_iff.1 hc
  have hs := slope_mono hp h
  have g1 := gain_mono k1 hs
  have g2 := gain_mono k2 hs
  have g3 : newG c s o p ≤ newG c s o' p := clamp_mono (by omega)
  exact clamp_mono (by omega)

/-! ### No offset -/
theorem slope_zero (p : Int) : slopeI 0 p = 0 := by unfold slopeI md clampI; simp; decide
theorem gain_zero (k : Int) : gainI k 0 = 0 := by unfold gainI md; simp
theorem rest_newG {c : Conf} {s : St} (h : Inv c s) (p : Int) : newG c s 0 p = s.g := by
  obtain ⟨a1, a2, _⟩ := h
  unfold newG
  rw [slope_zero, gain_zero, Int.add_zero]
  exact clamp_id a1 a2
theorem rest_newF {c : Conf} {s : St} (h : Inv c s) (p : Int) : newF c s 0 p = s.g := by
  have e := rest_newG h p
  obtain ⟨a1, a2, _⟩ := h
  unfold newF
  rw [slope_zero, gain_zero, e, Int.zero_add]
  exact clamp_id a1 a2
theorem rest_noStep (c : Conf) (s : St) : isStep c s 0 = false := by
  unfold isStep
  rw [Bool.and_eq_false_iff]
  simp only [decide_eq_false_iff_not]
  omega

/-! ### Settling -/
theorem settle_slope (x : Int) (h1 : -500000 ≤ x) (h2 : x ≤ 500000) : slopeI x 1000000000 = x := by
  unfold slopeI md
  rw [Int.mul_ediv_cancel _ (by omega)]
  exact clamp_id (by omega) (by omega)
def settleC : Conf := ⟨32768, 0, 500000, 0, 0⟩
theorem settle_F (s : St) (x : Int) (h1 : -500000 ≤ x) (h2 : x ≤ 500000) (hg : s.g = 0) : newG settleC s x 1000000000 = 0 ∧ newF settleC s x 1000000000 = x / 2 := by
  have e : newG settleC s x 1000000000 = 0 := by
    unfold newG
    rw [hg, settle_slope x h1 h2]
    show clampI (0 + gainI 0 x) (-500000) 500000 = 0
    unfold gainI md
    rw [Int.zero_mul]
    exact clamp_id (by decide) (by decide)
  refine ⟨e, ?_⟩
  unfold newF
  rw [e, settle_slope x h1 h2]
  show clampI (gainI 32768 x + 0) (-500000) 500000 = x / 2
  have : gainI 32768 x = x / 2 := by unfold gainI md; omega
  rw [this, Int.add_zero]
  exact clamp_id (by omega) (by omega)
/-- behind k rounds: x is at most 500000 / 2^k beyond 0 or 1 -/
def Near (k : Nat) (x : Int) : Prop := (x - 1) * 2 ^ k ≤ 500000 ∧ -500000 ≤ x * 2 ^ k
theorem near_zero {x : Int} (h1 : -500000 ≤ x) (h2 : x ≤ 500000) : Near 0 x := by unfold Near; simp; omega
theorem near_step {k : Nat} {x : Int} (h : Near k x) : Near (k + 1) (x - x / 2) := by
  obtain ⟨h1, h2⟩ := h
  have hp : (0 : Int) ≤ 2 ^ k := Int.pow_nonneg (by decide)
  unfold Near
  rw [Int.pow_succ, Int.mul_comm (2 ^ k) 2, ← Int.mul_assoc, ← Int.mul_assoc]
  constructor
  · refine Int.le_trans (Int.mul_le_mul_of_nonneg_right (show (x - x / 2 - 1) * 2 ≤ x - 1 by omega) hp) h1
  · refine Int.le_trans h2 (Int.mul_le_mul_of_nonneg_right (show x ≤ (x - x / 2) * 2 by omega) hp)
theorem near_le {k : Nat} {x : Int} (h : Near k x) : -500000 ≤ x ∧ x ≤ 500001 := by
  obtain ⟨h1, h2⟩ := h
  have hp : (1 : Int) ≤ 2 ^ k := by
    have := Nat.one_le_two_pow (n := k)
    exact_mod_cast this
  constructor
  · rcases Int.lt_or_le x 0 with h | h
    · have := Int.mul_le_mul_of_nonneg_left hp (show 0 ≤ -x by omega)
      rw [Int.mul_one, Int.neg_mul] at this
      omega
    · omega
  · rcases Int.lt_or_le x 1 with h | h
    · omega
    · have := Int.mul_le_mul_of_nonneg_left hp (show 0 ≤ x - 1 by omega)
      omega
theorem near_end {x : Int} (h : Near 20 x) : -1 ≤ x ∧ x ≤ 1 := by
  obtain ⟨h1, h2⟩ := h
  have e : (2 : Int) ^ 20 = 1048576 := rfl
  rw [e] at h1 h2
  omega

end Go.Proofs.Ytaaocdgbflifhaa.Pl
