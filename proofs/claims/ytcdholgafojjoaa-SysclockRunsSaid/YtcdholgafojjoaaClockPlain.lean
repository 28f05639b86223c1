/- What the functions of layer 10 compute, as integers. No program in sight. -/
import Derived.Test.YtcdholgafojjoaaPlainMd
namespace Go.Proofs.Ytcdholgafojjoaa.Pl

structure CS where
  raw : Int
  time : Int
  ppb : Int
  left : Int
  rate : Int
  steps : Int

def inn (n most : Int) : Bool := decide (-most ≤ n) && decide (n ≤ most)
theorem inn_iff {n most : Int} : inn n most = true ↔ -most ≤ n ∧ n ≤ most := by simp [inn]
def lim : Int := 4503599627370496
def CS.ok (s : CS) : Bool := inn s.raw 4503599627370496 && inn s.time 4503599627370496 && inn s.left 4503599627370496 && inn s.ppb 500000 && decide (0 ≤ s.rate) && decide (s.rate ≤ 500000) && (decide (s.left = 0) || decide (0 < s.rate)) && decide (0 ≤ s.steps)
theorem CS.ok_iff {s : CS} : s.ok = true ↔ (-4503599627370496 ≤ s.raw ∧ s.raw ≤ 4503599627370496) ∧ (-4503599627370496 ≤ s.time ∧ s.time ≤ 4503599627370496) ∧ (-4503599627370496 ≤ s.left ∧ s.left ≤ 4503599627370496) ∧ (-500000 ≤ s.ppb ∧ s.ppb ≤ 500000) ∧ 0 ≤ s.rate ∧ s.rate ≤ 500000 ∧ (s.left = 0 ∨ 0 < s.rate) ∧ 0 ≤ s.steps := by
  simp [CS.ok, inn_iff, and_assoc]

/-- e ns, corrected by ppb: the floor of e * ppb / 10^9 -/
def part (e ppb : Int) : Int := md e ppb 1000000000
/-- how long the slew lasts -/
def slewLen (s : CS) : Int := if s.left = 0 then 0 else -(md (min s.left (-s.left)) 1000000000 s.rate)
/-- the frequency while the slew lasts -/
def fast (s : CS) : Int := if 0 < s.left then s.ppb + s.rate else if s.left < 0 then s.ppb - s.rate else s.ppb
def shown (s : CS) (e : Int) : Int :=
  if slewLen s < e then s.time + (slewLen s + part (slewLen s) (fast s)) + (e - slewLen s) + part (e - slewLen s) s.ppb else s.time + e + part e (fast s)

theorem part_zero (p : Int) : part 0 p = 0 := by unfold part md; rw [Int.zero_mul]; rfl
theorem part_in {e p : Int} (h0 : 0 ≤ e) (h1 : -1000000 ≤ p) (h2 : p ≤ 1000000) : -e ≤ part e p ∧ part e p ≤ e := by
  have k1 := Int.mul_le_mul_of_nonneg_left h1 h0
  have k2 := Int.mul_le_mul_of_nonneg_left h2 h0
  unfold part md
  constructor
  · rw [Int.le_ediv_iff_mul_le (by omega)]; omega
  · have : e * p / 1000000000 < e + 1 := by rw [Int.ediv_lt_iff_lt_mul (by omega)]; omega
    omega
/-- e + part e p never falls as e grows -/
theorem part_mono {e e' p : Int} (h : e ≤ e') (h1 : -1000000 ≤ p) : e + part e p ≤ e' + part e' p := by
  unfold part md
  have a1 : e + e * p / 1000000000 = (e * (1000000000 + p)) / 1000000000 := by
    rw [Int.mul_add, Int.add_comm (e * 1000000000), Int.add_mul_ediv_right _ _ (by omega), Int.add_comm]
  have a2 : e' + e' * p / 1000000000 = (e' * (1000000000 + p)) / 1000000000 := by
    rw [Int.mul_add, Int.add_comm (e' * 1000000000), Int.add_mul_ediv_right _ _ (by omega), Int.add_comm]
  rw [a1, a2]
  exact Int.ediv_le_ediv (by omega) (Int.mul_le_mul_of_nonneg_right h (by omega))
theorem part_up {e e' p : Int} (h : e ≤ e') (h1 : 0 ≤ p) : part e p ≤ part e' p := by
  unfold part md
  exact Int.ediv_le_ediv (by omega) (Int.mul_le_mul_of_nonneg_right h h1)
theorem slewLen_pos {s : CS} (h : s.ok = true) : 0 ≤ slewLen s := by
  obtain ⟨_, _, _, _, h5, _, h7, _⟩ := CS.ok_iff.1 h
  unfold slewLen
  split
  · omega
  · have hr : 0 < s.rate := by omega
    have : md (min s.left (-s.left)) 1000000000 s.rate < 0 := by
      unfold md
      exact Int.ediv_neg_of_neg_of_pos (by omega) hr
    omega
theorem fast_in {s : CS} (h : s.ok = true) : -1000000 ≤ fast s ∧ fast s ≤ 1000000 := by
  obtain ⟨_, _, _, _, h5, _, h7, _⟩ := CS.ok_iff.1 h
  unfold fast
  split
  · omega
  · split <;> omega
theorem shown_zero {s : CS} (h : s.ok = true) : shown s 0 = s.time := by
  have := slewLen_pos h
  unfold shown
  rw [if_neg (by omega), part_zero]
  omega
theorem shown_mono {s : CS} {e e' : Int} (h : s.ok = true) (he : e ≤ e') : shown s e ≤ shown s e' := by
  have hl := slewLen_pos h
  obtain ⟨f1, _⟩ := fast_in h
  obtain ⟨_, _, _, h4, _⟩ := CS.ok_iff.1 h
  unfold shown
  generalize slewLen s = L at *
  by_cases c1 : L < e
  · have c2 : L < e' := by omega
    rw [if_pos c1, if_pos c2]
    have := part_mono (e := e - L) (e' := e' - L) (p := s.ppb) (by omega) (by omega)
    omega
  · rw [if_neg c1]
    by_cases c2 : L < e'
    · rw [if_pos c2]
      have a := part_mono (e := e) (e' := L) (p := fast s) (by omega) f1
      have b := part_mono (e := 0) (e' := e' - L) (p := s.ppb) (by omega) (by omega)
      rw [part_zero] at b
      omega
    · rw [if_neg c2]
      have := part_mono he f1
      omega
theorem shown_in {s : CS} {e : Int} (h : s.ok = true) (h0 : 0 ≤ e) : s.time ≤ shown s e ∧ shown s e ≤ s.time + 2 * e := by
  constructor
  · have := shown_mono h h0
    rw [shown_zero h] at this
    exact this
  · have hl := slewLen_pos h
    obtain ⟨f1, f2⟩ := fast_in h
    obtain ⟨_, _, _, h4, _⟩ := CS.ok_iff.1 h
    unfold shown
    generalize slewLen s = L at *
    split
    · have a := part_in hl f1 f2
      have b := part_in (e := e - L) (p := s.ppb) (by omega) (by omega) (by omega)
      omega
    · have a := part_in h0 f1 f2
      omega

/-- the part of the slew that is done in e ns -/
def leftAfter (s : CS) (e : Int) : Int := if 0 < s.left then s.left - min s.left (part e s.rate) else s.left + min (-s.left) (part e s.rate)
def moved (s : CS) (raw : Int) : CS := ⟨raw, shown s (raw - s.raw), s.ppb, leftAfter s (raw - s.raw), if leftAfter s (raw - s.raw) = 0 then 0 else s.rate, s.steps⟩
/-- the error of Now -/
def nowE (s : CS) (raw : Int) : Int := if raw < s.raw then 12 else if 4503599627370496 < raw then 3 else if inn (shown s (raw - s.raw)) 4503599627370496 then 0 else 3
def nowT (s : CS) (raw : Int) : Int := if nowE s raw = 0 then shown s (raw - s.raw) else 0
theorem left_in {s : CS} {e : Int} (h : s.ok = true) (h0 : 0 ≤ e) : (0 ≤ s.left → 0 ≤ leftAfter s e ∧ leftAfter s e ≤ s.left) ∧ (s.left ≤ 0 → leftAfter s e ≤ 0 ∧ s.left ≤ leftAfter s e) := by
  obtain ⟨_, _, _, _, h5, _, h7, _⟩ := CS.ok_iff.1 h
  have hp : 0 ≤ part e s.rate := by have := part_up h0 h5; rw [part_zero] at this; exact this
  unfold leftAfter
  split <;> constructor <;> intro _ <;> omega
theorem moved_ok {s : CS} {raw : Int} (h : s.ok = true) (hn : nowE s raw = 0) : (moved s raw).ok = true ∧ s.raw ≤ raw := by
  have h' := h
  obtain ⟨h1, h2, h3, h4, h5, h6, h7, h8⟩ := CS.ok_iff.1 h
  unfold nowE at hn
  by_cases c1 : raw < s.raw
  · rw [if_pos c1] at hn; omega
  · rw [if_neg c1] at hn
    by_cases c2 : 4503599627370496 < raw
    · rw [if_pos c2] at hn; omega
    · rw [if_neg c2] at hn
      cases c3 : inn (shown s (raw - s.raw)) 4503599627370496 with
      | false => rw [c3] at hn; simp at hn
      | true =>
        have c4 := inn_iff.1 c3
        obtain ⟨l1, l2⟩ := left_in h' (e := raw - s.raw) (by omega)
        refine ⟨CS.ok_iff.2 ⟨?_, c4, ?_, h4, ?_, ?_, ?_, h8⟩, by omega⟩
        · show -4503599627370496 ≤ raw ∧ raw ≤ 4503599627370496; omega
        · show -4503599627370496 ≤ leftAfter s (raw - s.raw) ∧ leftAfter s (raw - s.raw) ≤ 4503599627370496; omega
        · show 0 ≤ (if leftAfter s (raw - s.raw) = 0 then 0 else s.rate); split <;> omega
        · show (if leftAfter s (raw - s.raw) = 0 then 0 else s.rate) ≤ 500000; split <;> omega
        · show leftAfter s (raw - s.raw) = 0 ∨ 0 < (if leftAfter s (raw - s.raw) = 0 then 0 else s.rate)
          by_cases c : leftAfter s (raw - s.raw) = 0
          · exact .inl c
          · rw [if_neg c]; omega
end Go.Proofs.Ytcdholgafojjoaa.Pl
