/- Plain law of layer 39: only the last eight delays matter. -/
import Derived.Test.YtmdfbcabpmadgaaP2p8
namespace Go.Proofs.Ytmdfbcabpmadgaa
namespace Pl
theorem sumN_congr {f g : Nat → Int} : ∀ {n : Nat}, (∀ i, i < n → f i = g i) → sumN f n = sumN g n
  | 0, _ => rfl
  | n + 1, h => by rw [sumN, sumN, sumN_congr (fun i hi => h i (by omega)), h n (by omega)]
theorem sumN_upd (f : Nat → Int) (k : Nat) (v : Int) : ∀ n, sumN (fun i => if i = k then v else f i) n = sumN f n + (if k < n then v - f k else 0)
  | 0 => by simp [sumN]
  | n + 1 => by
    rw [sumN, sumN, sumN_upd f k v n]
    by_cases a : n = k
    · subst a
      simp
      omega
    · by_cases b : k < n
      · rw [if_neg a, if_pos b, if_pos (by omega)]; omega
      · rw [if_neg a, if_neg b, if_neg (by omega)]; omega
/-- the states of a run of N exchanges, whose delays are D -/
structure Runs (X : Nat → XS) (D : Nat → Int) (N : Nat) : Prop where
  cnt : ∀ n, n ≤ N → (X n).cnt = n
  step : ∀ n, n < N → ∀ i, (X (n + 1)).dl i = if i = n % 8 then D n else (X n).dl i
  start : ∀ i, (X 0).dl i = 0
theorem Runs.last {X : Nat → XS} {D : Nat → Int} {N : Nat} (h : Runs X D N) : ∀ n, n ≤ N → ∀ m, m < n → n ≤ m + 8 → (X n).dl (m % 8) = D m
  | 0, _, m, hm, _ => by omega
  | n + 1, hn, m, hm, hm8 => by
    rw [h.step n (by omega)]
    by_cases a : m = n
    · subst a
      rw [if_pos rfl]
    · rw [if_neg (by omega)]
      exact h.last n (by omega) m (by omega) (by omega)
theorem Runs.sum {X : Nat → XS} {D : Nat → Int} {N : Nat} (h : Runs X D N) : ∀ n, n ≤ N → sumN (X n).dl (min n 8) = sumN D n - sumN D (n - 8)
  | 0, _ => by simp [sumN]
  | n + 1, hn => by
    have ih := h.sum n (by omega)
    have e : sumN (X (n + 1)).dl (min (n + 1) 8) = sumN (fun i => if i = n % 8 then D n else (X n).dl i) (min (n + 1) 8) := sumN_congr (fun i _ => h.step n (by omega) i)
    rw [e, sumN_upd]
    by_cases a : n < 8
    · have e1 : min (n + 1) 8 = n + 1 := by omega
      have e2 : min n 8 = n := by omega
      have e3 : n % 8 = n := by omega
      have e4 : n - 8 = 0 := by omega
      have e5 : n + 1 - 8 = 0 := by omega
      rw [e2, e4] at ih
      have es : sumN (X n).dl (n + 1) = sumN (X n).dl n + (X n).dl n := rfl
      have ed : sumN D (n + 1) = sumN D n + D n := rfl
      rw [e1, e3, e5, if_pos (by omega), es, ih, ed]
      omega
    · have e1 : min (n + 1) 8 = 8 := by omega
      have e2 : min n 8 = 8 := by omega
      have e3 := h.last n (by omega) (n - 8) (by omega) (by omega)
      have e4 : (n - 8) % 8 = n % 8 := by omega
      have e5 : n + 1 - 8 = (n - 8) + 1 := by omega
      rw [e2] at ih
      rw [e4] at e3
      have ed : sumN D (n + 1) = sumN D n + D n := rfl
      have e6 : sumN D (n - 8 + 1) = sumN D (n - 8) + D (n - 8) := rfl
      rw [e1, if_pos (by omega), ih, e3, e5, ed, e6]
      omega
theorem Runs.del {X : Nat → XS} {D : Nat → Int} {N : Nat} (h : Runs X D N) (n : Nat) (hn : n < N) : delN (X (n + 1)) = (sumN D (n + 1) - sumN D (n - 7)) / ((min (n + 1) 8 : Nat) : Int) ∧ delB (X (n + 1)) = true := by
  have hc := h.cnt (n + 1) (by omega)
  have hs := h.sum (n + 1) (by omega)
  have e : nD (X (n + 1)) = min (n + 1) 8 := by unfold nD; rw [hc]; omega
  constructor
  · unfold delN
    rw [if_neg (by rw [hc]; omega), e, hs, show n + 1 - 8 = n - 7 by omega]
  · unfold delB
    rw [hc]
    simp
    omega
/-- the law that forgets: when its exchange n begins, and the state ahead of it -/
def fT (z : Nat → Int) : Nat → Int
  | 0 => 0
  | n + 1 => fT z n + 2 * z n + 1
def fX (z : Nat → Int) : Nat → XS
  | 0 => xs0 0
  | n + 1 => (fX z n).one n (fT z n) (fT z n + z n) (fT z n + z n) (fT z n + 2 * z n) 0
section
variable {z : Nat → Int} {N : Nat} (hz : ∀ i, i < N → 0 ≤ z i ∧ z i ≤ 4294967295) (hN : N ≤ 40)
include hz hN
theorem fT_in : ∀ n, n ≤ N → 0 ≤ fT z n ∧ fT z n ≤ n * 8589934591
  | 0, _ => by simp [fT]
  | n + 1, hn => by
    have := fT_in n (by omega)
    have := hz n (by omega)
    rw [fT, Int.natCast_succ]
    omega
theorem f_rdg {n : Nat} (hn : n < N) : rdg (fT z n) = true ∧ rdg (fT z n + z n) = true ∧ rdg (fT z n + 2 * z n) = true := by
  have := fT_in hz hN n (by omega)
  have := hz n hn
  refine ⟨rdg_iff.2 ?_, rdg_iff.2 ?_, rdg_iff.2 ?_⟩ <;> omega
theorem fX_all : ∀ n, n ≤ N → XOk (fX z n) ∧ (fX z n).dom = 0 ∧ (fX z n).cnt = n
  | 0, _ => ⟨xs0_ok 0, rfl, rfl⟩
  | n + 1, hn => by
    obtain ⟨h1, h2, h3⟩ := fX_all n (by omega)
    obtain ⟨r1, r2, r3⟩ := f_rdg hz hN (n := n) (by omega)
    refine ⟨one_ok h1 (by rw [h3]; omega) r1 r3 (by omega), h2, ?_⟩
    show (fX z n).cnt + 1 = _
    rw [h3]
    omega
theorem fX_runs : Runs (fX z) z N := by
  refine ⟨fun n hn => (fX_all hz hN n hn).2.2, fun n hn i => ?_, fun i => rfl⟩
  obtain ⟨r1, r2, r3⟩ := f_rdg hz hN hn
  have h3 := (fX_all hz hN n (by omega)).2.2
  have e : slot (fX z n) = n % 8 := by unfold slot; rw [h3]; omega
  have hd := one_dl (x := fX z n) (seq := n) (t1 := fT z n) (t4 := fT z n + 2 * z n) (c := 0) r2 r2 (by omega) i
  rw [e] at hd
  refine hd.trans ?_
  have := hz n hn
  rw [show max 0 (((fT z n + 2 * z n - fT z n) - (fT z n + z n - (fT z n + z n)) - 0 / 65536) / 2) = z n by omega]
end
/-- the law that measures: when its exchange n begins, when its answers are sent, and the state ahead of it -/
def mT (z : Nat → Nat → Int) : Nat → Int
  | 0 => 0
  | n + 1 => mT z n + z n 0 + 1 + z n 1 + z n 3 + z n 2
def m1 (z : Nat → Nat → Int) (n : Nat) : Int := mT z n + z n 0 + 1
def m2 (z : Nat → Nat → Int) (n : Nat) : Int := m1 z n + z n 1
def m3 (z : Nat → Nat → Int) (n : Nat) : Int := m2 z n + z n 3
def mX (d : Int) (z : Nat → Nat → Int) : Nat → XS
  | 0 => xs0 0
  | n + 1 => (mX d z n).one n (m1 z n) (m2 z n + d) (m3 z n + d) (mT z (n + 1)) 0
def mD (z : Nat → Nat → Int) (n : Nat) : Int := (z n 1 + z n 2) / 2
theorem mT_succ (z : Nat → Nat → Int) (n : Nat) : mT z (n + 1) = m3 z n + z n 2 := by unfold m3 m2 m1; rw [mT]
section
variable {d : Int} {z : Nat → Nat → Int} {N : Nat} (hd : -2147483648 ≤ d ∧ d ≤ 2147483647) (hz : ∀ i, i < N → ∀ j, j < 4 → 0 ≤ z i j ∧ z i j ≤ 4294967295) (hN : N ≤ 8)
include hz hN
theorem mT_in : ∀ n, n ≤ N → 0 ≤ mT z n ∧ mT z n ≤ n * 17179869181
  | 0, _ => by simp [mT]
  | n + 1, hn => by
    have := mT_in n (by omega)
    have a0 := hz n (by omega) 0 (by omega)
    have a1 := hz n (by omega) 1 (by omega)
    have a2 := hz n (by omega) 2 (by omega)
    have a3 := hz n (by omega) 3 (by omega)
    rw [mT, Int.natCast_succ]
    omega
theorem m_in {n : Nat} (hn : n < N) : (0 ≤ mT z n ∧ mT z n ≤ 137438953448) ∧ (0 ≤ m1 z n ∧ m1 z n ≤ 137438953448) ∧ (0 ≤ m2 z n ∧ m2 z n ≤ 137438953448) ∧ (0 ≤ m3 z n ∧ m3 z n ≤ 137438953448) ∧ (0 ≤ mT z (n + 1) ∧ mT z (n + 1) ≤ 137438953448) := by
  have h0 := mT_in hz hN n (by omega)
  have h1 := mT_in hz hN (n + 1) (by omega)
  have a0 := hz n hn 0 (by omega)
  have a1 := hz n hn 1 (by omega)
  have a2 := hz n hn 2 (by omega)
  have a3 := hz n hn 3 (by omega)
  have e := mT_succ z n
  have hn8 : (n : Int) + 1 ≤ 8 := by omega
  rw [Int.natCast_succ] at h1
  unfold m3 m2 m1 at *
  omega
include hd
theorem m_rdg {n : Nat} (hn : n < N) : rdg (m1 z n) = true ∧ rdg (m2 z n + d) = true ∧ rdg (m3 z n + d) = true ∧ rdg (mT z (n + 1)) = true := by
  have := m_in hz hN hn
  refine ⟨rdg_iff.2 ?_, rdg_iff.2 ?_, rdg_iff.2 ?_, rdg_iff.2 ?_⟩ <;> omega
theorem mX_all : ∀ n, n ≤ N → XOk (mX d z n) ∧ (mX d z n).dom = 0 ∧ (mX d z n).cnt = n
  | 0, _ => ⟨xs0_ok 0, rfl, rfl⟩
  | n + 1, hn => by
    obtain ⟨h1, h2, h3⟩ := mX_all n (by omega)
    obtain ⟨r1, r2, r3, r4⟩ := m_rdg hd hz hN (n := n) (by omega)
    refine ⟨one_ok h1 (by rw [h3]; omega) r1 r4 (by omega), h2, ?_⟩
    show (mX d z n).cnt + 1 = _
    rw [h3]
    omega
theorem mX_runs : Runs (mX d z) (mD z) N := by
  refine ⟨fun n hn => (mX_all hd hz hN n hn).2.2, fun n hn i => ?_, fun i => rfl⟩
  obtain ⟨r1, r2, r3, r4⟩ := m_rdg hd hz hN hn
  have h3 := (mX_all hd hz hN n (by omega)).2.2
  have e : slot (mX d z n) = n % 8 := by unfold slot; rw [h3]; omega
  have hh := one_dl (x := mX d z n) (seq := n) (t1 := m1 z n) (t4 := mT z (n + 1)) (c := 0) r2 r3 (by omega) i
  rw [e] at hh
  refine hh.trans ?_
  have a1 := hz n hn 1 (by omega)
  have a2 := hz n hn 2 (by omega)
  have e : max 0 ((mT z (n + 1) - m1 z n - (m3 z n + d - (m2 z n + d)) - 0 / 65536) / 2) = mD z n := by
    rw [mT_succ]
    unfold m3 m2 mD
    omega
  rw [e]
theorem m_del {n : Nat} (hn : n < N) : delN (mX d z (n + 1)) = sumN (mD z) (n + 1) / ((n : Int) + 1) ∧ delB (mX d z (n + 1)) = true := by
  obtain ⟨h1, h2⟩ := (mX_runs hd hz hN).del n hn
  refine ⟨h1.trans ?_, h2⟩
  have e1 : n - 7 = 0 := by omega
  have e2 : min (n + 1) 8 = n + 1 := by omega
  rw [e1, e2, sumN.eq_1, Int.natCast_succ, Int.sub_zero]
theorem m_ends : ∀ n, n < N → (mX d z (n + 1)).f1 = m3 z 0 + d ∧ (mX d z (n + 1)).f2 = mT z 1 ∧ (mX d z (n + 1)).l1 = m3 z n + d ∧ (mX d z (n + 1)).l2 = mT z (n + 1)
  | 0, hn => by
    obtain ⟨r1, r2, r3, r4⟩ := m_rdg hd hz hN hn
    refine ⟨(one_f1 r3).trans (if_pos rfl), one_f2.trans (if_pos rfl), one_l1 r3, one_l2⟩
  | n + 1, hn => by
    obtain ⟨r1, r2, r3, r4⟩ := m_rdg hd hz hN hn
    obtain ⟨h1, h2, _, _⟩ := m_ends n (by omega)
    have h3 := (mX_all hd hz hN (n + 1) (by omega)).2.2
    have h0 : ¬ (mX d z (n + 1)).cnt = 0 := by rw [h3]; omega
    exact ⟨(one_f1 r3).trans ((if_neg h0).trans h1), one_f2.trans ((if_neg h0).trans h2), one_l1 r3, one_l2⟩
omit hd hN in
theorem m_mono : ∀ n, n < N → mT z 1 ≤ mT z (n + 1) ∧ (n ≠ 0 → mT z 1 < mT z (n + 1))
  | 0, _ => ⟨Int.le_refl _, fun h => absurd rfl h⟩
  | n + 1, hn => by
    have := (m_mono n (by omega)).1
    have a0 := hz (n + 1) hn 0 (by omega)
    have a1 := hz (n + 1) hn 1 (by omega)
    have a2 := hz (n + 1) hn 2 (by omega)
    have a3 := hz (n + 1) hn 3 (by omega)
    have : mT z (n + 1 + 1) = mT z (n + 1) + z (n + 1) 0 + 1 + z (n + 1) 1 + z (n + 1) 3 + z (n + 1) 2 := rfl
    exact ⟨by omega, fun _ => by omega⟩
theorem m_rat {n : Nat} (hn : n < N) : ratB (mX d z (n + 1)) = decide (0 < (n : Int)) ∧ (z n 2 = z 0 2 → ratN (mX d z (n + 1)) = 0) := by
  obtain ⟨h1, h2, h3, h4⟩ := m_ends hd hz hN n hn
  have hc := (mX_all hd hz hN (n + 1) (by omega)).2.2
  have hm := m_mono hz n hn
  have hb : ratB (mX d z (n + 1)) = decide (0 < (n : Int)) := by
    unfold ratB
    rw [hc, h4, h2]
    by_cases q : n = 0
    · subst q
      have e2 : decide (0 < mT z (0 + 1) - mT z 1) = false := by simp
      rw [e2, Bool.and_false]
      rfl
    · have := hm.2 q
      have e1 : decide (2 ≤ ((n + 1 : Nat) : Int)) = true := by simp; omega
      have e2 : decide (0 < mT z (n + 1) - mT z 1) = true := by simp; omega
      have e3 : decide (0 < (n : Int)) = true := by simp; omega
      rw [e1, e2, e3]
      rfl
  refine ⟨hb, fun hs => ?_⟩
  unfold ratN
  rw [hb]
  by_cases q : 0 < (n : Int)
  · rw [if_pos (by simpa using q)]
    unfold ratM
    have e : m3 z n + d - (m3 z 0 + d) - (mT z (n + 1) - mT z 1) = 0 := by
      rw [mT_succ, mT_succ, hs]
      omega
    rw [h1, h2, h3, h4, e]
    unfold md
    simp
    decide
  · rw [if_neg (by simpa using q)]
end
end Pl
end Go.Proofs.Ytmdfbcabpmadgaa
