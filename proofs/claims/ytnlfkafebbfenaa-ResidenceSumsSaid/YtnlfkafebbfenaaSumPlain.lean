/- Plain law of ResidenceSums: the correction by a path is the sum of the corrections by its elements, in whatever order. -/
import Derived.Test.YtnlfkafebbfenaaResPath
namespace Go.Proofs.Ytnlfkafebbfenaa
namespace Pl
def sumN (f : Nat → Int) : Nat → Int
  | 0 => 0
  | n + 1 => sumN f n + f n
def sumF (f : Nat → Int) : Nat → Nat → Int
  | _, 0 => 0
  | s, k + 1 => f s + sumF f (s + 1) k
theorem sumF_eq (f : Nat → Int) : ∀ k s, sumF f s k = sumN f (s + k) - sumN f s
  | 0, s => by simp [sumF]
  | k + 1, s => by
    rw [sumF, sumF_eq f k (s + 1), show s + 1 + k = s + (k + 1) by omega]
    have : sumN f (s + 1) = sumN f s + f s := rfl
    omega
theorem sumN_rev (f : Nat → Int) (n : Nat) : ∀ k, k ≤ n → sumN (fun i => f (n - 1 - i)) k = sumN f n - sumN f (n - k)
  | 0, _ => by simp [sumN]
  | k + 1, hk => by
    rw [sumN, sumN_rev f n k (by omega)]
    have e : n - k = (n - (k + 1)) + 1 := by omega
    have : sumN f (n - k) = sumN f (n - (k + 1)) + f (n - (k + 1)) := by rw [e]; rfl
    have e2 : n - 1 - k = n - (k + 1) := by omega
    rw [e2]
    omega
/-- what an element of the path adds, in ns -/
def stp (z : Nat → Nat → Int) (i : Nat) : Int := stayN (z i 0) (z i 1) (z i 2) + z i 3
/-- an element within the law's limits -/
def Good (z : Nat → Nat → Int) (i : Nat) : Prop := (-2147483648 ≤ z i 0 ∧ z i 0 ≤ 2147483647) ∧ (z i 0 ≤ z i 1 ∧ z i 1 ≤ z i 0 + 4294967295) ∧ (-500000 ≤ z i 2 ∧ z i 2 ≤ 500000) ∧ (0 ≤ z i 3 ∧ z i 3 ≤ 4294967295)
theorem Good.stay {z : Nat → Nat → Int} {i : Nat} (h : Good z i) : stayE (z i 0) (z i 1) (z i 2) = 0 := by
  obtain ⟨h0, h1, h2, h3⟩ := h
  unfold stayE
  rw [if_pos (by simp [inr]; omega), if_neg (by omega)]
theorem Good.stayN_in {z : Nat → Nat → Int} {i : Nat} (h : Good z i) : 0 ≤ stayN (z i 0) (z i 1) (z i 2) ∧ stayN (z i 0) (z i 1) (z i 2) ≤ 8589934590 := by
  have he := h.stay
  obtain ⟨h0, h1, h2, h3⟩ := h
  unfold stayN
  rw [if_pos he]
  unfold md
  refine ⟨Int.ediv_nonneg (by omega) (by omega), ?_⟩
  have : (z i 1 - z i 0) * 1000000000 / (1000000000 + z i 2) < 8589934591 := by
    rw [Int.ediv_lt_iff_lt_mul (by omega)]
    have := Int.mul_le_mul_of_nonneg_left (show 999500000 ≤ 1000000000 + z i 2 by omega) (show (0 : Int) ≤ 8589934591 by omega)
    omega
  omega
theorem Good.stp_in {z : Nat → Nat → Int} {i : Nat} (h : Good z i) : 0 ≤ stp z i ∧ stp z i ≤ 12884901885 := by
  have := h.stayN_in
  have := h.2.2.2
  unfold stp
  omega
theorem sumN_in {z : Nat → Nat → Int} : ∀ n, (∀ i, i < n → Good z i) → 0 ≤ sumN (stp z) n ∧ sumN (stp z) n ≤ n * 12884901885
  | 0, _ => by simp [sumN]
  | n + 1, h => by
    have := sumN_in n (fun i hi => h i (by omega))
    have := (h n (by omega)).stp_in
    rw [sumN]
    omega
theorem add_ok {p : PM} {s l : Int} (hc : chk p = 0) (hk : p.k ≠ 11) (hs : 0 ≤ s ∧ s ≤ 8589934590) (hl : 0 ≤ l ∧ l ≤ 4294967295) (h1 : -4611686018427387904 ≤ p.co) (h2 : p.co ≤ 4611686018427387904) : addE p s l = 0 ∧ addP p s l = p.wco (p.co + (s + l) * 65536) := by
  have h : addE p s l = 0 := by
    unfold addE
    rw [if_pos hc, if_neg hk, if_pos (by simp [inr]; omega), if_pos]
    unfold corOk
    rw [fit_yes (by omega) (by omega), fit_yes (by omega) (by omega)]
    rfl
  refine ⟨h, ?_⟩
  unfold addP
  rw [if_pos h]
theorem pthR_ok {z : Nat → Nat → Int} : ∀ (k s : Nat) (p : PM), (∀ i, s ≤ i → i < s + k → Good z i) → chk p = 0 → p.k ≠ 11 → -4611686018427387904 ≤ p.co → p.co + (k : Int) * 844424930131968 ≤ 4611686018427387904 → pthR z k s p = (p.wco (p.co + 65536 * sumF (stp z) s k), 0)
  | 0, s, p, _, _, _, _, _ => by
    rw [pthR, sumF, Int.mul_zero, Int.add_zero]
    cases p
    rfl
  | k + 1, s, p, hg, hc, hk, h1, h2 => by
    have g := hg s (Nat.le_refl _) (by omega)
    obtain ⟨e1, e2⟩ := add_ok (p := p) (s := stayN (z s 0) (z s 1) (z s 2)) (l := z s 3) hc hk g.stayN_in g.2.2.2 h1 (by omega)
    have hi := g.stayN_in
    have hl := g.2.2.2
    rw [pthR, if_pos g.stay, if_pos e1, e2]
    rw [pthR_ok k (s + 1) (p.wco (p.co + (stayN (z s 0) (z s 1) (z s 2) + z s 3) * 65536)) (fun i h3 h4 => hg i (by omega) (by omega)) ((chk_wco p _).trans hc) hk (by show -4611686018427387904 ≤ p.co + (stayN (z s 0) (z s 1) (z s 2) + z s 3) * 65536; omega) (by show p.co + (stayN (z s 0) (z s 1) (z s 2) + z s 3) * 65536 + (k : Int) * 844424930131968 ≤ 4611686018427387904; omega)]
    have e : (p.wco (p.co + (stayN (z s 0) (z s 1) (z s 2) + z s 3) * 65536)).co = p.co + (stayN (z s 0) (z s 1) (z s 2) + z s 3) * 65536 := rfl
    have e3 : sumF (stp z) s (k + 1) = stp z s + sumF (stp z) (s + 1) k := rfl
    have e4 : stp z s = stayN (z s 0) (z s 1) (z s 2) + z s 3 := rfl
    rw [e, e3, e4]
    refine Prod.ext ?_ rfl
    show PM.wco p _ = PM.wco p _
    congr 1
    omega
theorem pthR_bad {z : Nat → Nat → Int} {k s : Nat} {p : PM} (hg : Good z s) (h : chk p ≠ 0 ∨ p.k = 11) : pthR z (k + 1) s p = (pm0, if chk p = 0 then 8 else 2) := by
  rw [pthR, if_pos hg.stay]
  by_cases hc : chk p = 0
  · have hk : p.k = 11 := by rcases h with h | h; exact absurd hc h; exact h
    have e : addE p (stayN (z s 0) (z s 1) (z s 2)) (z s 3) = 8 := by unfold addE; rw [if_pos hc, if_pos hk]
    rw [if_neg (by rw [e]; omega), e, if_pos hc]
  · have e : addE p (stayN (z s 0) (z s 1) (z s 2)) (z s 3) = 2 := by unfold addE; rw [if_neg hc]
    rw [if_neg (by rw [e]; omega), e, if_neg hc]
/-- THE PLAIN LAW -/
theorem sums {z : Nat → Nat → Int} {n : Nat} {p : PM} (hn : n ≤ 100) (hg : ∀ i, i < n → Good z i) (h1 : -1125899906842624 < p.co) (h2 : p.co < 1125899906842624) :
    (0 < n ∧ (chk p ≠ 0 ∨ p.k = 11) ∧ ∃ e, (e = 2 ∨ e = 8) ∧ pthR z n 0 p = (pm0, e) ∧ pthR (fun i j => z (n - 1 - i) j) n 0 p = (pm0, e)) ∨
    (pthR z n 0 p = (p.wco (p.co + 65536 * sumN (stp z) n), 0) ∧ pthR (fun i j => z (n - 1 - i) j) n 0 p = (p.wco (p.co + 65536 * sumN (stp z) n), 0)) := by
  have hg2 : ∀ i, i < n → Good (fun i j => z (n - 1 - i) j) i := fun i hi => hg (n - 1 - i) (by omega)
  by_cases h0 : n = 0
  · subst h0
    right
    have : p.wco (p.co + 65536 * sumN (stp z) 0) = p := by
      show p.wco (p.co + 65536 * 0) = p
      rw [Int.mul_zero, Int.add_zero]
      cases p
      rfl
    rw [this]
    exact ⟨rfl, rfl⟩
  · by_cases hb : chk p ≠ 0 ∨ p.k = 11
    · left
      refine ⟨by omega, hb, if chk p = 0 then 8 else 2, by split <;> omega, ?_, ?_⟩
      · have := pthR_bad (k := n - 1) (hg 0 (by omega)) hb
        rwa [show n - 1 + 1 = n by omega] at this
      · have := pthR_bad (k := n - 1) (hg2 0 (by omega)) hb
        rwa [show n - 1 + 1 = n by omega] at this
    · right
      have hc : chk p = 0 := by
        by_cases q : chk p = 0
        · exact q
        · exact absurd (Or.inl q) hb
      have hk : p.k ≠ 11 := fun q => hb (Or.inr q)
      have r : sumN (stp (fun i j => z (n - 1 - i) j)) n = sumN (stp z) n := by
        have := sumN_rev (stp z) n n (Nat.le_refl _)
        rw [Nat.sub_self] at this
        have e : (fun i => stp z (n - 1 - i)) = stp (fun i j => z (n - 1 - i) j) := rfl
        rw [← e, this]
        simp [sumN]
      constructor
      · rw [pthR_ok n 0 p (fun i _ hi => hg i (by omega)) hc hk (by omega) (by omega), sumF_eq, Nat.zero_add]
        simp [sumN]
      · rw [pthR_ok n 0 p (fun i _ hi => hg2 i (by omega)) hc hk (by omega) (by omega), sumF_eq, Nat.zero_add, r]
        simp [sumN]
end Pl
end Go.Proofs.Ytnlfkafebbfenaa
