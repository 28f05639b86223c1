/- What the functions of layer 13 compute, as integers. No program in sight. -/
import Derived.Test.YtdjfbghdnkjdoaaDoorPlainMd
namespace Go.Proofs.YtdjfbghdnkjdoaaDoor.Pl

structure LC where
  lo : Int
  hi : Int
  sa : Int
  so : Int
  lim : Int
structure LS where
  st : Int
  f : Int
  p : Int
  kn : Bool
  at_ : Int
  po : Int
  sp : Int
/-- what an update returns: kind, value, error -/
structure LR where
  k : Int
  v : Int
  e : Int

def inr (n lo hi : Int) : Bool := decide (lo ≤ n) && decide (n ≤ hi)
theorem inr_iff {n lo hi : Int} : inr n lo hi = true ↔ lo ≤ n ∧ n ≤ hi := by simp [inr]
def LC.rng (c : LC) : Bool := inr c.lo 3 17 && inr c.hi 3 17 && inr c.sa 1 1125899906842624 && inr c.so 1 100000 && inr c.lim 1 500000
def LC.err (c : LC) : Int := if c.rng = true then (if c.hi < c.lo then 12 else 0) else 3
theorem LC.rng_iff {c : LC} : c.rng = true ↔ (3 ≤ c.lo ∧ c.lo ≤ 17) ∧ (3 ≤ c.hi ∧ c.hi ≤ 17) ∧ (1 ≤ c.sa ∧ c.sa ≤ 1125899906842624) ∧ (1 ≤ c.so ∧ c.so ≤ 100000) ∧ (1 ≤ c.lim ∧ c.lim ≤ 500000) := by
  simp [LC.rng, inr_iff, and_assoc]
theorem LC.ok {c : LC} (h : c.err = 0) : (3 ≤ c.lo ∧ c.lo ≤ 17) ∧ (3 ≤ c.hi ∧ c.hi ≤ 17) ∧ (1 ≤ c.sa ∧ c.sa ≤ 1125899906842624) ∧ (1 ≤ c.so ∧ c.so ≤ 100000) ∧ (1 ≤ c.lim ∧ c.lim ≤ 500000) ∧ c.lo ≤ c.hi := by
  unfold LC.err at h
  split at h
  · rename_i r
    have := LC.rng_iff.1 r
    split at h
    · omega
    · omega
  · omega

def clampL (n lo hi : Int) : Int := max lo (min n hi)
def adj (c : LC) (f n : Int) : Int := clampL (f + n) (-c.lim) c.lim
theorem adj_in {c : LC} (h : 1 ≤ c.lim) (f n : Int) : -c.lim ≤ adj c f n ∧ adj c f n ≤ c.lim := by unfold adj clampL; omega
def pw (po : Int) : Int := 2 ^ po.toNat
def pull (p o mu po : Int) : Int := md o (min mu (pw po)) (16 * pw po * pw po) + (if 11 ≤ po then (o - p) / (4 * max mu 2048) else 0)

/-- is an offset large? -/
def big (c : LC) (o : Int) : Bool := decide (c.sa ≤ max o (-o))
def mu (s : LS) (t : Int) : Int := if s.kn = true then t - s.at_ else 0
def lgS (c : LC) (s : LS) (t o m : Int) : LS :=
  if s.st = 0 then ⟨1, s.f, 0, s.kn, s.at_, s.po, 0⟩
  else if s.st = 1 then ⟨3, adj c s.f (o / m), 0, s.kn, s.at_, s.po, 0⟩
  else if s.st = 3 then ⟨2, s.f, s.p, s.kn, s.at_, s.po, t⟩
  else if t - s.sp < c.so then s else ⟨3, s.f, 0, s.kn, s.at_, s.po, 0⟩
def lgK (c : LC) (s : LS) (t : Int) : Int := if s.st = 0 then 2 else if s.st = 1 then 2 else if s.st = 3 then 0 else if t - s.sp < c.so then 0 else 2
def smS (c : LC) (s : LS) (o m po : Int) : LS :=
  if s.st = 0 then ⟨1, s.f, o, s.kn, s.at_, s.po, s.sp⟩
  else if s.st = 1 then ⟨3, adj c s.f (o / m), o, s.kn, s.at_, s.po, s.sp⟩
  else ⟨3, adj c s.f (pull s.p o m po), o, s.kn, s.at_, s.po, if s.st = 2 then 0 else s.sp⟩
def LS.upd (s : LS) (t po : Int) : LS := ⟨s.st, s.f, s.p, true, t, po, s.sp⟩
def argsOkL (c : LC) (t o po : Int) : Bool := inr t 0 1073741824 && inr o (-1125899906842624) 1125899906842624 && inr po c.lo c.hi
def upE (c : LC) (s : LS) (t o po : Int) : Int := if argsOkL c t o po = true then (if s.kn = true ∧ t ≤ s.at_ then 12 else 0) else 3
/-- is an update ignored, for the frequency is still being measured? -/
def waits (c : LC) (s : LS) (t : Int) : Bool := decide (s.st = 1) && decide (mu s t < c.so)
def upS (c : LC) (s : LS) (t o po : Int) : LS :=
  if upE c s t o po = 0 then (if waits c s t = true then s else if big c o = true then (lgS c s t o (mu s t)).upd t po else (smS c s o (mu s t) po).upd t po) else s
def upR (c : LC) (s : LS) (t o po : Int) : LR :=
  if upE c s t o po = 0 then (if waits c s t = true then ⟨0, 0, 0⟩ else if big c o = true then ⟨lgK c s t, if lgK c s t = 0 then 0 else o, 0⟩ else ⟨1, (smS c s o (mu s t) po).f, 0⟩) else ⟨0, 0, upE c s t o po⟩

/-- what a loop keeps -/
def LInv (c : LC) (s : LS) : Prop :=
  (s.st = 0 ∨ s.st = 1 ∨ s.st = 2 ∨ s.st = 3) ∧ (-c.lim ≤ s.f ∧ s.f ≤ c.lim) ∧ (-c.sa < s.p ∧ s.p < c.sa) ∧ (s.kn = false → s.st = 0) ∧ (s.kn = true → s.st ≠ 0 ∧ 0 ≤ s.at_ ∧ s.at_ ≤ 1073741824 ∧ c.lo ≤ s.po ∧ s.po ≤ c.hi) ∧ (0 ≤ s.sp ∧ s.sp ≤ 1073741824)
theorem linv0 {c : LC} (h : c.err = 0) : LInv c ⟨0, 0, 0, false, 0, 0, 0⟩ := by
  have := LC.ok h
  refine ⟨.inl rfl, ⟨?_, ?_⟩, ⟨?_, ?_⟩, fun _ => rfl, fun e => (by cases e), ⟨?_, ?_⟩⟩ <;> simp only <;> omega
theorem big_iff {c : LC} {o : Int} : big c o = true ↔ c.sa ≤ o ∨ o ≤ -c.sa := by simp [big]; omega
theorem big_no {c : LC} {o : Int} : big c o = false ↔ -c.sa < o ∧ o < c.sa := by simp [big]; omega
theorem args_iff {c : LC} {t o po : Int} : argsOkL c t o po = true ↔ (0 ≤ t ∧ t ≤ 1073741824) ∧ (-1125899906842624 ≤ o ∧ o ≤ 1125899906842624) ∧ (c.lo ≤ po ∧ po ≤ c.hi) := by simp [argsOkL, inr_iff, and_assoc]
theorem upE_zero {c : LC} {s : LS} {t o po : Int} (h : upE c s t o po = 0) : argsOkL c t o po = true ∧ (s.kn = true → s.at_ < t) := by
  unfold upE at h
  split at h
  · split at h
    · omega
    · rename_i a b
      exact ⟨a, fun k => by
        rcases Int.lt_or_le s.at_ t with q | q
        · exact q
        · exact absurd ⟨k, q⟩ b⟩
  · omega
theorem mu_in {c : LC} {s : LS} {t o po : Int} (hi : LInv c s) (h : upE c s t o po = 0) : 0 ≤ mu s t ∧ mu s t ≤ 1073741824 ∧ (s.kn = true → 1 ≤ mu s t) := by
  obtain ⟨a, b⟩ := upE_zero h
  have := args_iff.1 a
  unfold mu
  cases hk : s.kn with
  | true =>
    have := b hk
    have := hi.2.2.2.2.1 hk
    simp only [if_true]
    exact ⟨by omega, by omega, fun _ => by omega⟩
  | false => simp
theorem linv_up {c : LC} {s : LS} {t o po : Int} (hc : c.err = 0) (hi : LInv c s) : LInv c (upS c s t o po) := by
  have hok := LC.ok hc
  unfold upS
  split
  · rename_i he
    obtain ⟨a, b⟩ := upE_zero he
    have ha := args_iff.1 a
    split
    · exact hi
    · obtain ⟨i1, i2, i3, i4, i5, i6⟩ := hi
      cases hb : big c o with
      | true =>
        simp only [if_true]
        unfold lgS
        split
        · exact ⟨.inr (.inl rfl), i2, ⟨by show -c.sa < 0; omega, by show 0 < c.sa; omega⟩, fun e => (by cases e), fun _ => ⟨by show (1 : Int) ≠ 0; omega, ha.1.1, ha.1.2, ha.2.2.1, ha.2.2.2⟩, ⟨by show (0 : Int) ≤ 0; omega, by show (0 : Int) ≤ 1073741824; omega⟩⟩
        · split
          · exact ⟨.inr (.inr (.inr rfl)), adj_in (by omega) _ _, ⟨by show -c.sa < 0; omega, by show 0 < c.sa; omega⟩, fun e => (by cases e), fun _ => ⟨by show (3 : Int) ≠ 0; omega, ha.1.1, ha.1.2, ha.2.2.1, ha.2.2.2⟩, ⟨by show (0 : Int) ≤ 0; omega, by show (0 : Int) ≤ 1073741824; omega⟩⟩
          · split
            · exact ⟨.inr (.inr (.inl rfl)), i2, i3, fun e => (by cases e), fun _ => ⟨by show (2 : Int) ≠ 0; omega, ha.1.1, ha.1.2, ha.2.2.1, ha.2.2.2⟩, ha.1⟩
            · split
              · rename_i n0 n1 n3 n4
                exact ⟨i1, i2, i3, fun e => (by cases e), fun _ => ⟨n0, ha.1.1, ha.1.2, ha.2.2.1, ha.2.2.2⟩, i6⟩
              · exact ⟨.inr (.inr (.inr rfl)), i2, ⟨by show -c.sa < 0; omega, by show 0 < c.sa; omega⟩, fun e => (by cases e), fun _ => ⟨by show (3 : Int) ≠ 0; omega, ha.1.1, ha.1.2, ha.2.2.1, ha.2.2.2⟩, ⟨by show (0 : Int) ≤ 0; omega, by show (0 : Int) ≤ 1073741824; omega⟩⟩
      | false =>
        simp only [Bool.false_eq_true, if_false]
        have hs := big_no.1 hb
        unfold smS
        split
        · exact ⟨.inr (.inl rfl), i2, hs, fun e => (by cases e), fun _ => ⟨by show (1 : Int) ≠ 0; omega, ha.1.1, ha.1.2, ha.2.2.1, ha.2.2.2⟩, i6⟩
        · split
          · exact ⟨.inr (.inr (.inr rfl)), adj_in (by omega) _ _, hs, fun e => (by cases e), fun _ => ⟨by show (3 : Int) ≠ 0; omega, ha.1.1, ha.1.2, ha.2.2.1, ha.2.2.2⟩, i6⟩
          · refine ⟨.inr (.inr (.inr rfl)), adj_in (by omega) _ _, hs, fun e => (by cases e), fun _ => ⟨by show (3 : Int) ≠ 0; omega, ha.1.1, ha.1.2, ha.2.2.1, ha.2.2.2⟩, ?_⟩
            show 0 ≤ (if s.st = 2 then 0 else s.sp) ∧ (if s.st = 2 then 0 else s.sp) ≤ 1073741824
            split <;> omega
  · exact hi

/-- a tick: what it takes off the phase -/
def tk (c : LC) (s : LS) : Int := s.p.tdiv (16 * pw (if s.kn = true then s.po else c.lo))
def tkS (c : LC) (s : LS) : LS := ⟨s.st, s.f, s.p - tk c s, s.kn, s.at_, s.po, s.sp⟩
theorem pw_in {po : Int} (h : 3 ≤ po) (h2 : po ≤ 17) : 8 ≤ pw po ∧ pw po ≤ 131072 := by
  rcases (by omega : po = 3 ∨ po = 4 ∨ po = 5 ∨ po = 6 ∨ po = 7 ∨ po = 8 ∨ po = 9 ∨ po = 10 ∨ po = 11 ∨ po = 12 ∨ po = 13 ∨ po = 14 ∨ po = 15 ∨ po = 16 ∨ po = 17) with rfl | rfl | rfl | rfl | rfl | rfl | rfl | rfl | rfl | rfl | rfl | rfl | rfl | rfl | rfl <;> decide
theorem tdiv_le (p d : Int) (hd : 0 < d) : (0 ≤ p → 0 ≤ p.tdiv d ∧ p.tdiv d ≤ p) ∧ (p ≤ 0 → p ≤ p.tdiv d ∧ p.tdiv d ≤ 0) := by
  constructor
  · intro h
    rw [Int.tdiv_eq_ediv_of_nonneg h]
    exact ⟨Int.ediv_nonneg h (by omega), Int.ediv_le_self d h⟩
  · intro h
    obtain ⟨q, rfl⟩ : ∃ q, p = -q := ⟨-p, by omega⟩
    rw [Int.neg_tdiv, Int.tdiv_eq_ediv_of_nonneg (by omega)]
    have := Int.ediv_nonneg (show 0 ≤ q by omega) (show 0 ≤ d by omega)
    have := Int.ediv_le_self d (show 0 ≤ q by omega)
    omega
theorem linv_tick {c : LC} {s : LS} (hc : c.err = 0) (hi : LInv c s) : LInv c (tkS c s) := by
  have hok := LC.ok hc
  obtain ⟨i1, i2, i3, i4, i5, i6⟩ := hi
  have hd : 0 < 16 * pw (if s.kn = true then s.po else c.lo) := by
    have : 8 ≤ pw (if s.kn = true then s.po else c.lo) := by
      split
      · rename_i k; have := i5 k; exact (pw_in (by omega) (by omega)).1
      · exact (pw_in (by omega) (by omega)).1
    omega
  have ht := tdiv_le s.p _ hd
  refine ⟨i1, i2, ?_, i4, i5, i6⟩
  show -c.sa < s.p - tk c s ∧ s.p - tk c s < c.sa
  unfold tk
  rcases Int.le_total 0 s.p with q | q
  · have := ht.1 q; omega
  · have := ht.2 q; omega
end Go.Proofs.YtdjfbghdnkjdoaaDoor.Pl
