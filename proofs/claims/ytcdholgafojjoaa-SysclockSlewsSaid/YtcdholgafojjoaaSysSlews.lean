/- The walk of SysclockSlews. -/
import Derived.Test.YtcdholgafojjoaaClockLaw
import Derived.Test.YtcdholgafojjoaaOpen
import Derived.Deep.DeepCutAuto
namespace Go.Proofs.Ytcdholgafojjoaa
namespace Pl
theorem floor_up {a G A : Int} (hG : 0 < G) (h : a / G = A) : G * A ≤ a ∧ a < G * A + G := by
  subst h
  exact ⟨Int.mul_ediv_self_le (by omega), Int.lt_mul_ediv_self_add hG⟩
/-- the law, in integers: an ended slew -/
theorem slews {T p x y r e : Int} {n m : Int} (hp1 : -500000 ≤ p) (hp2 : p ≤ 500000) (hy : 0 < y) (hy2 : y ≤ 500000) (he : 0 ≤ e) (hx : x ≠ 0)
    (hend : leftAfter ⟨r, T, p, x, y, n⟩ e = 0) : x - 2 ≤ shown ⟨r, T, p, x, y, n⟩ e - shown ⟨r, T, p, 0, 0, m⟩ e ∧ shown ⟨r, T, p, x, y, n⟩ e - shown ⟨r, T, p, 0, 0, m⟩ e ≤ x + 1 := by
  have eB : shown ⟨r, T, p, 0, 0, m⟩ e = T + e + part e p := by
    unfold shown
    have l0 : slewLen ⟨r, T, p, 0, 0, m⟩ = 0 := by unfold slewLen; simp
    have f0 : fast ⟨r, T, p, 0, 0, m⟩ = p := by unfold fast; simp
    rw [l0, f0]
    simp only [part_zero]
    split
    · rw [show e - 0 = e by omega]; omega
    · rfl
  rw [eB]
  -- the parts
  obtain ⟨D, hD⟩ : ∃ D, part e y = D := ⟨_, rfl⟩
  obtain ⟨C, hC⟩ : ∃ C, part e p = C := ⟨_, rfl⟩
  obtain ⟨d1, d2⟩ := floor_up (by omega) (show e * y / 1000000000 = D from hD)
  obtain ⟨c1, c2⟩ := floor_up (by omega) (show e * p / 1000000000 = C from hC)
  rw [hC]
  -- the end
  have hD2 : (0 < x → x ≤ D) ∧ (x < 0 → -x ≤ D) := by
    unfold leftAfter at hend
    simp only [hD] at hend
    constructor
    · intro hx; rw [if_pos hx] at hend; omega
    · intro hx; rw [if_neg (by omega)] at hend; omega
  -- the length
  obtain ⟨q, hq⟩ : ∃ q, (min x (-x)) * 1000000000 / y = q := ⟨_, rfl⟩
  obtain ⟨q1, q2⟩ := floor_up hy hq
  have hL : slewLen ⟨r, T, p, x, y, n⟩ = -q := by
    unfold slewLen md
    simp only
    rw [if_neg hx, hq]
  obtain ⟨L, hLq⟩ : ∃ L, -q = L := ⟨_, rfl⟩
  have e1 : y * q = -(L * y) := by rw [← hLq, Int.mul_comm, Int.neg_mul, Int.neg_neg]
  rw [e1] at q1 q2
  have hLe : L ≤ e := by
    rcases Int.lt_or_le e L with c | c
    · exfalso
      have k : (e + 1) * y ≤ L * y := Int.mul_le_mul_of_nonneg_right (by omega) (by omega)
      rw [Int.add_mul, Int.one_mul] at k
      rcases Int.lt_or_le x 0 with hx0 | hx0
      · have := hD2.2 hx0; omega
      · have := hD2.1 (by omega); omega
    · exact c
  unfold shown
  rw [hL, hLq]
  simp only
  rcases Int.lt_or_le x 0 with hx0 | hx0
  · have hf : fast ⟨r, T, p, x, y, n⟩ = p - y := by unfold fast; simp only; rw [if_neg (by omega), if_pos hx0]
    rw [hf]
    by_cases c : L < e
    · rw [if_pos c]
      obtain ⟨A, hA⟩ : ∃ A, part L (p - y) = A := ⟨_, rfl⟩
      obtain ⟨B, hB⟩ : ∃ B, part (e - L) p = B := ⟨_, rfl⟩
      obtain ⟨a1, a2⟩ := floor_up (by omega) (show L * (p - y) / 1000000000 = A from hA)
      obtain ⟨b1, b2⟩ := floor_up (by omega) (show (e - L) * p / 1000000000 = B from hB)
      rw [hA, hB]
      rw [Int.mul_sub] at a1 a2
      rw [Int.sub_mul] at b1 b2
      omega
    · rw [if_neg c]
      obtain rfl : L = e := by omega
      obtain ⟨A, hA⟩ : ∃ A, part L (p - y) = A := ⟨_, rfl⟩
      obtain ⟨a1, a2⟩ := floor_up (by omega) (show L * (p - y) / 1000000000 = A from hA)
      rw [hA]
      rw [Int.mul_sub] at a1 a2
      omega
  · have hf : fast ⟨r, T, p, x, y, n⟩ = p + y := by unfold fast; simp only; rw [if_pos (by omega)]
    rw [hf]
    by_cases c : L < e
    · rw [if_pos c]
      obtain ⟨A, hA⟩ : ∃ A, part L (p + y) = A := ⟨_, rfl⟩
      obtain ⟨B, hB⟩ : ∃ B, part (e - L) p = B := ⟨_, rfl⟩
      obtain ⟨a1, a2⟩ := floor_up (by omega) (show L * (p + y) / 1000000000 = A from hA)
      obtain ⟨b1, b2⟩ := floor_up (by omega) (show (e - L) * p / 1000000000 = B from hB)
      rw [hA, hB]
      rw [Int.mul_add] at a1 a2
      rw [Int.sub_mul] at b1 b2
      omega
    · rw [if_neg c]
      obtain rfl : L = e := by omega
      obtain ⟨A, hA⟩ : ∃ A, part L (p + y) = A := ⟨_, rfl⟩
      obtain ⟨a1, a2⟩ := floor_up (by omega) (show L * (p + y) / 1000000000 = A from hA)
      rw [hA]
      rw [Int.mul_add] at a1 a2
      omega
/-- .. for the law's two clocks -/
theorem slews_law {s : CS} {r x y later t u : Int} (h : s.ok = true) (hl : r ≤ later) (e1 : slewE s r x y = 0) (hp : pend (slewS s r x y) later = 0)
    (ht : nowE (slewS s r x y) later = 0) (ht2 : nowT (slewS s r x y) later = t) (hu : nowE (slewS s r 0 1) later = 0) (hu2 : nowT (slewS s r 0 1) later = u) :
    x - 2 ≤ t - u ∧ t - u ≤ x + 1 ∧ (-4503599627370496 ≤ t ∧ t ≤ 4503599627370496) ∧ (-4503599627370496 ≤ u ∧ u ≤ 4503599627370496) ∧ (-4503599627370496 ≤ x ∧ x ≤ 4503599627370496) := by
  have hok1 := slew_ok (raw := r) (delta := x) (rate := y) h
  have hok2 := slew_ok (raw := r) (delta := 0) (rate := 1) h
  have hn : nowE s r = 0 ∧ slewOk x y = true := by
    unfold slewE at e1
    split at e1
    · rename_i i; exact ⟨e1, i⟩
    · omega
  obtain ⟨hn, hso⟩ := hn
  have e2 : slewE s r 0 1 = 0 := by unfold slewE; rw [if_pos (by decide)]; exact hn
  have hS1 : slewS s r x y = withSlew (moved s r) x y := by unfold slewS; rw [if_pos e1]
  have hS2 : slewS s r 0 1 = withSlew (moved s r) 0 1 := by unfold slewS; rw [if_pos e2]
  have bt := (CS.ok_iff.1 (moved_ok hok1 ht).1).2.1
  have bu := (CS.ok_iff.1 (moved_ok hok2 hu).1).2.1
  have ht3 : shown (slewS s r x y) (later - (slewS s r x y).raw) = t := by rw [← ht2]; unfold nowT; rw [if_pos ht]
  have hu3 : shown (slewS s r 0 1) (later - (slewS s r 0 1).raw) = u := by rw [← hu2]; unfold nowT; rw [if_pos hu]
  have bt' : -4503599627370496 ≤ shown (slewS s r x y) (later - (slewS s r x y).raw) ∧ shown (slewS s r x y) (later - (slewS s r x y).raw) ≤ 4503599627370496 := bt
  have bu' : -4503599627370496 ≤ shown (slewS s r 0 1) (later - (slewS s r 0 1).raw) ∧ shown (slewS s r 0 1) (later - (slewS s r 0 1).raw) ≤ 4503599627370496 := bu
  rw [ht3] at bt'
  rw [hu3] at bu'
  simp only [slewOk, Bool.and_eq_true, decide_eq_true_eq] at hso
  have bx := inn_iff.1 hso.1.1
  obtain ⟨_, _, _, hp1, _⟩ := CS.ok_iff.1 h
  have hpl : leftAfter (slewS s r x y) (later - (slewS s r x y).raw) = 0 := by
    unfold pend at hp
    rw [if_pos ht] at hp
    exact hp
  rw [hS1] at hpl ht3
  rw [hS2] at hu3
  refine ⟨?_, ?_, bt', bu', bx⟩
  all_goals (
    by_cases hx : x = 0
    · subst hx
      have : shown (withSlew (moved s r) 0 y) (later - (withSlew (moved s r) 0 y).raw) = shown (withSlew (moved s r) 0 1) (later - (withSlew (moved s r) 0 1).raw) := rfl
      omega
    · have k := slews (T := shown s (r - s.raw)) (p := s.ppb) (x := x) (y := y) (r := r) (e := later - r) (n := s.steps) (m := s.steps) hp1.1 hp1.2 (by omega) (by omega) (by omega) hx (by
        have : withSlew (moved s r) x y = ⟨r, shown s (r - s.raw), s.ppb, x, y, s.steps⟩ := by unfold withSlew moved; simp only; rw [if_neg hx]
        rw [this] at hpl
        exact hpl)
      have w1 : withSlew (moved s r) x y = ⟨r, shown s (r - s.raw), s.ppb, x, y, s.steps⟩ := by unfold withSlew moved; simp only; rw [if_neg hx]
      have w2 : withSlew (moved s r) 0 1 = ⟨r, shown s (r - s.raw), s.ppb, 0, 0, s.steps⟩ := rfl
      rw [w1] at ht3
      rw [w2] at hu3
      simp only at ht3 hu3
      omega)
end Pl
open Go.RowKit Go.Lib

/-- the boxes and two clocks -/
def Sl (w W : World) (b1 b2 : Nat) (s : Pl.CS) (k r x y : Int) (S1 S2 : Pl.CS) : Prop := SoB w W s k r x y ∧ PairC w W 51 51 b1 b2 S1 S2 ∧ w.heap.size + 2 ≤ b1 ∧ w.heap.size + 2 ≤ b2
section
variable {w W W' : World} {b1 b2 : Nat} {s S1 S2 S' : Pl.CS} {k r x y : Int}
theorem Sl.on (h : Sl w W b1 b2 s k r x y S1 S2) (l : Below W.heap.size W W') : Sl w W' b1 b2 s k r x y S1 S2 := ⟨h.1.on l, h.2.1.on l, h.2.2⟩
theorem Sl.drew (h : Sl w W b1 b2 s k r x y S1 S2) : Sl w W.drew b1 b2 s k r x y S1 S2 := ⟨h.1.drew, h.2.1.drew, h.2.2⟩
theorem Sl.one (h : Sl w W b1 b2 s k r x y S1 S2) (l : LeftT 51 b1 S' W W') : Sl w W' b1 b2 s k r x y S' S2 := ⟨h.1.turn l h.2.2.1, h.2.1.one l, h.2.2⟩
theorem Sl.two (h : Sl w W b1 b2 s k r x y S1 S2) (l : LeftT 51 b2 S' W W') : Sl w W' b1 b2 s k r x y S1 S' := ⟨h.1.turn l h.2.2.2, h.2.1.two l, h.2.2⟩
theorem SoB.cells {s : Pl.CS} (h : SoB w W s k r x y) :
    (W.cell? ⟨w.heap.size, 0, none⟩ = some (.int .i64 s.raw) ∧ W.cell? ⟨w.heap.size, 1, none⟩ = some (.int .i64 s.time) ∧ W.cell? ⟨w.heap.size, 2, none⟩ = some (.int .i64 s.ppb) ∧ W.cell? ⟨w.heap.size, 3, none⟩ = some (.int .i64 s.left) ∧ W.cell? ⟨w.heap.size, 4, none⟩ = some (.int .i64 s.rate) ∧ W.cell? ⟨w.heap.size, 5, none⟩ = some (.int .i64 s.steps)) ∧
    (W.cell? ⟨w.heap.size + 1, 0, none⟩ = some (.int .i64 k) ∧ W.cell? ⟨w.heap.size + 1, 1, none⟩ = some (.int .i64 r) ∧ W.cell? ⟨w.heap.size + 1, 2, none⟩ = some (.int .i64 x) ∧ W.cell? ⟨w.heap.size + 1, 3, none⟩ = some (.int .i64 y)) := ⟨cs_cells h.2.1, h.op⟩
end

set_option maxRecDepth 100000 in
set_option maxHeartbeats 4000000 in
theorem sysclockSlews_no (s0 s1 s2 s5 l0 l1 : Int) (k r x y later : Int) (w : World) (h : (⟨s0, s1, s2, 0, 0, s5⟩ : Pl.CS).ok = false) :
    Calls Try.prog 7 #[.agg #[.int .i64 s0, .int .i64 s1, .int .i64 s2, .int .i64 l0, .int .i64 l1, .int .i64 s5], .agg #[.int .i64 k, .int .i64 r, .int .i64 x, .int .i64 y], .int .i64 later] w fun e w' => e = .returned (.bool true) ∧ Below w.heap.size w w' := by
  have O := Lib.hid (cof_no ⟨s0, s1, s2, 0, 0, s5⟩ h)
  have K := soB_mk w ⟨s0, s1, s2, 0, 0, s5⟩ k r x y
  obtain ⟨⟨k0, k1, k2, k3, k4, k5⟩, c0, c1, c2, c3⟩ := K.cells
  have cz := K.2.2.lt
  have kz := K.2.1.lt
  clear h k0 k1 k2 k3 k4 k5 c0 c1 c2 c3 cz kz
  go_enter Try.func7, Try.ntmps7
  go_wp2_with fail
  go_region_held3 (fun w' => (w'.cell? ⟨w.heap.size, 0, none⟩ = some (.int .i64 s0) ∧ w'.cell? ⟨w.heap.size, 1, none⟩ = some (.int .i64 s1) ∧ w'.cell? ⟨w.heap.size, 2, none⟩ = some (.int .i64 s2) ∧ w'.cell? ⟨w.heap.size, 3, none⟩ = some (.int .i64 0) ∧ w'.cell? ⟨w.heap.size, 4, none⟩ = some (.int .i64 0) ∧ w'.cell? ⟨w.heap.size, 5, none⟩ = some (.int .i64 s5)) ∧ (w'.cell? ⟨w.heap.size + 1, 0, none⟩ = some (.int .i64 k) ∧ w'.cell? ⟨w.heap.size + 1, 1, none⟩ = some (.int .i64 r) ∧ w'.cell? ⟨w.heap.size + 1, 2, none⟩ = some (.int .i64 x) ∧ w'.cell? ⟨w.heap.size + 1, 3, none⟩ = some (.int .i64 y))) (first | exact K.cells | exact K.drew.cells) ((go_at_call 11; refine (O.out _).mono ?_; rintro _ w5 ⟨rfl, l5⟩; have K : SoB w w5 ⟨s0, s1, s2, 0, 0, s5⟩ k r x y := (by first | exact K.on l5 | exact K.drew.on l5)))
  all_goals (
    obtain ⟨c0, c1, c2, c3⟩ := K.op
    have cz := K.2.2.lt
    go_wp2_with fail
    refine (cawake_any _).mono ?_
    rintro _ w9 ⟨rfl, l9⟩
    have K := K.on l9
    go_wp2
    go_ret
    exact ⟨rfl, K.1⟩)

set_option maxRecDepth 100000 in
set_option maxHeartbeats 4000000 in
theorem sysclockSlews_yes (s0 s1 s2 s5 l0 l1 : Int) (k r x y later : Int) (w : World) (h : (⟨s0, s1, s2, 0, 0, s5⟩ : Pl.CS).ok = true) :
    Calls Try.prog 7 #[.agg #[.int .i64 s0, .int .i64 s1, .int .i64 s2, .int .i64 l0, .int .i64 l1, .int .i64 s5], .agg #[.int .i64 k, .int .i64 r, .int .i64 x, .int .i64 y], .int .i64 later] w fun e w' => e = .returned (.bool true) ∧ Below w.heap.size w w' := by
  have O := Lib.hid (cof_yes ⟨s0, s1, s2, 0, 0, s5⟩ h)
  have K := soB_mk w ⟨s0, s1, s2, 0, 0, s5⟩ k r x y
  obtain ⟨E1, hE1⟩ : ∃ E1, Pl.slewE ⟨s0, s1, s2, 0, 0, s5⟩ r x y = E1 := ⟨_, rfl⟩
  obtain ⟨S1, hS1⟩ : ∃ S1, Pl.slewS ⟨s0, s1, s2, 0, 0, s5⟩ r x y = S1 := ⟨_, rfl⟩
  obtain ⟨E2, hE2⟩ : ∃ E2, Pl.slewE ⟨s0, s1, s2, 0, 0, s5⟩ r 0 1 = E2 := ⟨_, rfl⟩
  obtain ⟨S2, hS2⟩ : ∃ S2, Pl.slewS ⟨s0, s1, s2, 0, 0, s5⟩ r 0 1 = S2 := ⟨_, rfl⟩
  have X1 := Lib.hid (cslew_at h hE1 hS1)
  have X2 := Lib.hid (cslew_at h hE2 hS2)
  have ok1 : S1.ok = true := hS1 ▸ Pl.slew_ok h
  have ok2 : S2.ok = true := hS2 ▸ Pl.slew_ok h
  obtain ⟨P, hP⟩ : ∃ P, Pl.pend S1 later = P := ⟨_, rfl⟩
  obtain ⟨t, ht⟩ : ∃ t, Pl.nowT S1 later = t := ⟨_, rfl⟩
  obtain ⟨e, he⟩ : ∃ e, Pl.nowE S1 later = e := ⟨_, rfl⟩
  obtain ⟨u, hu⟩ : ∃ u, Pl.nowT S2 later = u := ⟨_, rfl⟩
  obtain ⟨f, hf⟩ : ∃ f, Pl.nowE S2 later = f := ⟨_, rfl⟩
  have X3 := Lib.hid (cpend_at ok1 hP)
  have X4 := Lib.hid (cnow_at ok1 ht he)
  have X5 := Lib.hid (cnow_at ok2 hu hf)
  have LAW : Hid (r ≤ later → E1 = 0 → P = 0 → e = 0 → f = 0 → x - 2 ≤ t - u ∧ t - u ≤ x + 1 ∧ (-4503599627370496 ≤ t ∧ t ≤ 4503599627370496) ∧ (-4503599627370496 ≤ u ∧ u ≤ 4503599627370496) ∧ (-4503599627370496 ≤ x ∧ x ≤ 4503599627370496)) := Lib.hid (fun a1 a2 a3 a4 a5 => by
    subst hS1 hS2
    exact Pl.slews_law h a1 (hE1.trans a2) (hP.trans a3) (he.trans a4) ht (hf.trans a5) hu)
  clear h hE1 hS1 hE2 hS2 ok1 ok2 hP ht he hu hf
  go_enter Try.func7, Try.ntmps7
  go_wp2_with fail
  go_cut [7, 8] (fun v7 v8 wx => ∃ b1 b2, v7 = .pointer (some ⟨b1, 0, none⟩) ∧ v8 = .pointer (some ⟨b2, 0, none⟩) ∧ Hid (Sl w wx b1 b2 ⟨s0, s1, s2, 0, 0, s5⟩ k r x y ⟨s0, s1, s2, 0, 0, s5⟩ ⟨s0, s1, s2, 0, 0, s5⟩))
  case first =>
    go_region_held3 (fun w' => (w'.cell? ⟨w.heap.size, 0, none⟩ = some (.int .i64 s0) ∧ w'.cell? ⟨w.heap.size, 1, none⟩ = some (.int .i64 s1) ∧ w'.cell? ⟨w.heap.size, 2, none⟩ = some (.int .i64 s2) ∧ w'.cell? ⟨w.heap.size, 3, none⟩ = some (.int .i64 0) ∧ w'.cell? ⟨w.heap.size, 4, none⟩ = some (.int .i64 0) ∧ w'.cell? ⟨w.heap.size, 5, none⟩ = some (.int .i64 s5)) ∧ (w'.cell? ⟨w.heap.size + 1, 0, none⟩ = some (.int .i64 k) ∧ w'.cell? ⟨w.heap.size + 1, 1, none⟩ = some (.int .i64 r) ∧ w'.cell? ⟨w.heap.size + 1, 2, none⟩ = some (.int .i64 x) ∧ w'.cell? ⟨w.heap.size + 1, 3, none⟩ = some (.int .i64 y))) (first | exact K.cells | exact K.drew.cells) ((go_at_call 11; refine (O.out _).mono ?_; rintro _ w5 ⟨b, rfl, hb, kb, l5⟩; have hq : w.heap.size + 2 ≤ b := Nat.le_trans (Nat.succ_le_of_lt K.2.2.lt) hb; (first | (have P2 := And.intro (P1.1.pair l5 hb kb) (And.intro P1.2 hq)) | (have P2 := And.intro (P1.1.drew.pair l5 hb kb) (And.intro P1.2 hq)) | (have P1 : OneC w w5 51 b ⟨s0, s1, s2, 0, 0, s5⟩ ∧ w.heap.size + 2 ≤ b := ⟨⟨kb, bel_on K.1 l5, Nat.le_trans K.1.size hb⟩, hq⟩) | (have P1 : OneC w w5 51 b ⟨s0, s1, s2, 0, 0, s5⟩ ∧ w.heap.size + 2 ≤ b := ⟨⟨kb, bel_on K.drew.1 l5, Nat.le_trans K.drew.1.size hb⟩, hq⟩)); have K : SoB w w5 ⟨s0, s1, s2, 0, 0, s5⟩ k r x y := (by first | exact K.on l5 | exact K.drew.on l5)))
    all_goals (
      go_wp2_with fail
      go_meet
      first | exact ⟨_, _, rfl, rfl, Lib.hid ⟨K, P2.1, P2.2⟩⟩ | exact ⟨_, _, rfl, rfl, Lib.hid ⟨K, ⟨P2.1.2.1, P2.1.1, P2.1.2.2.1, Ne.symm P2.1.2.2.2.1, P2.1.2.2.2.2.2, P2.1.2.2.2.2.1⟩, P2.2.2, P2.2.1⟩⟩)
  case rest =>
    obtain ⟨b1, b2, rfl, rfl, HK⟩ := hcut
    clear K
    have K := HK.out
    clear HK O
    by_cases e1 : E1 = 0
    · subst e1
      by_cases e2 : E2 = 0
      · subst e2
        by_cases lt : later < r
        · have tl : decide (later < r) = true := by simp [lt]
          obtain ⟨c0, c1, c2, c3⟩ := K.1.op
          have cz := K.1.2.2.lt
          go_wp2_with fail
          refine (X1.out b1 _ K.2.1.1).mono ?_
          rintro _ w7 ⟨rfl, l7⟩
          clear c0 c1 c2 c3 cz
          have K := K.one l7
          clear l7
          obtain ⟨c0, c1, c2, c3⟩ := K.1.op
          have cz := K.1.2.2.lt
          go_wp2_with fail
          refine (X2.out b2 _ K.2.1.2.1).mono ?_
          rintro _ w7 ⟨rfl, l7⟩
          clear c0 c1 c2 c3 cz
          have K := K.two l7
          clear l7
          obtain ⟨c0, c1, c2, c3⟩ := K.1.op
          have cz := K.1.2.2.lt
          go_wp2_with fail
          refine (cawake_any _).mono ?_
          rintro _ w7 ⟨rfl, l7⟩
          clear c0 c1 c2 c3 cz
          have K := K.on l7
          clear l7
          go_wp2
          go_ret
          exact ⟨rfl, K.1.1⟩
        · have tl : decide (later < r) = false := by simp; omega
          by_cases p0 : P = 0
          · subst p0
            by_cases e0 : e = 0
            · subst e0
              by_cases f0 : f = 0
              · subst f0
                obtain ⟨g1, g2, ⟨g3, g4⟩, ⟨g5, g6⟩, g7, g8⟩ := LAW.out (by omega) rfl rfl rfl rfl
                obtain ⟨c0, c1, c2, c3⟩ := K.1.op
                have cz := K.1.2.2.lt
                go_wp2_with fail
                refine (X1.out b1 _ K.2.1.1).mono ?_
                rintro _ w7 ⟨rfl, l7⟩
                clear c0 c1 c2 c3 cz
                have K := K.one l7
                clear l7
                obtain ⟨c0, c1, c2, c3⟩ := K.1.op
                have cz := K.1.2.2.lt
                go_wp2_with fail
                refine (X2.out b2 _ K.2.1.2.1).mono ?_
                rintro _ w7 ⟨rfl, l7⟩
                clear c0 c1 c2 c3 cz
                have K := K.two l7
                clear l7
                obtain ⟨c0, c1, c2, c3⟩ := K.1.op
                have cz := K.1.2.2.lt
                go_wp2_with fail
                refine (X3.out b1 _ K.2.1.1).mono ?_
                rintro _ w7 ⟨rfl, l7⟩
                clear c0 c1 c2 c3 cz
                have K := K.on l7
                clear l7
                obtain ⟨c0, c1, c2, c3⟩ := K.1.op
                have cz := K.1.2.2.lt
                go_wp2_with fail
                refine (X4.out b1 _ K.2.1.1).mono ?_
                rintro _ w7 ⟨rfl, l7⟩
                clear c0 c1 c2 c3 cz
                have K := K.on l7
                clear l7
                obtain ⟨c0, c1, c2, c3⟩ := K.1.op
                have cz := K.1.2.2.lt
                go_wp2_with fail
                refine (X5.out b2 _ K.2.1.2.1).mono ?_
                rintro _ w7 ⟨rfl, l7⟩
                clear c0 c1 c2 c3 cz
                have K := K.on l7
                clear l7
                obtain ⟨c0, c1, c2, c3⟩ := K.1.op
                have cz := K.1.2.2.lt
                go_wp2_with fail
                refine (cawake_any _).mono ?_
                rintro _ w7 ⟨rfl, l7⟩
                clear c0 c1 c2 c3 cz
                have K := K.on l7
                clear l7
                go_wp2
                go_ret
                exact ⟨rfl, K.1.1⟩
              · have tf : (f == 0) = false := by simp [f0]
                have tf' : (f != 0) = true := by simp [f0]
                clear f0
                obtain ⟨c0, c1, c2, c3⟩ := K.1.op
                have cz := K.1.2.2.lt
                go_wp2_with fail
                refine (X1.out b1 _ K.2.1.1).mono ?_
                rintro _ w7 ⟨rfl, l7⟩
                clear c0 c1 c2 c3 cz
                have K := K.one l7
                clear l7
                obtain ⟨c0, c1, c2, c3⟩ := K.1.op
                have cz := K.1.2.2.lt
                go_wp2_with fail
                refine (X2.out b2 _ K.2.1.2.1).mono ?_
                rintro _ w7 ⟨rfl, l7⟩
                clear c0 c1 c2 c3 cz
                have K := K.two l7
                clear l7
                obtain ⟨c0, c1, c2, c3⟩ := K.1.op
                have cz := K.1.2.2.lt
                go_wp2_with fail
                refine (X3.out b1 _ K.2.1.1).mono ?_
                rintro _ w7 ⟨rfl, l7⟩
                clear c0 c1 c2 c3 cz
                have K := K.on l7
                clear l7
                obtain ⟨c0, c1, c2, c3⟩ := K.1.op
                have cz := K.1.2.2.lt
                go_wp2_with fail
                refine (X4.out b1 _ K.2.1.1).mono ?_
                rintro _ w7 ⟨rfl, l7⟩
                clear c0 c1 c2 c3 cz
                have K := K.on l7
                clear l7
                obtain ⟨c0, c1, c2, c3⟩ := K.1.op
                have cz := K.1.2.2.lt
                go_wp2_with fail
                refine (X5.out b2 _ K.2.1.2.1).mono ?_
                rintro _ w7 ⟨rfl, l7⟩
                clear c0 c1 c2 c3 cz
                have K := K.on l7
                clear l7
                obtain ⟨c0, c1, c2, c3⟩ := K.1.op
                have cz := K.1.2.2.lt
                go_wp2_with fail
                refine (cawake_any _).mono ?_
                rintro _ w7 ⟨rfl, l7⟩
                clear c0 c1 c2 c3 cz
                have K := K.on l7
                clear l7
                go_wp2
                go_ret
                exact ⟨rfl, K.1.1⟩
            · have te : (e == 0) = false := by simp [e0]
              have te' : (e != 0) = true := by simp [e0]
              clear e0
              obtain ⟨c0, c1, c2, c3⟩ := K.1.op
              have cz := K.1.2.2.lt
              go_wp2_with fail
              refine (X1.out b1 _ K.2.1.1).mono ?_
              rintro _ w7 ⟨rfl, l7⟩
              clear c0 c1 c2 c3 cz
              have K := K.one l7
              clear l7
              obtain ⟨c0, c1, c2, c3⟩ := K.1.op
              have cz := K.1.2.2.lt
              go_wp2_with fail
              refine (X2.out b2 _ K.2.1.2.1).mono ?_
              rintro _ w7 ⟨rfl, l7⟩
              clear c0 c1 c2 c3 cz
              have K := K.two l7
              clear l7
              obtain ⟨c0, c1, c2, c3⟩ := K.1.op
              have cz := K.1.2.2.lt
              go_wp2_with fail
              refine (X3.out b1 _ K.2.1.1).mono ?_
              rintro _ w7 ⟨rfl, l7⟩
              clear c0 c1 c2 c3 cz
              have K := K.on l7
              clear l7
              obtain ⟨c0, c1, c2, c3⟩ := K.1.op
              have cz := K.1.2.2.lt
              go_wp2_with fail
              refine (X4.out b1 _ K.2.1.1).mono ?_
              rintro _ w7 ⟨rfl, l7⟩
              clear c0 c1 c2 c3 cz
              have K := K.on l7
              clear l7
              obtain ⟨c0, c1, c2, c3⟩ := K.1.op
              have cz := K.1.2.2.lt
              go_wp2_with fail
              refine (X5.out b2 _ K.2.1.2.1).mono ?_
              rintro _ w7 ⟨rfl, l7⟩
              clear c0 c1 c2 c3 cz
              have K := K.on l7
              clear l7
              obtain ⟨c0, c1, c2, c3⟩ := K.1.op
              have cz := K.1.2.2.lt
              go_wp2_with fail
              refine (cawake_any _).mono ?_
              rintro _ w7 ⟨rfl, l7⟩
              clear c0 c1 c2 c3 cz
              have K := K.on l7
              clear l7
              go_wp2
              go_ret
              exact ⟨rfl, K.1.1⟩
          · have tp : (P == 0) = false := by simp [p0]
            have tp' : (P != 0) = true := by simp [p0]
            clear p0
            obtain ⟨c0, c1, c2, c3⟩ := K.1.op
            have cz := K.1.2.2.lt
            go_wp2_with fail
            refine (X1.out b1 _ K.2.1.1).mono ?_
            rintro _ w7 ⟨rfl, l7⟩
            clear c0 c1 c2 c3 cz
            have K := K.one l7
            clear l7
            obtain ⟨c0, c1, c2, c3⟩ := K.1.op
            have cz := K.1.2.2.lt
            go_wp2_with fail
            refine (X2.out b2 _ K.2.1.2.1).mono ?_
            rintro _ w7 ⟨rfl, l7⟩
            clear c0 c1 c2 c3 cz
            have K := K.two l7
            clear l7
            obtain ⟨c0, c1, c2, c3⟩ := K.1.op
            have cz := K.1.2.2.lt
            go_wp2_with fail
            refine (X3.out b1 _ K.2.1.1).mono ?_
            rintro _ w7 ⟨rfl, l7⟩
            clear c0 c1 c2 c3 cz
            have K := K.on l7
            clear l7
            obtain ⟨c0, c1, c2, c3⟩ := K.1.op
            have cz := K.1.2.2.lt
            go_wp2_with fail
            refine (cawake_any _).mono ?_
            rintro _ w7 ⟨rfl, l7⟩
            clear c0 c1 c2 c3 cz
            have K := K.on l7
            clear l7
            go_wp2
            go_ret
            exact ⟨rfl, K.1.1⟩
      · have t2 : (E2 == 0) = false := by simp [e2]
        have t2' : (E2 != 0) = true := by simp [e2]
        clear e2
        obtain ⟨c0, c1, c2, c3⟩ := K.1.op
        have cz := K.1.2.2.lt
        go_wp2_with fail
        refine (X1.out b1 _ K.2.1.1).mono ?_
        rintro _ w7 ⟨rfl, l7⟩
        clear c0 c1 c2 c3 cz
        have K := K.one l7
        clear l7
        obtain ⟨c0, c1, c2, c3⟩ := K.1.op
        have cz := K.1.2.2.lt
        go_wp2_with fail
        refine (X2.out b2 _ K.2.1.2.1).mono ?_
        rintro _ w7 ⟨rfl, l7⟩
        clear c0 c1 c2 c3 cz
        have K := K.two l7
        clear l7
        obtain ⟨c0, c1, c2, c3⟩ := K.1.op
        have cz := K.1.2.2.lt
        go_wp2_with fail
        refine (cawake_any _).mono ?_
        rintro _ w7 ⟨rfl, l7⟩
        clear c0 c1 c2 c3 cz
        have K := K.on l7
        clear l7
        go_wp2
        go_ret
        exact ⟨rfl, K.1.1⟩
    · have t1 : (E1 == 0) = false := by simp [e1]
      have t1' : (E1 != 0) = true := by simp [e1]
      clear e1
      obtain ⟨c0, c1, c2, c3⟩ := K.1.op
      have cz := K.1.2.2.lt
      go_wp2_with fail
      refine (X1.out b1 _ K.2.1.1).mono ?_
      rintro _ w7 ⟨rfl, l7⟩
      clear c0 c1 c2 c3 cz
      have K := K.one l7
      clear l7
      obtain ⟨c0, c1, c2, c3⟩ := K.1.op
      have cz := K.1.2.2.lt
      go_wp2_with fail
      refine (cawake_any _).mono ?_
      rintro _ w7 ⟨rfl, l7⟩
      clear c0 c1 c2 c3 cz
      have K := K.on l7
      clear l7
      go_wp2
      go_ret
      exact ⟨rfl, K.1.1⟩

theorem sysclockSlews_walk (a b c d e f k r x y later : Int) (w : World) (_h : ∀ n ∈ [a, b, c, d, e, f], (Lit.int .i64 n).wf = true) (_h2 : ∀ n ∈ [k, r, x, y], (Lit.int .i64 n).wf = true) (_h3 : (Lit.int .i64 later).wf = true) :
    Calls Try.prog 7 #[.agg ([a, b, c, d, e, f].map (Value.int .i64)).toArray, .agg ([k, r, x, y].map (Value.int .i64)).toArray, .int .i64 later] w fun e w' => e = .returned (.bool true) ∧ Below w.heap.size w w' := by
  cases hs : (⟨a, b, c, 0, 0, f⟩ : Pl.CS).ok with
  | false => exact sysclockSlews_no a b c f d e k r x y later w hs
  | true => exact sysclockSlews_yes a b c f d e k r x y later w hs
end Go.Proofs.Ytcdholgafojjoaa
