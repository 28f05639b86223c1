/- Contracts of the loop's small functions. -/
import Derived.Test.YtdjfbghdnkjdoaaDoorFix
import Derived.Test.YtdjfbghdnkjdoaaDoorPllPlain
import Derived.Test.YtdjfbghdnkjdoaaDoorBoxes
import Derived.Test.YtdjfbghdnkjdoaaDoorLaw
import Derived.Deep.RegionHeld3
import Derived.Deep.DeepCutAuto
namespace Go.Proofs.YtdjfbghdnkjdoaaDoor
namespace Pl
theorem floor_tdiv {a b : Int} (hb : 0 < b) : a / b = if a.tmod b < 0 then a.tdiv b - 1 else a.tdiv b := by
  rcases Int.lt_or_le a 0 with h | h
  · obtain ⟨n, rfl⟩ : ∃ n, a = -n := ⟨-a, by omega⟩
    rw [Int.neg_tdiv, Int.neg_tmod, Int.tdiv_eq_ediv_of_nonneg (by omega), Int.tmod_eq_emod_of_nonneg (by omega)]
    have e := Int.mul_ediv_add_emod n b
    have r1 := Int.emod_nonneg n (show b ≠ 0 by omega)
    have r2 := Int.emod_lt_of_pos n hb
    generalize n / b = Q at *
    generalize n % b = R at *
    by_cases c : R = 0
    · rw [if_neg (by omega)]
      refine ((Int.ediv_emod_unique (r := 0) hb).2 ⟨?_, by omega, hb⟩).1
      rw [Int.mul_neg]
      omega
    · rw [if_pos (by omega)]
      refine ((Int.ediv_emod_unique (r := b - R) hb).2 ⟨?_, by omega, by omega⟩).1
      rw [Int.mul_sub, Int.mul_neg]
      omega
  · rw [Int.tdiv_eq_ediv_of_nonneg h, Int.tmod_eq_emod_of_nonneg h]
    rw [if_neg (by have := Int.emod_nonneg a (show b ≠ 0 by omega); omega)]
theorem tmod_in {a b : Int} (hb : 0 < b) : -b < a.tmod b ∧ a.tmod b < b := by
  rcases Int.lt_or_le a 0 with h | h
  · obtain ⟨n, rfl⟩ : ∃ n, a = -n := ⟨-a, by omega⟩
    rw [Int.neg_tmod, Int.tmod_eq_emod_of_nonneg (by omega)]
    have r1 := Int.emod_nonneg n (show b ≠ 0 by omega)
    have r2 := Int.emod_lt_of_pos n hb
    omega
  · rw [Int.tmod_eq_emod_of_nonneg h]
    have r1 := Int.emod_nonneg a (show b ≠ 0 by omega)
    have r2 := Int.emod_lt_of_pos a hb
    omega
theorem floor_in {a b K : Int} (hb : 0 < b) (h1 : -K ≤ a) (h2 : a ≤ K) (hK : 0 ≤ K) : -K ≤ a / b ∧ a / b ≤ K := by
  have k := Int.mul_le_mul_of_nonneg_left (show 1 ≤ b by omega) hK
  constructor
  · rw [Int.le_ediv_iff_mul_le hb, Int.neg_mul]
    omega
  · have : a / b < K + 1 := by
      rw [Int.ediv_lt_iff_lt_mul hb, Int.add_mul]
      omega
    omega
end Pl
open Go.RowKit Go.Lib

abbrev lvA (c : Pl.LC) (s : Pl.LS) : Array Value := #[.int .i64 c.lo, .int .i64 c.hi, .int .i64 c.sa, .int .i64 c.so, .int .i64 c.lim, .int .i64 s.st, .int .i64 s.f, .int .i64 s.p, .bool s.kn, .int .i64 s.at_, .int .i64 s.po, .int .i64 s.sp]
abbrev lcV (c : Pl.LC) : Value := .agg #[.int .i64 c.lo, .int .i64 c.hi, .int .i64 c.sa, .int .i64 c.so, .int .i64 c.lim]
def LeftP (b : Nat) (c : Pl.LC) (s : Pl.LS) (w w' : World) : Prop := Blk w' b 46 (lvA c s) ∧ w.grownBy w' (some b)
theorem bel_bx (w : World) (o : Obj) : Below w.heap.size w (w.alloc o) := (Below.refl _ _).alloc (Nat.le_refl _) _
section
variable {w W : World} {b : Nat} {c : Pl.LC} {s : Pl.LS}
theorem leftP_refl (h : Blk w b 46 (lvA c s)) : LeftP b c s w w := ⟨h, only_refl _ _⟩
theorem lv_cells (h : Blk w b 46 (lvA c s)) :
    (w.cell? ⟨b, 0, none⟩ = some (.int .i64 c.lo) ∧ w.cell? ⟨b, 1, none⟩ = some (.int .i64 c.hi) ∧ w.cell? ⟨b, 2, none⟩ = some (.int .i64 c.sa) ∧ w.cell? ⟨b, 3, none⟩ = some (.int .i64 c.so) ∧ w.cell? ⟨b, 4, none⟩ = some (.int .i64 c.lim)) ∧
    w.cell? ⟨b, 5, none⟩ = some (.int .i64 s.st) ∧ w.cell? ⟨b, 6, none⟩ = some (.int .i64 s.f) ∧ w.cell? ⟨b, 7, none⟩ = some (.int .i64 s.p) ∧ w.cell? ⟨b, 8, none⟩ = some (.bool s.kn) ∧ w.cell? ⟨b, 9, none⟩ = some (.int .i64 s.at_) ∧ w.cell? ⟨b, 10, none⟩ = some (.int .i64 s.po) ∧ w.cell? ⟨b, 11, none⟩ = some (.int .i64 s.sp) :=
  ⟨⟨h.cell 0, h.cell 1, h.cell 2, h.cell 3, h.cell 4⟩, h.cell 5, h.cell 6, h.cell 7, h.cell 8, h.cell 9, h.cell 10, h.cell 11⟩
end

theorem pwithin_any (n lo hi : Int) (w : World) :
    Calls Tryd.prog 26 #[.int .i64 n, .int .i64 lo, .int .i64 hi] w fun e w' => e = .returned (.bool (Pl.inr n lo hi)) ∧ w = w' := by
  go_enter Tryd.func26, Tryd.ntmps26
  go_wp2
  all_goals (go_ret; exact ⟨congrArg Ending.returned (congrArg Value.bool (by simp [Pl.inr] <;> omega)), rfl⟩)

theorem pclamp_any (n lo hi : Int) (h : lo ≤ hi) (w : World) :
    Calls Tryd.prog 38 #[.int .i64 n, .int .i64 lo, .int .i64 hi] w fun e w' => e = .returned (.int .i64 (Pl.clampL n lo hi)) ∧ w = w' := by
  unfold Pl.clampL
  by_cases h1 : n < lo
  · rw [show max lo (min n hi) = lo by omega]
    go_enter Tryd.func38, Tryd.ntmps38
    go_wp2
    go_ret
    exact ⟨rfl, rfl⟩
  · by_cases h2 : hi < n
    · rw [show max lo (min n hi) = hi by omega]
      go_enter Tryd.func38, Tryd.ntmps38
      go_wp2
      go_ret
      exact ⟨rfl, rfl⟩
    · rw [show max lo (min n hi) = n by omega]
      go_enter Tryd.func38, Tryd.ntmps38
      go_wp2
      go_ret
      exact ⟨rfl, rfl⟩

theorem pdivide_any (a b : Int) (ha : -9223372036854775807 ≤ a) (ha' : a ≤ 9223372036854775807) (hb : 0 < b) (hb' : b ≤ 9223372036854775807) (w : World) :
    Calls Tryd.prog 41 #[.int .i64 a, .int .i64 b] w fun e w' => e = .returned (.tuple #[.int .i64 (a.tdiv b), .int .i64 (a.tmod b), .bool true]) ∧ ∃ n, w' = w.drewN n := by
  have t0 : (b == 0) = false := by simp; omega
  have t1 : (b == -1) = false := by simp; omega
  have t2 : (a == -9223372036854775808) = false := by simp; omega
  have hq := Pl.tdiv_le a b hb
  have hr := Pl.tmod_in (a := a) hb
  have kw1 : IntKind.i64.wrap (a.tdiv b) = a.tdiv b := IntWalk.i64_in _ (by rcases Int.le_total 0 a with q | q; have := hq.1 q; omega; have := hq.2 q; omega)
  have kw2 : IntKind.i64.wrap (a.tmod b) = a.tmod b := IntWalk.i64_in _ (by omega)
  clear hq hr
  go_enter Tryd.func41, Tryd.ntmps41
  go_wp2_with fail
  all_goals (
    go_region_with fail
    all_goals (
      go_wp2_with fail
      refine bodyPost_ret (v := .tuple #[.int .i64 (a.tdiv b), .int .i64 (a.tmod b), .bool true]) (by simp [results, Tryd.results41, go_sem]) rfl ⟨rfl, 1, rfl⟩))

theorem pfloor_any (a b : Int) (ha : -9223372036854775807 ≤ a) (ha' : a ≤ 9223372036854775807) (hb : 0 < b) (hb' : b ≤ 9223372036854775807) (w : World) :
    Calls Tryd.prog 39 #[.int .i64 a, .int .i64 b] w fun e w' => e = .returned (.tuple #[.int .i64 (a / b), .bool true]) ∧ ∃ n, w' = w.drewN n := by
  have D := Lib.hid (fun W => pdivide_any a b ha ha' hb hb' W)
  have e := Pl.floor_tdiv (a := a) hb
  have hr := Pl.tmod_in (a := a) hb
  have hq := Pl.tdiv_le a b hb
  have hq' : -9223372036854775808 ≤ a.tdiv b ∧ a.tdiv b ≤ 9223372036854775807 := by rcases Int.le_total 0 a with q | q; have := hq.1 q; omega; have := hq.2 q; omega
  have hF : -9223372036854775807 ≤ a / b := by
    have := (Pl.floor_in (a := a) (K := 9223372036854775807) hb ha (by omega) (by omega)).1
    omega
  obtain ⟨q1, q2⟩ := hq'
  have tb : decide (b < 0) = false := by simp; omega
  rw [e] at hF ⊢
  clear e hq
  generalize a.tdiv b = Q at *
  generalize a.tmod b = R at *
  by_cases c : R < 0
  · rw [if_pos c] at hF ⊢
    have t0 : (R == 0) = false := by simp; omega
    have kw : IntKind.i64.wrap (Q - 1) = Q - 1 := IntWalk.i64_in _ (by omega)
    go_enter Tryd.func39, Tryd.ntmps39
    go_wp2_with fail
    refine (D.out _).mono ?_
    rintro _ w1 ⟨rfl, n, rfl⟩
    go_wp2
    refine bodyPost_ret (v := .tuple #[.int .i64 (Q - 1), .bool true]) (by simp [results, Tryd.results39, go_sem]) rfl ⟨rfl, n, rfl⟩
  · rw [if_neg c]
    have t1 : decide (R < 0) = false := by simp; omega
    go_enter Tryd.func39, Tryd.ntmps39
    go_wp2_with fail
    refine (D.out _).mono ?_
    rintro _ w1 ⟨rfl, n, rfl⟩
    go_wp2
    all_goals (refine bodyPost_ret (v := .tuple #[.int .i64 Q, .bool true]) (by simp [results, Tryd.results39, go_sem]) rfl ⟨rfl, n, rfl⟩)

theorem pquot_any (a b : Int) (ha : -9223372036854775807 ≤ a) (ha' : a ≤ 9223372036854775807) (hb : 0 < b) (hb' : b ≤ 9223372036854775807) (w : World) :
    Calls Tryd.prog 32 #[.int .i64 a, .int .i64 b] w fun e w' => e = .returned (.int .i64 (a / b)) ∧ ∃ n, w' = w.drewN n := by
  have D := Lib.hid (fun W => pfloor_any a b ha ha' hb hb' W)
  go_enter Tryd.func32, Tryd.ntmps32
  go_wp2_with fail
  refine (D.out _).mono ?_
  rintro _ w1 ⟨rfl, n, rfl⟩
  go_wp2
  go_ret
  exact ⟨rfl, n, rfl⟩

set_option maxHeartbeats 1000000 in
theorem padjust_any (b : Nat) (c : Pl.LC) (s : Pl.LS) (n : Int) (w : World) (hk : Blk w b 46 (lvA c s)) (hl : 1 ≤ c.lim) (hl2 : c.lim ≤ 500000) (hf : -c.lim ≤ s.f) (hf2 : s.f ≤ c.lim) (hn : -4611686018427387904 ≤ n) (hn2 : n ≤ 4611686018427387904) :
    Calls Tryd.prog 31 #[.pointer (some ⟨b, 0, none⟩), .int .i64 n] w fun e w' => e = .returned (.tuple #[]) ∧ LeftP b c ⟨s.st, Pl.adj c s.f n, s.p, s.kn, s.at_, s.po, s.sp⟩ w w' := by
  obtain ⟨⟨k0, k1, k2, k3, k4⟩, k5, k6, k7, k8, k9, k10, k11⟩ := lv_cells hk
  have kz := hk.lt
  have f6 := hk.frozen 6
  have kw1 : IntKind.i64.wrap (s.f + n) = s.f + n := IntWalk.i64_in _ (by omega)
  have kw2 : IntKind.i64.wrap (-c.lim) = -c.lim := IntWalk.i64_in _ (by omega)
  have C := Lib.hid (fun W => pclamp_any (s.f + n) (-c.lim) c.lim (by omega) W)
  have HK := Lib.hid hk
  unfold Pl.adj
  obtain ⟨X, hX⟩ : ∃ X, Pl.clampL (s.f + n) (-c.lim) c.lim = X := ⟨_, rfl⟩
  rw [hX] at C ⊢
  clear hX hk
  go_enter Tryd.func31, Tryd.ntmps31
  go_wp2_with fail
  go_region_with (go_at_call 38; refine (C.out _).mono ?_; rintro _ w1 ⟨rfl, rfl⟩)
  all_goals (
    go_wp2_with fail
    go_end0
    refine ⟨rfl, ?_, ?_⟩
    · have := (HK.out.set_ 6 (.int .i64 X)).drew
      exact this
    · have k1 := only_setCell (only_refl w (some b)) (p := ⟨b, 6, none⟩) (.inl rfl) (.int .i64 X)
      exact only_drew k1)
end Go.Proofs.YtdjfbghdnkjdoaaDoor
