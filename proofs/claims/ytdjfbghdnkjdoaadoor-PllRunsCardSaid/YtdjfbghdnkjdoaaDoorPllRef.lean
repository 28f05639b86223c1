/- Contracts of the reference's loop: floor, steer, step, large, phase, small, New. -/
import Derived.Test.YtdjfbghdnkjdoaaDoorPllChecks
import Derived.Deep.QuietTactic
import Derived.BigQuiet
namespace Go.Proofs.YtdjfbghdnkjdoaaDoor
namespace Pl
/-- what the reference's loop holds besides: its spike's time, its action -/
structure RX where
  x : Int
  k : Int
  v : Int
def rpo (c : LC) (s : LS) : Int := if s.kn = true then s.po else c.lo
theorem phase_eq {o m d : Int} (hd : 0 < d) : o / d * m + (o - o / d * d) * m / d = o * m / d := by
  have e : o * m = (o - o / d * d) * m + d * (o / d * m) := by
    rw [Int.sub_mul, ← Int.mul_assoc, Int.mul_comm d (o / d)]
    omega
  rw [e, Int.add_mul_ediv_left _ _ (by omega), Int.add_comm]
end Pl
open Go.RowKit Go.Lib

abbrev rvA (c : Pl.LC) (s : Pl.LS) (X : Pl.RX) : Array Value := #[.int .i64 c.lo, .int .i64 c.hi, .int .i64 c.sa, .int .i64 c.so, .int .i64 c.lim, .int .i64 s.st, .int .i64 s.f, .int .i64 s.p, .bool s.kn, .int .i64 s.at_, .int .i64 (Pl.rpo c s), .int .i64 X.x, .int .i64 X.k, .int .i64 X.v]
def LeftR (b : Nat) (c : Pl.LC) (s : Pl.LS) (X : Pl.RX) (w w' : World) : Prop := Blk w' b 50 (rvA c s X) ∧ w.grownBy w' (some b)
section
variable {w W W' : World} {b : Nat} {c : Pl.LC} {s s' : Pl.LS} {X X' : Pl.RX}
theorem leftR_refl (h : Blk w b 50 (rvA c s X)) : LeftR b c s X w w := ⟨h, only_refl _ _⟩
theorem LeftR.trans (h : LeftR b c s X w W) (k : LeftR b c s' X' W W') : LeftR b c s' X' w W' := ⟨k.1, only_trans h.2 k.2⟩
theorem leftR_below (h : Blk w b 50 (rvA c s X)) (k : Below w.heap.size w W) : LeftR b c s X w W := ⟨h.below_ k, only_of_below k _⟩
theorem LeftR.alloc (h : LeftR b c s X w W) (o : Obj) : LeftR b c s X w (W.alloc o) := ⟨h.1.alloc o, only_alloc h.2 o⟩
theorem LeftR.drew (h : LeftR b c s X w W) : LeftR b c s X w W.drew := ⟨h.1.drew, only_drew h.2⟩
theorem LeftR.drewN (h : LeftR b c s X w W) (n : Nat) : LeftR b c s X w (W.drewN n) := ⟨h.1.drewN n, only_drewN h.2 n⟩
theorem leftR_box {o : Obj} (h : LeftR b c s X (w.alloc o) W) : LeftR b c s X w W := ⟨h.1, only_trans (only_alloc (only_refl _ _) _) h.2⟩
theorem rv_cells (h : Blk w b 50 (rvA c s X)) :
    (w.cell? ⟨b, 0, none⟩ = some (.int .i64 c.lo) ∧ w.cell? ⟨b, 1, none⟩ = some (.int .i64 c.hi) ∧ w.cell? ⟨b, 2, none⟩ = some (.int .i64 c.sa) ∧ w.cell? ⟨b, 3, none⟩ = some (.int .i64 c.so) ∧ w.cell? ⟨b, 4, none⟩ = some (.int .i64 c.lim)) ∧
    w.cell? ⟨b, 5, none⟩ = some (.int .i64 s.st) ∧ w.cell? ⟨b, 6, none⟩ = some (.int .i64 s.f) ∧ w.cell? ⟨b, 7, none⟩ = some (.int .i64 s.p) ∧ w.cell? ⟨b, 8, none⟩ = some (.bool s.kn) ∧ w.cell? ⟨b, 9, none⟩ = some (.int .i64 s.at_) ∧ w.cell? ⟨b, 10, none⟩ = some (.int .i64 (Pl.rpo c s)) ∧ w.cell? ⟨b, 11, none⟩ = some (.int .i64 X.x) ∧ w.cell? ⟨b, 12, none⟩ = some (.int .i64 X.k) ∧ w.cell? ⟨b, 13, none⟩ = some (.int .i64 X.v) :=
  ⟨⟨h.cell 0, h.cell 1, h.cell 2, h.cell 3, h.cell 4⟩, h.cell 5, h.cell 6, h.cell 7, h.cell 8, h.cell 9, h.cell 10, h.cell 11, h.cell 12, h.cell 13⟩
end

theorem rfloor13_any (a b : Int) (ha : -9223372036854775807 ≤ a) (ha' : a ≤ 9223372036854775807) (hb : 0 < b) (hb' : b ≤ 9223372036854775807) (w : World) :
    Calls Tryd.prog 36 #[.int .i64 a, .int .i64 b] w fun e w' => e = .returned (.int .i64 (a / b)) ∧ w = w' := by
  have t0 : (b == 0) = false := by simp; omega
  have hq := Pl.tdiv_le a b hb
  have hr := Pl.tmod_in (a := a) hb
  have hq2 : -9223372036854775807 ≤ a.tdiv b ∧ a.tdiv b ≤ 9223372036854775807 := by
    rcases Int.le_total 0 a with q | q
    · have := hq.1 q; omega
    · have := hq.2 q; omega
  have kw1 : IntKind.i64.wrap (a.tdiv b) = a.tdiv b := IntWalk.i64_in _ (by omega)
  have kw2 : IntKind.i64.wrap (a.tmod b) = a.tmod b := IntWalk.i64_in _ (by omega)
  have f := Pl.floor_tdiv (a := a) hb
  by_cases c : a.tmod b < 0
  · rw [if_pos c] at f
    rw [f]
    have t : decide (a.tmod b < 0) = true := by simp [c]
    have lo := Pl.floor_in (a := a) (b := b) (K := 9223372036854775807) hb (by omega) (by omega) (by omega)
    rw [f] at lo
    have kw3 : IntKind.i64.wrap (a.tdiv b - 1) = a.tdiv b - 1 := IntWalk.i64_in _ (by omega)
    clear f hq hr
    go_enter Tryd.func36, Tryd.ntmps36
    go_wp2
    go_ret
    exact ⟨rfl, rfl⟩
  · rw [if_neg c] at f
    rw [f]
    have t : decide (a.tmod b < 0) = false := by simp; omega
    clear f hq hr
    go_enter Tryd.func36, Tryd.ntmps36
    go_wp2
    go_ret
    exact ⟨rfl, rfl⟩

theorem rset {W : World} {b : Nat} {c : Pl.LC} {s : Pl.LS} {X : Pl.RX} (hk : Blk W b 50 (rvA c s X)) (f : Int) : LeftR b c ⟨s.st, f, s.p, s.kn, s.at_, s.po, s.sp⟩ X W (W.setCell ⟨b, 6, none⟩ (.int .i64 f)) :=
  ⟨hk.set_ 6 (.int .i64 f), only_setCell (only_refl W (some b)) (p := ⟨b, 6, none⟩) (.inl rfl) (.int .i64 f)⟩
set_option maxHeartbeats 4000000 in
theorem rsteer_any (b : Nat) (c : Pl.LC) (s : Pl.LS) (X : Pl.RX) (n : Int) (w : World) (hk : Blk w b 50 (rvA c s X)) (hl : 1 ≤ c.lim) (hl2 : c.lim ≤ 500000) (hf : -500000 ≤ s.f) (hf2 : s.f ≤ 500000) (hn : -4611686018427387904 ≤ n) (hn2 : n ≤ 4611686018427387904) :
    Calls Tryd.prog 35 #[.pointer (some ⟨b, 0, none⟩), .int .i64 n] w fun e w' => e = .returned (.tuple #[]) ∧ LeftR b c ⟨s.st, Pl.adj c s.f n, s.p, s.kn, s.at_, s.po, s.sp⟩ X w w' := by
  obtain ⟨⟨k0, k1, k2, k3, k4⟩, k5, k6, k7, k8, k9, k10, k11, k12, k13⟩ := rv_cells hk
  have kz := hk.lt
  have f6 := hk.frozen 6
  have HK := Lib.hid hk
  have kw1 : IntKind.i64.wrap (s.f + n) = s.f + n := IntWalk.i64_in _ (by omega)
  have kw2 : IntKind.i64.wrap (-c.lim) = -c.lim := IntWalk.i64_in _ (by omega)
  have e : Pl.adj c s.f n = max (-c.lim) (min c.lim (s.f + n)) := by unfold Pl.adj Pl.clampL; omega
  rw [e]
  clear e hk
  go_enter Tryd.func35, Tryd.ntmps35
  obtain ⟨V, hV⟩ : ∃ V, max (-c.lim) (min c.lim (s.f + n)) = V := ⟨_, rfl⟩
  rw [hV]
  go_region_with fail
  all_goals (
    go_wp2_with fail
    go_end0
    have q := (rset HK.out V).drew
    exact ⟨rfl, q⟩)
theorem rset_step {W : World} {b : Nat} {c : Pl.LC} {s : Pl.LS} {X : Pl.RX} (hk : Blk W b 50 (rvA c s X)) (st k v : Int) : LeftR b c ⟨st, s.f, 0, s.kn, s.at_, s.po, s.sp⟩ ⟨X.x, k, v⟩ W ((((W.setCell ⟨b, 7, none⟩ (.int .i64 0)).setCell ⟨b, 5, none⟩ (.int .i64 st)).setCell ⟨b, 12, none⟩ (.int .i64 k)).setCell ⟨b, 13, none⟩ (.int .i64 v)) :=
  ⟨(((hk.set_ 7 (.int .i64 0)).set_ 5 (.int .i64 st)).set_ 12 (.int .i64 k)).set_ 13 (.int .i64 v),
   only_setCell (only_setCell (only_setCell (only_setCell (only_refl W (some b)) (p := ⟨b, 7, none⟩) (.inl rfl) _) (p := ⟨b, 5, none⟩) (.inl rfl) _) (p := ⟨b, 12, none⟩) (.inl rfl) _) (p := ⟨b, 13, none⟩) (.inl rfl) _⟩
theorem rstep_any (b : Nat) (c : Pl.LC) (s : Pl.LS) (X : Pl.RX) (o st : Int) (w : World) (hk : Blk w b 50 (rvA c s X)) :
    Calls Tryd.prog 34 #[.pointer (some ⟨b, 0, none⟩), .int .i64 o, .int .i64 st] w fun e w' => e = .returned (.tuple #[]) ∧ LeftR b c ⟨st, s.f, 0, s.kn, s.at_, s.po, s.sp⟩ ⟨X.x, 2, o⟩ w w' := by
  obtain ⟨⟨k0, k1, k2, k3, k4⟩, k5, k6, k7, k8, k9, k10, k11, k12, k13⟩ := rv_cells hk
  have kz := hk.lt
  have f5 := hk.frozen 5
  have f7 := hk.frozen 7
  have f12 := hk.frozen 12
  have f13 := hk.frozen 13
  have HK := Lib.hid hk
  clear hk
  go_enter Tryd.func34, Tryd.ntmps34
  go_wp2
  go_end0
  exact ⟨rfl, rset_step HK.out st 2 o⟩
theorem rsp_set {W : World} {b : Nat} {c : Pl.LC} {s : Pl.LS} {X : Pl.RX} (hk : Blk W b 50 (rvA c s X)) (st x : Int) : LeftR b c ⟨st, s.f, s.p, s.kn, s.at_, s.po, s.sp⟩ ⟨x, X.k, X.v⟩ W ((W.setCell ⟨b, 5, none⟩ (.int .i64 st)).setCell ⟨b, 11, none⟩ (.int .i64 x)) :=
  ⟨(hk.set_ 5 (.int .i64 st)).set_ 11 (.int .i64 x), only_setCell (only_setCell (only_refl W (some b)) (p := ⟨b, 5, none⟩) (.inl rfl) _) (p := ⟨b, 11, none⟩) (.inl rfl) _⟩
/-- the spike's time, and the action, behind a large update -/
def rlgX (c : Pl.LC) (s : Pl.LS) (X : Pl.RX) (t o m : Int) : Pl.RX :=
  if s.st = 0 then ⟨X.x, 2, o⟩ else if s.st = 1 then (if m < c.so then X else ⟨X.x, 2, o⟩) else if s.st = 3 then ⟨t, X.k, X.v⟩ else if t - X.x < c.so then X else ⟨X.x, 2, o⟩
def rlgS (c : Pl.LC) (s : Pl.LS) (X : Pl.RX) (t o m : Int) : Pl.LS :=
  if s.st = 0 then ⟨1, s.f, 0, s.kn, s.at_, s.po, s.sp⟩ else if s.st = 1 then (if m < c.so then s else ⟨3, Pl.adj c s.f (o / m), 0, s.kn, s.at_, s.po, s.sp⟩) else if s.st = 3 then ⟨2, s.f, s.p, s.kn, s.at_, s.po, s.sp⟩ else if t - X.x < c.so then s else ⟨3, s.f, 0, s.kn, s.at_, s.po, s.sp⟩
set_option maxHeartbeats 1000000 in
theorem rlarge_any (b : Nat) (c : Pl.LC) (s : Pl.LS) (X : Pl.RX) (t o m : Int) (w : World) (hk : Blk w b 50 (rvA c s X)) (hc : c.err = 0) (hi : Pl.LInv c s) (hx : -1073741824 ≤ X.x ∧ X.x ≤ 1073741824) (ht : 0 ≤ t) (ht2 : t ≤ 1073741824) (ho : -1125899906842624 ≤ o) (ho2 : o ≤ 1125899906842624) (hm : s.st = 1 → 1 ≤ m) (hm2 : m ≤ 1073741824) :
    Calls Tryd.prog 29 #[.pointer (some ⟨b, 0, none⟩), .int .i64 t, .int .i64 o, .int .i64 m] w fun e w' => e = .returned (.bool (!(decide (s.st = 1) && decide (m < c.so)))) ∧ LeftR b c (rlgS c s X t o m) (rlgX c s X t o m) w w' := by
  have hok := Pl.LC.ok hc
  obtain ⟨i1, i2, i3, i4, i5, i6⟩ := hi
  obtain ⟨⟨k0, k1, k2, k3, k4⟩, k5, k6, k7, k8, k9, k10, k11, k12, k13⟩ := rv_cells hk
  have kz := hk.lt
  have f5 := hk.frozen 5
  have f11 := hk.frozen 11
  have HK := Lib.hid hk
  unfold rlgS rlgX
  clear i4 i5 k12 k13
  by_cases c0 : s.st = 0
  · simp only [if_pos c0]
    have t0 : (s.st == 0) = true := by simp [c0]
    have te : decide (s.st = 1) = false := by simp [c0]
    rw [te]
    have ST := Lib.hid (fun W h => rstep_any b c s X o 1 W h)
    clear c0 hk te
    go_enter Tryd.func29, Tryd.ntmps29
    go_wp2_with fail
    refine (ST.out _ HK.out).mono ?_
    rintro _ w1 ⟨rfl, l1⟩
    go_wp2
    go_ret
    exact ⟨rfl, l1⟩
  · simp only [if_neg c0]
    have t0 : (s.st == 0) = false := by simp [c0]
    by_cases c1 : s.st = 1
    · simp only [if_pos c1]
      have t1 : (s.st == 1) = true := by simp [c1]
      have te : decide (s.st = 1) = true := by simp [c1]
      rw [te]
      by_cases cm : m < c.so
      · simp only [if_pos cm]
        have tm : decide (m < c.so) = true := by simp [cm]
        clear c0 c1 hk te cm
        go_enter Tryd.func29, Tryd.ntmps29
        go_wp2
        go_ret
        exact ⟨by rw [tm]; rfl, leftR_refl HK.out⟩
      · simp only [if_neg cm]
        have tm : decide (m < c.so) = false := by simp; omega
        have hm1 := hm c1
        have Q := Lib.hid (fun W => rfloor13_any o m (by omega) (by omega) (by omega) (by omega) W)
        have qb := Pl.floor_in (a := o) (b := m) (K := 1125899906842624) (by omega) ho ho2 (by omega)
        have SR := Lib.hid (fun W h => rsteer_any b c s X (o / m) W h (by omega) (by omega) (by omega) (by omega) (by omega) (by omega))
        have ST := Lib.hid (fun W h => rstep_any b c ⟨s.st, Pl.adj c s.f (o / m), s.p, s.kn, s.at_, s.po, s.sp⟩ X o 3 W h)
        obtain ⟨V, hV⟩ : ∃ X, o / m = X := ⟨_, rfl⟩
        rw [hV] at Q SR ST ⊢
        clear c0 c1 hk hV qb hm cm te
        go_enter Tryd.func29, Tryd.ntmps29
        go_wp2_with fail
        refine (Q.out _).mono ?_
        rintro _ w1 ⟨rfl, rfl⟩
        go_wp2_with fail
        refine (SR.out _ HK.out).mono ?_
        rintro _ w2 ⟨rfl, l2⟩
        go_wp2_with fail
        refine (ST.out _ l2.1).mono ?_
        rintro _ w3 ⟨rfl, l3⟩
        go_wp2
        go_ret
        exact ⟨by rw [tm]; rfl, l2.trans l3⟩
    · simp only [if_neg c1]
      have t1 : (s.st == 1) = false := by simp [c1]
      have te : decide (s.st = 1) = false := by simp [c1]
      rw [te]
      by_cases c3 : s.st = 3
      · simp only [if_pos c3]
        have t3 : (s.st == 3) = true := by simp [c3]
        clear c0 c1 c3 hk hm te
        go_enter Tryd.func29, Tryd.ntmps29
        go_wp2
        go_ret
        exact ⟨rfl, rsp_set HK.out 2 t⟩
      · simp only [if_neg c3]
        have c2 : s.st = 2 := by omega
        have t3 : (s.st == 3) = false := by simp [c3]
        have t2 : (s.st == 2) = true := by simp [c2]
        have kw : IntKind.i64.wrap (t - X.x) = t - X.x := IntWalk.i64_in _ (by omega)
        by_cases cs : t - X.x < c.so
        · simp only [if_pos cs]
          have tt : decide (c.so ≤ t - X.x) = false := by simp; omega
          clear c0 c1 c3 hk hm c2 te
          go_enter Tryd.func29, Tryd.ntmps29
          go_wp2_with fail
          go_quiet (fail)
          go_wp2
          go_ret
          exact ⟨rfl, (leftR_refl HK.out).drewN _⟩
        · simp only [if_neg cs]
          have tt : decide (c.so ≤ t - X.x) = true := by simp; omega
          have ST := Lib.hid (fun W h => rstep_any b c s X o 3 W h)
          clear c0 c1 c3 hk hm c2 te
          go_enter Tryd.func29, Tryd.ntmps29
          go_wp2_with fail
          go_quiet (fail)
          go_wp2_with fail
          refine (ST.out _ (HK.out.drewN _)).mono ?_
          rintro _ w1 ⟨rfl, l1⟩
          go_wp2
          go_ret
          exact ⟨rfl, ((leftR_refl HK.out).drewN _).trans l1⟩
end Go.Proofs.YtdjfbghdnkjdoaaDoor
