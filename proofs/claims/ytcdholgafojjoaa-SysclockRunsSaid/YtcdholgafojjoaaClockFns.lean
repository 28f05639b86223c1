/- Contracts of the clock's closures, of Freq, Slew, Step, Pending, Of, New, State. -/
import Derived.Test.YtcdholgafojjoaaClockCh
namespace Go.Proofs.Ytcdholgafojjoaa
open Go.RowKit Go.Lib

theorem leftC_box {b : Nat} {n : Pl.CS} {w w' : World} {o : Obj} (h : LeftC b n (w.alloc o) w') : LeftC b n w w' := ⟨h.1, only_trans (only_alloc (only_refl _ _) _) h.2⟩

theorem cfreq1 (g q : Nat) (m : Pl.CS) (ppb : Int) (W : World) (hg : Blk W g 23 (csA m)) (hq : Blk W q 3 #[.int .i64 ppb]) :
    Calls Try.prog 35 #[.pointer (some ⟨g, 0, none⟩), .pointer (some ⟨q, 0, none⟩)] W fun e W' => e = .returned (.int .i64 0) ∧ Blk W' g 23 (csA (Pl.withPPB m ppb)) ∧ W.grownBy W' (some g) := by
  have c0 : W.cell? ⟨q, 0, none⟩ = some (.int .i64 ppb) := hq.cell 0
  have cz := hq.lt
  have f2 := hg.frozen 2
  have gz := hg.lt
  have c2 : W.cell? ⟨g, 2, none⟩ = some (.int .i64 m.ppb) := hg.cell 2
  have HG := Lib.hid hg
  clear hg hq
  go_enter Try.func35, Try.ntmps35
  go_wp2
  go_ret
  exact ⟨rfl, HG.out.set_ 2 _, only_setCell (only_refl _ _) (.inl rfl) _⟩

/-- what the closures' stores leave -/
theorem slew_set0 {W : World} {g : Nat} {m : Pl.CS} (hg : Blk W g 23 (csA m)) (d r : Int) :
    Blk (((W.setCell ⟨g, 3, none⟩ (.int .i64 d)).setCell ⟨g, 4, none⟩ (.int .i64 r)).setCell ⟨g, 4, none⟩ (.int .i64 0)).drew g 23 (csA ⟨m.raw, m.time, m.ppb, d, 0, m.steps⟩) ∧ W.grownBy (((W.setCell ⟨g, 3, none⟩ (.int .i64 d)).setCell ⟨g, 4, none⟩ (.int .i64 r)).setCell ⟨g, 4, none⟩ (.int .i64 0)).drew (some g) := by
  refine ⟨?_, ?_⟩
  · have := (((hg.set_ 3 (.int .i64 d)).set_ 4 (.int .i64 r)).set_ 4 (.int .i64 0)).drew
    exact this
  · have k1 := only_setCell (only_refl W (some g)) (p := ⟨g, 3, none⟩) (.inl rfl) (.int .i64 d)
    have k2 := only_setCell k1 (p := ⟨g, 4, none⟩) (.inl rfl) (.int .i64 r)
    have k3 := only_setCell k2 (p := ⟨g, 4, none⟩) (.inl rfl) (.int .i64 0)
    exact only_drew k3
theorem slew_set1 {W : World} {g : Nat} {m : Pl.CS} (hg : Blk W g 23 (csA m)) (d r : Int) :
    Blk ((W.setCell ⟨g, 3, none⟩ (.int .i64 d)).setCell ⟨g, 4, none⟩ (.int .i64 r)).drew g 23 (csA ⟨m.raw, m.time, m.ppb, d, r, m.steps⟩) ∧ W.grownBy ((W.setCell ⟨g, 3, none⟩ (.int .i64 d)).setCell ⟨g, 4, none⟩ (.int .i64 r)).drew (some g) := by
  refine ⟨?_, ?_⟩
  · have := ((hg.set_ 3 (.int .i64 d)).set_ 4 (.int .i64 r)).drew
    exact this
  · have k1 := only_setCell (only_refl W (some g)) (p := ⟨g, 3, none⟩) (.inl rfl) (.int .i64 d)
    have k2 := only_setCell k1 (p := ⟨g, 4, none⟩) (.inl rfl) (.int .i64 r)
    exact only_drew k2

theorem step_set {W : World} {g : Nat} {m : Pl.CS} (hg : Blk W g 23 (csA m)) (d : Int) :
    Blk ((((W.setCell ⟨g, 1, none⟩ (.int .i64 (m.time + d))).setCell ⟨g, 3, none⟩ (.int .i64 0)).setCell ⟨g, 4, none⟩ (.int .i64 0)).setCell ⟨g, 5, none⟩ (.int .i64 (m.steps + 1))).drew.drew g 23 (csA (Pl.withStep m d)) ∧ W.grownBy ((((W.setCell ⟨g, 1, none⟩ (.int .i64 (m.time + d))).setCell ⟨g, 3, none⟩ (.int .i64 0)).setCell ⟨g, 4, none⟩ (.int .i64 0)).setCell ⟨g, 5, none⟩ (.int .i64 (m.steps + 1))).drew.drew (some g) := by
  refine ⟨?_, ?_⟩
  · have := ((((hg.set_ 1 (.int .i64 (m.time + d))).set_ 3 (.int .i64 0)).set_ 4 (.int .i64 0)).set_ 5 (.int .i64 (m.steps + 1))).drew.drew
    exact this
  · have k1 := only_setCell (only_refl W (some g)) (p := ⟨g, 1, none⟩) (.inl rfl) (.int .i64 (m.time + d))
    have k2 := only_setCell k1 (p := ⟨g, 3, none⟩) (.inl rfl) (.int .i64 0)
    have k3 := only_setCell k2 (p := ⟨g, 4, none⟩) (.inl rfl) (.int .i64 0)
    have k4 := only_setCell k3 (p := ⟨g, 5, none⟩) (.inl rfl) (.int .i64 (m.steps + 1))
    exact only_drew (only_drew k4)

theorem cslew1 (g q p : Nat) (m : Pl.CS) (delta rate : Int) (W : World) (hg : Blk W g 23 (csA m)) (hq : Blk W q 3 #[.int .i64 delta]) (hp : Blk W p 3 #[.int .i64 rate]) (hgq : g ≠ q) (hgp : g ≠ p) :
    Calls Try.prog 36 #[.pointer (some ⟨g, 0, none⟩), .pointer (some ⟨q, 0, none⟩), .pointer (some ⟨p, 0, none⟩)] W fun e W' => e = .returned (.int .i64 0) ∧ Blk W' g 23 (csA (Pl.withSlew m delta rate)) ∧ W.grownBy W' (some g) := by
  have c0 : W.cell? ⟨q, 0, none⟩ = some (.int .i64 delta) := hq.cell 0
  have d0 : W.cell? ⟨p, 0, none⟩ = some (.int .i64 rate) := hp.cell 0
  have cz := hq.lt
  have dz := hp.lt
  have f3 := hg.frozen 3
  have f4 := hg.frozen 4
  have gz := hg.lt
  have c3 : W.cell? ⟨g, 3, none⟩ = some (.int .i64 m.left) := hg.cell 3
  have c4 : W.cell? ⟨g, 4, none⟩ = some (.int .i64 m.rate) := hg.cell 4
  have hqg := Ne.symm hgq
  have hpg := Ne.symm hgp
  have HG := Lib.hid hg
  unfold Pl.withSlew
  clear hg hq hp
  by_cases hd : delta = 0
  · have t : (delta == 0) = true := by simp [hd]
    rw [if_pos hd]
    clear hd
    go_enter Try.func36, Try.ntmps36
    go_wp2
    go_region_held3 (fun w' => w'.cell? ⟨q, 0, none⟩ = some (.int .i64 delta) ∧ w'.cell? ⟨p, 0, none⟩ = some (.int .i64 rate)) (go_keep) ((fail))
    all_goals go_wp2
    all_goals go_ret
    exact ⟨rfl, slew_set0 HG.out _ _⟩
  · have t : (delta == 0) = false := by simp [hd]
    rw [if_neg hd]
    clear hd
    go_enter Try.func36, Try.ntmps36
    go_wp2
    go_region_held3 (fun w' => w'.cell? ⟨q, 0, none⟩ = some (.int .i64 delta) ∧ w'.cell? ⟨p, 0, none⟩ = some (.int .i64 rate)) (go_keep) ((fail))
    all_goals go_wp2
    all_goals go_ret
    exact ⟨rfl, slew_set1 HG.out _ _⟩

theorem cstep1 (g q : Nat) (m : Pl.CS) (delta : Int) (W : World) (hm : m.ok = true) (hs : m.steps ≤ 9223372036854775807) (hd : Pl.inn delta 4503599627370496 = true) (hg : Blk W g 23 (csA m)) (hq : Blk W q 3 #[.int .i64 delta]) (hgq : g ≠ q) :
    Calls Try.prog 38 #[.pointer (some ⟨g, 0, none⟩), .pointer (some ⟨q, 0, none⟩)] W fun e W' => e = .returned (.int .i64 (Pl.stpE m delta)) ∧ Blk W' g 23 (csA (if Pl.stpE m delta = 0 then Pl.withStep m delta else m)) ∧ W.grownBy W' (some g) := by
  have c0 : W.cell? ⟨q, 0, none⟩ = some (.int .i64 delta) := hq.cell 0
  have cz := hq.lt
  obtain ⟨k0, k1, k2, k3, k4, k5⟩ := cs_cells hg
  have f1 := hg.frozen 1
  have f3 := hg.frozen 3
  have f4 := hg.frozen 4
  have f5 := hg.frozen 5
  have gz := hg.lt
  have hqg := Ne.symm hgq
  have hd' := Pl.inn_iff.1 hd
  obtain ⟨_, ht, _, _, _, _, _, hs0⟩ := Pl.CS.ok_iff.1 hm
  have kw : IntKind.i64.wrap (m.time + delta) = m.time + delta := IntWalk.i64_in _ (by omega)
  have WI := fun W => cwithin_any (m.time + delta) 4503599627370496 W (by omega) (by omega)
  have HG := Lib.hid hg
  unfold Pl.stpE
  clear hg hq hm hd
  cases hi : Pl.inn (m.time + delta) 4503599627370496 with
  | false =>
    rw [hi] at WI
    have WI := Lib.hid WI
    simp only [Bool.false_eq_true, if_false, show ¬ (3 : Int) = 0 by omega]
    clear hi
    go_enter Try.func38, Try.ntmps38
    go_wp2_with fail
    go_region_held3 (fun w' => w'.cell? ⟨q, 0, none⟩ = some (.int .i64 delta) ∧ w'.cell? ⟨g, 1, none⟩ = some (.int .i64 m.time)) (first | exact ⟨c0, k1⟩ | go_keep) ((go_at_call 33; refine (WI.out _).mono ?_; rintro _ w1 ⟨rfl, rfl⟩))
    all_goals go_wp2
    all_goals (go_ret; exact ⟨rfl, HG.out.drew, only_drew (only_refl _ _)⟩)
  | true =>
    rw [hi] at WI
    have WI := Lib.hid WI
    by_cases h5 : m.steps = 9223372036854775807
    · simp only [if_true, if_pos h5, show ¬ (4 : Int) = 0 by omega, if_false]
      have t : (m.steps == 9223372036854775807) = true := by simp [h5]
      clear hi h5
      go_enter Try.func38, Try.ntmps38
      go_wp2_with fail
      go_region_held3 (fun w' => w'.cell? ⟨q, 0, none⟩ = some (.int .i64 delta) ∧ w'.cell? ⟨g, 1, none⟩ = some (.int .i64 m.time)) (first | exact ⟨c0, k1⟩ | go_keep) ((go_at_call 33; refine (WI.out _).mono ?_; rintro _ w1 ⟨rfl, rfl⟩))
      all_goals go_wp2
      all_goals (go_ret; exact ⟨rfl, HG.out.drew, only_drew (only_refl _ _)⟩)
    · simp only [if_true, if_neg h5]
      have t : (m.steps == 9223372036854775807) = false := by simp [h5]
      have kw2 : IntKind.i64.wrap (m.steps + 1) = m.steps + 1 := IntWalk.i64_in _ (by omega)
      clear hi h5
      go_enter Try.func38, Try.ntmps38
      go_wp2_with fail
      go_region_held3 (fun w' => w'.cell? ⟨q, 0, none⟩ = some (.int .i64 delta) ∧ w'.cell? ⟨g, 1, none⟩ = some (.int .i64 m.time)) (first | exact ⟨c0, k1⟩ | go_keep) ((go_at_call 33; refine (WI.out _).mono ?_; rintro _ w1 ⟨rfl, rfl⟩))
      all_goals (
        go_wp2_with fail
        go_region_with fail
        all_goals (go_wp2_with fail; go_ret; exact ⟨rfl, step_set HG.out _⟩))
end Go.Proofs.Ytcdholgafojjoaa
