/- Contracts of change with its closures, and of the clock's methods. -/
import Derived.Test.YtcdholgafojjoaaClockMoved
import Derived.Deep.RegionHeld3
namespace Go.Proofs.Ytcdholgafojjoaa
namespace Pl
def freqE (s : CS) (raw ppb : Int) : Int := if inn ppb 500000 = true then nowE s raw else 3
def withPPB (s : CS) (ppb : Int) : CS := ⟨s.raw, s.time, ppb, s.left, s.rate, s.steps⟩
def freqS (s : CS) (raw ppb : Int) : CS := if freqE s raw ppb = 0 then withPPB (moved s raw) ppb else s
def slewOk (delta rate : Int) : Bool := inn delta 4503599627370496 && decide (1 ≤ rate) && decide (rate ≤ 500000)
def slewE (s : CS) (raw delta rate : Int) : Int := if slewOk delta rate = true then nowE s raw else 3
def withSlew (s : CS) (delta rate : Int) : CS := ⟨s.raw, s.time, s.ppb, delta, if delta = 0 then 0 else rate, s.steps⟩
def slewS (s : CS) (raw delta rate : Int) : CS := if slewE s raw delta rate = 0 then withSlew (moved s raw) delta rate else s
/-- what the closure of Step returns of a moved state -/
def stpE (s : CS) (delta : Int) : Int := if inn (s.time + delta) 4503599627370496 = true then (if s.steps = 9223372036854775807 then 4 else 0) else 3
def withStep (s : CS) (delta : Int) : CS := ⟨s.raw, s.time + delta, s.ppb, 0, 0, s.steps + 1⟩
def stepE (s : CS) (raw delta : Int) : Int := if inn delta 4503599627370496 = true then (if nowE s raw = 0 then stpE (moved s raw) delta else nowE s raw) else 3
def stepS (s : CS) (raw delta : Int) : CS := if stepE s raw delta = 0 then withStep (moved s raw) delta else s
def pend (s : CS) (raw : Int) : Int := if nowE s raw = 0 then (moved s raw).left else 0

theorem freq_ok {s : CS} {raw ppb : Int} (h : s.ok = true) : (freqS s raw ppb).ok = true := by
  unfold freqS
  split
  · rename_i e
    unfold freqE at e
    split at e
    · rename_i i
      have := CS.ok_iff.1 (moved_ok h e).1
      have k := inn_iff.1 i
      exact CS.ok_iff.2 ⟨this.1, this.2.1, this.2.2.1, k, this.2.2.2.2⟩
    · omega
  · exact h
theorem slew_ok {s : CS} {raw delta rate : Int} (h : s.ok = true) : (slewS s raw delta rate).ok = true := by
  unfold slewS
  split
  · rename_i e
    unfold slewE at e
    split at e
    · rename_i i
      have := CS.ok_iff.1 (moved_ok h e).1
      simp only [slewOk, Bool.and_eq_true, decide_eq_true_eq] at i
      obtain ⟨⟨i1, i2⟩, i3⟩ := i
      have i1 := inn_iff.1 i1
      refine CS.ok_iff.2 ⟨this.1, this.2.1, i1, this.2.2.2.1, ?_, ?_, ?_, this.2.2.2.2.2.2.2⟩
      · show 0 ≤ (if delta = 0 then 0 else rate); split <;> omega
      · show (if delta = 0 then 0 else rate) ≤ 500000; split <;> omega
      · show delta = 0 ∨ 0 < (if delta = 0 then 0 else rate); by_cases c : delta = 0
        · exact .inl c
        · rw [if_neg c]; omega
    · omega
  · exact h
theorem step_ok {s : CS} {raw delta : Int} (h : s.ok = true) : (stepS s raw delta).ok = true := by
  unfold stepS
  split
  · rename_i e
    unfold stepE at e
    split at e
    · split at e
      · rename_i e2
        have := CS.ok_iff.1 (moved_ok h e2).1
        unfold stpE at e
        split at e
        · rename_i i2
          have i2 := inn_iff.1 i2
          split at e
          · omega
          · refine CS.ok_iff.2 ⟨this.1, i2, by show -4503599627370496 ≤ (0 : Int) ∧ (0 : Int) ≤ 4503599627370496; omega, this.2.2.2.1, by show (0 : Int) ≤ 0; omega, by show (0 : Int) ≤ 500000; omega, .inl rfl, ?_⟩
            have := this.2.2.2.2.2.2.2
            show 0 ≤ (moved s raw).steps + 1
            omega
        · omega
      · omega
    · omega
  · exact h
end Pl
open Go.RowKit Go.Lib

/-- what a change leaves of the clock at b -/
def LeftC (b : Nat) (n : Pl.CS) (w w' : World) : Prop := Blk w' b 51 (csA n) ∧ w.grownBy w' (some b)
section
variable {b : Nat} {n s : Pl.CS} {w W w' : World}
theorem leftC_below (h : Blk w b 51 (csA s)) (k : Below w.heap.size w w') : LeftC b s w w' := ⟨h.below_ k, only_of_below k _⟩
theorem six (h : Blk W b 51 (csA s)) (k : w.grownBy W (some b)) : LeftC b n w ((((((W.setCell ⟨b, 0, none⟩ (.int .i64 n.raw)).setCell ⟨b, 1, none⟩ (.int .i64 n.time)).setCell ⟨b, 2, none⟩ (.int .i64 n.ppb)).setCell ⟨b, 3, none⟩ (.int .i64 n.left)).setCell ⟨b, 4, none⟩ (.int .i64 n.rate)).setCell ⟨b, 5, none⟩ (.int .i64 n.steps)) := by
  refine ⟨?_, ?_⟩
  · have := (((((h.set_ 0 (.int .i64 n.raw)).set_ 1 (.int .i64 n.time)).set_ 2 (.int .i64 n.ppb)).set_ 3 (.int .i64 n.left)).set_ 4 (.int .i64 n.rate)).set_ 5 (.int .i64 n.steps)
    exact this
  · exact only_setCell (only_setCell (only_setCell (only_setCell (only_setCell (only_setCell k (.inl rfl) _) (.inl rfl) _) (.inl rfl) _) (.inl rfl) _) (.inl rfl) _) (.inl rfl) _
end

theorem cnow_at {s : Pl.CS} {raw : Int} (h : s.ok = true) {T E : Int} (hT : Pl.nowT s raw = T) (hE : Pl.nowE s raw = E) (b : Nat) (w : World) (hk : Blk w b 51 (csA s)) :
    Calls Try.prog 20 #[.pointer (some ⟨b, 0, none⟩), .int .i64 raw] w fun e w' => e = .returned (.tuple #[.int .i64 T, .int .i64 E]) ∧ Below w.heap.size w w' := by
  subst hT hE
  exact cnow_any b s raw w hk h

theorem cchange_nil (raw : Int) (r : Bool) (v : Value) (w : World) :
    Calls Try.prog 34 #[.pointer none, .int .i64 raw, .bool r, v] w fun e w' => e = .returned (.int .i64 1) ∧ w = w' := by
  go_enter Try.func34, Try.ntmps34
  go_wp2
  go_ret
  exact ⟨rfl, rfl⟩
theorem cchange_wrong (b : Nat) (s : Pl.CS) (raw : Int) (v : Value) (w : World) (hk : Blk w b 51 (csA s)) :
    Calls Try.prog 34 #[.pointer (some ⟨b, 0, none⟩), .int .i64 raw, .bool false, v] w fun e w' => e = .returned (.int .i64 3) ∧ LeftC b s w w' := by
  have H := Lib.hid (leftC_below hk (Below.refl _ _))
  clear hk
  go_enter Try.func34, Try.ntmps34
  go_wp2
  go_ret
  exact ⟨rfl, H.out⟩
theorem cchange_not (b : Nat) (s : Pl.CS) (raw : Int) (v : Value) (w : World) (hk : Blk w b 51 (csA s)) (h : s.ok = true) (hn : Pl.nowE s raw ≠ 0) :
    Calls Try.prog 34 #[.pointer (some ⟨b, 0, none⟩), .int .i64 raw, .bool true, v] w fun e w' => e = .returned (.int .i64 (Pl.nowE s raw)) ∧ LeftC b s w w' := by
  obtain ⟨T, hT⟩ : ∃ T, Pl.nowT s raw = T := ⟨_, rfl⟩
  obtain ⟨E, hE⟩ : ∃ E, Pl.nowE s raw = E := ⟨_, rfl⟩
  have N := Lib.hid (cnow_at h hT hE b w hk)
  rw [hE] at hn ⊢
  have H := Lib.hid (fun W (k : Below w.heap.size w W) => leftC_below hk k)
  have t : (E == 0) = false := by simp [hn]
  clear hT hE hk h
  go_enter Try.func34, Try.ntmps34
  go_wp2_with fail
  refine N.out.mono ?_
  rintro _ w1 ⟨rfl, b1⟩
  go_wp2
  go_ret
  exact ⟨rfl, H.out _ b1⟩

set_option maxRecDepth 100000 in
theorem cchange_freq (b q : Nat) (s n : Pl.CS) (raw r : Int) (w : World) (hk : Blk w b 51 (csA s)) (h : s.ok = true) (hn : Pl.nowE s raw = 0)
    (HF : ∀ W g, Below w.heap.size w W → w.heap.size ≤ g → Blk W g 23 (csA (Pl.moved s raw)) → Calls Try.prog 35 #[.pointer (some ⟨g, 0, none⟩), .pointer (some ⟨q, 0, none⟩)] W fun e W' => e = .returned (.int .i64 r) ∧ Below w.heap.size w W' ∧ Blk W' g 23 (csA n)) :
    Calls Try.prog 34 #[.pointer (some ⟨b, 0, none⟩), .int .i64 raw, .bool true, .func (.func 35) #[] #[.pointer (some ⟨q, 0, none⟩)]] w fun e w' => e = .returned (.int .i64 r) ∧ LeftC b (if r = 0 then n else s) w w' := by
  obtain ⟨T, hT⟩ : ∃ T, Pl.nowT s raw = T := ⟨_, rfl⟩
  have N := Lib.hid (cnow_at h hT hn b w hk)
  obtain ⟨m1, m2⟩ := Pl.moved_ok h hn
  have hr : raw ≤ 4503599627370496 := (Pl.CS.ok_iff.1 m1).1.2
  have M := Lib.hid (fun W => cmoved_any s raw h m2 hr W)
  obtain ⟨m, hm⟩ : ∃ m, Pl.moved s raw = m := ⟨_, rfl⟩
  rw [hm] at M HF
  have F := Lib.hid HF
  have HK := Lib.hid hk
  clear hT hn m1 m2 hr hm h HF hk
  by_cases hr0 : r = 0
  · subst hr0
    rw [if_pos rfl]
    go_enter Try.func34, Try.ntmps34
    go_wp2_with fail
    refine N.out.mono ?_
    rintro _ w1 ⟨rfl, b1⟩
    have hk1 := HK.out.below_ b1
    obtain ⟨k0, k1, k2, k3, k4, k5⟩ := cs_cells hk1
    have kz := hk1.lt
    go_wp2_with fail
    refine (M.out _).mono ?_
    rintro _ w2 ⟨rfl, b2⟩
    have b3 := bel_on b1 b2
    clear k0 k1 k2 k3 k4 k5 kz hk1 b1 b2
    go_wp2_with fail
    refine (F.out _ _ (bel_more b3 _) b3.size (Blk.new _ _ _)).mono ?_
    rintro _ w3 ⟨rfl, b4, g3⟩
    have hk3 := HK.out.below_ b4
    have HB := Lib.hid b4
    clear b3 b4
    have f0 := hk3.frozen 0
    have f1 := hk3.frozen 1
    have f2 := hk3.frozen 2
    have f3 := hk3.frozen 3
    have f4 := hk3.frozen 4
    have f5 := hk3.frozen 5
    obtain ⟨k0, k1, k2, k3, k4, k5⟩ := cs_cells hk3
    obtain ⟨g0, g1, g2, g4, g5, g6⟩ := cs_cells g3
    have kz := hk3.lt
    have gz := g3.lt
    have HK3 := Lib.hid hk3
    clear hk3 g3
    go_wp2_with fail
    go_ret
    exact ⟨rfl, six HK3.out (only_of_below HB.out _)⟩
  · rw [if_neg hr0]
    have t : (r == 0) = false := by simp [hr0]
    clear hr0
    go_enter Try.func34, Try.ntmps34
    go_wp2_with fail
    refine N.out.mono ?_
    rintro _ w1 ⟨rfl, b1⟩
    have hk1 := HK.out.below_ b1
    obtain ⟨k0, k1, k2, k3, k4, k5⟩ := cs_cells hk1
    have kz := hk1.lt
    go_wp2_with fail
    refine (M.out _).mono ?_
    rintro _ w2 ⟨rfl, b2⟩
    have b3 := bel_on b1 b2
    clear k0 k1 k2 k3 k4 k5 kz hk1 b1 b2
    go_wp2_with fail
    refine (F.out _ _ (bel_more b3 _) b3.size (Blk.new _ _ _)).mono ?_
    rintro _ w3 ⟨rfl, b4, g3⟩
    have hk3 := HK.out.below_ b4
    have HB := Lib.hid b4
    clear b3 b4
    have HK3 := Lib.hid hk3
    clear hk3 g3
    go_wp2_with fail
    go_ret
    exact ⟨rfl, HK3.out, only_of_below HB.out _⟩

set_option maxRecDepth 100000 in
theorem cchange_slew (b q p : Nat) (s n : Pl.CS) (raw r : Int) (w : World) (hk : Blk w b 51 (csA s)) (h : s.ok = true) (hn : Pl.nowE s raw = 0)
    (HF : ∀ W g, Below w.heap.size w W → w.heap.size ≤ g → Blk W g 23 (csA (Pl.moved s raw)) → Calls Try.prog 36 #[.pointer (some ⟨g, 0, none⟩), .pointer (some ⟨q, 0, none⟩), .pointer (some ⟨p, 0, none⟩)] W fun e W' => e = .returned (.int .i64 r) ∧ Below w.heap.size w W' ∧ Blk W' g 23 (csA n)) :
    Calls Try.prog 34 #[.pointer (some ⟨b, 0, none⟩), .int .i64 raw, .bool true, .func (.func 36) #[] #[.pointer (some ⟨q, 0, none⟩), .pointer (some ⟨p, 0, none⟩)]] w fun e w' => e = .returned (.int .i64 r) ∧ LeftC b (if r = 0 then n else s) w w' := by
  obtain ⟨T, hT⟩ : ∃ T, Pl.nowT s raw = T := ⟨_, rfl⟩
  have N := Lib.hid (cnow_at h hT hn b w hk)
  obtain ⟨m1, m2⟩ := Pl.moved_ok h hn
  have hr : raw ≤ 4503599627370496 := (Pl.CS.ok_iff.1 m1).1.2
  have M := Lib.hid (fun W => cmoved_any s raw h m2 hr W)
  obtain ⟨m, hm⟩ : ∃ m, Pl.moved s raw = m := ⟨_, rfl⟩
  rw [hm] at M HF
  have F := Lib.hid HF
  have HK := Lib.hid hk
  clear hT hn m1 m2 hr hm h HF hk
  by_cases hr0 : r = 0
  · subst hr0
    rw [if_pos rfl]
    go_enter Try.func34, Try.ntmps34
    go_wp2_with fail
    refine N.out.mono ?_
    rintro _ w1 ⟨rfl, b1⟩
    have hk1 := HK.out.below_ b1
    obtain ⟨k0, k1, k2, k3, k4, k5⟩ := cs_cells hk1
    have kz := hk1.lt
    go_wp2_with fail
    refine (M.out _).mono ?_
    rintro _ w2 ⟨rfl, b2⟩
    have b3 := bel_on b1 b2
    clear k0 k1 k2 k3 k4 k5 kz hk1 b1 b2
    go_wp2_with fail
    refine (F.out _ _ (bel_more b3 _) b3.size (Blk.new _ _ _)).mono ?_
    rintro _ w3 ⟨rfl, b4, g3⟩
    have hk3 := HK.out.below_ b4
    have HB := Lib.hid b4
    clear b3 b4
    have f0 := hk3.frozen 0
    have f1 := hk3.frozen 1
    have f2 := hk3.frozen 2
    have f3 := hk3.frozen 3
    have f4 := hk3.frozen 4
    have f5 := hk3.frozen 5
    obtain ⟨k0, k1, k2, k3, k4, k5⟩ := cs_cells hk3
    obtain ⟨g0, g1, g2, g4, g5, g6⟩ := cs_cells g3
    have kz := hk3.lt
    have gz := g3.lt
    have HK3 := Lib.hid hk3
    clear hk3 g3
    go_wp2_with fail
    go_ret
    exact ⟨rfl, six HK3.out (only_of_below HB.out _)⟩
  · rw [if_neg hr0]
    have t : (r == 0) = false := by simp [hr0]
    clear hr0
    go_enter Try.func34, Try.ntmps34
    go_wp2_with fail
    refine N.out.mono ?_
    rintro _ w1 ⟨rfl, b1⟩
    have hk1 := HK.out.below_ b1
    obtain ⟨k0, k1, k2, k3, k4, k5⟩ := cs_cells hk1
    have kz := hk1.lt
    go_wp2_with fail
    refine (M.out _).mono ?_
    rintro _ w2 ⟨rfl, b2⟩
    have b3 := bel_on b1 b2
    clear k0 k1 k2 k3 k4 k5 kz hk1 b1 b2
    go_wp2_with fail
    refine (F.out _ _ (bel_more b3 _) b3.size (Blk.new _ _ _)).mono ?_
    rintro _ w3 ⟨rfl, b4, g3⟩
    have hk3 := HK.out.below_ b4
    have HB := Lib.hid b4
    clear b3 b4
    have HK3 := Lib.hid hk3
    clear hk3 g3
    go_wp2_with fail
    go_ret
    exact ⟨rfl, HK3.out, only_of_below HB.out _⟩

set_option maxRecDepth 100000 in
theorem cchange_step (b q : Nat) (s n : Pl.CS) (raw r : Int) (w : World) (hk : Blk w b 51 (csA s)) (h : s.ok = true) (hn : Pl.nowE s raw = 0)
    (HF : ∀ W g, Below w.heap.size w W → w.heap.size ≤ g → Blk W g 23 (csA (Pl.moved s raw)) → Calls Try.prog 38 #[.pointer (some ⟨g, 0, none⟩), .pointer (some ⟨q, 0, none⟩)] W fun e W' => e = .returned (.int .i64 r) ∧ Below w.heap.size w W' ∧ Blk W' g 23 (csA n)) :
    Calls Try.prog 34 #[.pointer (some ⟨b, 0, none⟩), .int .i64 raw, .bool true, .func (.func 38) #[] #[.pointer (some ⟨q, 0, none⟩)]] w fun e w' => e = .returned (.int .i64 r) ∧ LeftC b (if r = 0 then n else s) w w' := by
  obtain ⟨T, hT⟩ : ∃ T, Pl.nowT s raw = T := ⟨_, rfl⟩
  have N := Lib.hid (cnow_at h hT hn b w hk)
  obtain ⟨m1, m2⟩ := Pl.moved_ok h hn
  have hr : raw ≤ 4503599627370496 := (Pl.CS.ok_iff.1 m1).1.2
  have M := Lib.hid (fun W => cmoved_any s raw h m2 hr W)
  obtain ⟨m, hm⟩ : ∃ m, Pl.moved s raw = m := ⟨_, rfl⟩
  rw [hm] at M HF
  have F := Lib.hid HF
  have HK := Lib.hid hk
  clear hT hn m1 m2 hr hm h HF hk
  by_cases hr0 : r = 0
  · subst hr0
    rw [if_pos rfl]
    go_enter Try.func34, Try.ntmps34
    go_wp2_with fail
    refine N.out.mono ?_
    rintro _ w1 ⟨rfl, b1⟩
    have hk1 := HK.out.below_ b1
    obtain ⟨k0, k1, k2, k3, k4, k5⟩ := cs_cells hk1
    have kz := hk1.lt
    go_wp2_with fail
    refine (M.out _).mono ?_
    rintro _ w2 ⟨rfl, b2⟩
    have b3 := bel_on b1 b2
    clear k0 k1 k2 k3 k4 k5 kz hk1 b1 b2
    go_wp2_with fail
    refine (F.out _ _ (bel_more b3 _) b3.size (Blk.new _ _ _)).mono ?_
    rintro _ w3 ⟨rfl, b4, g3⟩
    have hk3 := HK.out.below_ b4
    have HB := Lib.hid b4
    clear b3 b4
    have f0 := hk3.frozen 0
    have f1 := hk3.frozen 1
    have f2 := hk3.frozen 2
    have f3 := hk3.frozen 3
    have f4 := hk3.frozen 4
    have f5 := hk3.frozen 5
    obtain ⟨k0, k1, k2, k3, k4, k5⟩ := cs_cells hk3
    obtain ⟨g0, g1, g2, g4, g5, g6⟩ := cs_cells g3
    have kz := hk3.lt
    have gz := g3.lt
    have HK3 := Lib.hid hk3
    clear hk3 g3
    go_wp2_with fail
    go_ret
    exact ⟨rfl, six HK3.out (only_of_below HB.out _)⟩
  · rw [if_neg hr0]
    have t : (r == 0) = false := by simp [hr0]
    clear hr0
    go_enter Try.func34, Try.ntmps34
    go_wp2_with fail
    refine N.out.mono ?_
    rintro _ w1 ⟨rfl, b1⟩
    have hk1 := HK.out.below_ b1
    obtain ⟨k0, k1, k2, k3, k4, k5⟩ := cs_cells hk1
    have kz := hk1.lt
    go_wp2_with fail
    refine (M.out _).mono ?_
    rintro _ w2 ⟨rfl, b2⟩
    have b3 := bel_on b1 b2
    clear k0 k1 k2 k3 k4 k5 kz hk1 b1 b2
    go_wp2_with fail
    refine (F.out _ _ (bel_more b3 _) b3.size (Blk.new _ _ _)).mono ?_
    rintro _ w3 ⟨rfl, b4, g3⟩
    have hk3 := HK.out.below_ b4
    have HB := Lib.hid b4
    clear b3 b4
    have HK3 := Lib.hid hk3
    clear hk3 g3
    go_wp2_with fail
    go_ret
    exact ⟨rfl, HK3.out, only_of_below HB.out _⟩

end Go.Proofs.Ytcdholgafojjoaa
