/- Contracts of the clock's closures, of Freq, Slew, Step, Pending, Of, New, State. -/
import Derived.Test.YtaaocdgbflifhaaLockCh
namespace Go.Proofs.Ytaaocdgbflifhaa
open Go.RowKit Go.Lib

theorem leftC_box {b : Nat} {n : Pl.CS} {w w' : World} {o : Obj} (h : LeftC b n (w.alloc o) w') : LeftC b n w w' := ⟨h.1, only_trans (only_alloc (only_refl _ _) _) h.2⟩

theorem cfreq1 (g q : Nat) (m : Pl.CS) (ppb : Int) (W : World) (hg : Blk W g 65 (csA m)) (hq : Blk W q 3 #[.int .i64 ppb]) :
    Calls Try.prog 39 #[.pointer (some ⟨g, 0, none⟩), .pointer (some ⟨q, 0, none⟩)] W fun e W' => e = .returned (.int .i64 0) ∧ Blk W' g 65 (csA (Pl.withPPB m ppb)) ∧ W.grownBy W' (some g) := by
  have c0 : W.cell? ⟨q, 0, none⟩ = some (.int .i64 ppb) := hq.cell 0
  have cz := hq.lt
  have f2 := hg.frozen 2
  have gz := hg.lt
  have c2 : W.cell? ⟨g, 2, none⟩ = some (.int .i64 m.ppb) := hg.cell 2
  have HG := Lib.hid hg
  clear hg hq
  go_enter Try.func39, Try.ntmps39
  go_wp2
  go_ret
  exact ⟨rfl, HG.out.set_ 2 _, only_setCell (only_refl _ _) (.inl rfl) _⟩

theorem bel_bx (w : World) (o : Obj) : Below w.heap.size w (w.alloc o) := (Below.refl _ _).alloc (Nat.le_refl _) _

theorem cfreq_any (b : Nat) (s : Pl.CS) (raw ppb : Int) (w : World) (hk : Blk w b 70 (csA s)) (h : s.ok = true) :
    Calls Try.prog 28 #[.pointer (some ⟨b, 0, none⟩), .int .i64 raw, .int .i64 ppb] w fun e w' => e = .returned (.int .i64 (Pl.freqE s raw ppb)) ∧ LeftC b (Pl.freqS s raw ppb) w w' := by
  have WI := fun W => cwithin_any ppb 500000 W (by omega) (by omega)
  have hk0 := hk.alloc (.cells #[.int .i64 ppb] 3)
  have hmf : ∀ (fn : Fn) (first cap : Array Value) (w : World), (Instr.makeFunc fn first cap).run Try.prog w = .ok (.func fn first cap) w := fun _ _ _ _ => rfl
  cases hi : Pl.inn ppb 500000 with
  | false =>
    have e1 : Pl.freqE s raw ppb = 3 := by simp [Pl.freqE, hi]
    have e2 : Pl.freqS s raw ppb = s := by simp [Pl.freqS, e1]
    rw [hi] at WI
    rw [e1, e2]
    have WI := Lib.hid WI
    have H := Lib.hid (fun v => cchange_wrong b s raw v _ hk0)
    clear hi e1 e2 hk hk0 h
    go_enter Try.func28, Try.ntmps28
    go_wp2_with fail
    refine (WI.out _).mono ?_
    rintro _ w1 ⟨rfl, rfl⟩
    go_wp2_with fail
    refine (H.out _).mono ?_
    rintro _ w2 ⟨rfl, l⟩
    go_wp2
    go_ret
    exact ⟨rfl, leftC_box l⟩
  | true =>
    rw [hi] at WI
    have WI := Lib.hid WI
    by_cases hn : Pl.nowE s raw = 0
    · have e1 : Pl.freqE s raw ppb = 0 := by simp [Pl.freqE, hi, hn]
      have e2 : Pl.freqS s raw ppb = Pl.withPPB (Pl.moved s raw) ppb := by simp [Pl.freqS, e1]
      rw [e1, e2]
      have H := Lib.hid (cchange_freq b w.heap.size s (Pl.withPPB (Pl.moved s raw) ppb) raw 0 _ hk0 h hn (fun W g hB hg hk2 => (cfreq1 g w.heap.size _ ppb W hk2 ((Blk.new w _ _).below_ hB)).mono fun e W' ⟨he, k1, k2⟩ => ⟨he, Below.only hB k2 hg hB.size, k1⟩))
      clear hi e1 e2 hk hk0 h hn
      go_enter Try.func28, Try.ntmps28
      go_wp2_with fail
      refine (WI.out _).mono ?_
      rintro _ w1 ⟨rfl, rfl⟩
      go_wp2_with fail
      refine H.out.mono ?_
      rintro _ w2 ⟨rfl, l⟩
      go_wp2
      go_ret
      exact ⟨rfl, leftC_box l⟩
    · have e1 : Pl.freqE s raw ppb = Pl.nowE s raw := by simp [Pl.freqE, hi]
      have e2 : Pl.freqS s raw ppb = s := by simp [Pl.freqS, e1, hn]
      rw [e1, e2]
      have H := Lib.hid (fun v => cchange_not b s raw v _ hk0 h hn)
      clear hi e1 e2 hk hk0 h hn
      go_enter Try.func28, Try.ntmps28
      go_wp2_with fail
      refine (WI.out _).mono ?_
      rintro _ w1 ⟨rfl, rfl⟩
      go_wp2_with fail
      refine (H.out _).mono ?_
      rintro _ w2 ⟨rfl, l⟩
      go_wp2
      go_ret
      exact ⟨rfl, leftC_box l⟩

theorem cof_yes (s : Pl.CS) (h : s.ok = true) (w : World) :
    Calls Try.prog 36 #[csV s] w fun e w' => ∃ g, e = .returned (.pointer (some ⟨g, 0, none⟩)) ∧ w.heap.size ≤ g ∧ Blk w' g 70 (csA s) ∧ Below w.heap.size w w' := by
  have V := fun W => cvalid_any s W
  rw [h] at V
  have V := Lib.hid V
  clear h
  go_enter Try.func36, Try.ntmps36
  go_wp2_with fail
  refine (V.out _).mono ?_
  rintro _ w1 ⟨rfl, b1⟩
  have T := (one_mk w 65 (csA s)).on b1
  obtain ⟨k0, k1, k2, k3, k4, k5⟩ := cs_cells T.2
  have kz := T.2.lt
  have HT := Lib.hid T
  clear b1 T
  go_wp2
  go_ret
  exact ⟨w1.heap.size, rfl, HT.out.1.size, Blk.new w1 _ _, bel_more HT.out.1 _⟩
theorem cof_no (s : Pl.CS) (h : s.ok = false) (w : World) :
    Calls Try.prog 36 #[csV s] w fun e w' => e = .returned (.pointer none) ∧ Below w.heap.size w w' := by
  have V := fun W => cvalid_any s W
  rw [h] at V
  have V := Lib.hid V
  clear h
  go_enter Try.func36, Try.ntmps36
  go_wp2_with fail
  refine (V.out _).mono ?_
  rintro _ w1 ⟨rfl, b1⟩
  go_wp2
  go_ret
  exact ⟨rfl, bel_on (bel_bx w _) b1⟩
theorem cnew_yes (raw time : Int) (h : (⟨raw, time, 0, 0, 0, 0⟩ : Pl.CS).ok = true) (w : World) :
    Calls Try.prog 27 #[.int .i64 raw, .int .i64 time] w fun e w' => ∃ g, e = .returned (.pointer (some ⟨g, 0, none⟩)) ∧ w.heap.size ≤ g ∧ Blk w' g 70 (csA ⟨raw, time, 0, 0, 0, 0⟩) ∧ Below w.heap.size w w' := by
  have V := Lib.hid (cof_yes ⟨raw, time, 0, 0, 0, 0⟩ h w)
  clear h
  go_enter Try.func27, Try.ntmps27
  go_wp2_with fail
  refine V.out.mono ?_
  rintro _ w1 ⟨g, rfl, hg, hk, b1⟩
  go_wp2
  go_ret
  exact ⟨g, rfl, hg, hk, b1⟩
theorem cnew_no (raw time : Int) (h : (⟨raw, time, 0, 0, 0, 0⟩ : Pl.CS).ok = false) (w : World) :
    Calls Try.prog 27 #[.int .i64 raw, .int .i64 time] w fun e w' => e = .returned (.pointer none) ∧ Below w.heap.size w w' := by
  have V := Lib.hid (cof_no ⟨raw, time, 0, 0, 0, 0⟩ h w)
  clear h
  go_enter Try.func27, Try.ntmps27
  go_wp2_with fail
  refine V.out.mono ?_
  rintro _ w1 ⟨rfl, b1⟩
  go_wp2
  go_ret
  exact ⟨rfl, b1⟩
end Go.Proofs.Ytaaocdgbflifhaa
