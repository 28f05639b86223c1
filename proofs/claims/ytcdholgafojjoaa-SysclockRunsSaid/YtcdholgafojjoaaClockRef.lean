/- Contracts of the reference's valid, Of, New. -/
import Derived.Test.YtcdholgafojjoaaClockAwake
namespace Go.Proofs.Ytcdholgafojjoaa
open Go.RowKit Go.Lib

theorem rin_any (n m : Int) (w : World) (h1 : 0 ≤ m) (h2 : m ≤ 9223372036854775807) :
    Calls Try.prog 39 #[.int .i64 n, .int .i64 m] w fun e w' => e = .returned (.bool (Pl.inn n m)) ∧ w = w' := by
  go_enter Try.func39, Try.ntmps39
  go_wp2
  all_goals (go_ret; exact ⟨congrArg Ending.returned (congrArg Value.bool (by simp [Pl.inn] <;> omega)), rfl⟩)
theorem rvalid10_any (s : Pl.CS) (w : World) :
    Calls Try.prog 26 #[csV s] w fun e w' => e = .returned (.bool s.ok) ∧ Below w.heap.size w w' := by
  go_enter Try.func26, Try.ntmps26
  go_wp2_with (go_at_call 39; refine (rin_any _ _ _ (by omega) (by omega)).mono ?_; rintro e w1 ⟨rfl, rfl⟩)
  all_goals (go_ret; exact ⟨congrArg Ending.returned (congrArg Value.bool (by first | (simp_all [Pl.CS.ok]; done) | (simp_all [Pl.CS.ok]; omega))), (Below.refl _ _).alloc (Nat.le_refl _) _⟩)
theorem rof_yes (s : Pl.CS) (h : s.ok = true) (w : World) :
    Calls Try.prog 12 #[csV s] w fun e w' => ∃ g, e = .returned (.pointer (some ⟨g, 0, none⟩)) ∧ w.heap.size ≤ g ∧ Blk w' g 53 (csA s) ∧ Below w.heap.size w w' := by
  have V := fun W => rvalid10_any s W
  rw [h] at V
  have V := Lib.hid V
  clear h
  go_enter Try.func12, Try.ntmps12
  go_wp2_with fail
  refine (V.out _).mono ?_
  rintro _ w1 ⟨rfl, b1⟩
  have T := (one_mk w 23 (csA s)).on b1
  obtain ⟨k0, k1, k2, k3, k4, k5⟩ := cs_cells T.2
  have kz := T.2.lt
  have HT := Lib.hid T
  clear b1 T
  go_wp2
  go_ret
  exact ⟨w1.heap.size, rfl, HT.out.1.size, Blk.new w1 _ _, bel_more HT.out.1 _⟩
theorem rof_no (s : Pl.CS) (h : s.ok = false) (w : World) :
    Calls Try.prog 12 #[csV s] w fun e w' => e = .returned (.pointer none) ∧ Below w.heap.size w w' := by
  have V := fun W => rvalid10_any s W
  rw [h] at V
  have V := Lib.hid V
  clear h
  go_enter Try.func12, Try.ntmps12
  go_wp2_with fail
  refine (V.out _).mono ?_
  rintro _ w1 ⟨rfl, b1⟩
  go_wp2
  go_ret
  exact ⟨rfl, bel_on (bel_bx w _) b1⟩
theorem rnew10_yes (raw time : Int) (h : (⟨raw, time, 0, 0, 0, 0⟩ : Pl.CS).ok = true) (w : World) :
    Calls Try.prog 15 #[.int .i64 raw, .int .i64 time] w fun e w' => ∃ g, e = .returned (.pointer (some ⟨g, 0, none⟩)) ∧ w.heap.size ≤ g ∧ Blk w' g 53 (csA ⟨raw, time, 0, 0, 0, 0⟩) ∧ Below w.heap.size w w' := by
  have V := Lib.hid (rof_yes ⟨raw, time, 0, 0, 0, 0⟩ h w)
  clear h
  go_enter Try.func15, Try.ntmps15
  go_wp2_with fail
  refine V.out.mono ?_
  rintro _ w1 ⟨g, rfl, hg, hk, b1⟩
  go_wp2
  go_ret
  exact ⟨g, rfl, hg, hk, b1⟩
theorem rnew10_no (raw time : Int) (h : (⟨raw, time, 0, 0, 0, 0⟩ : Pl.CS).ok = false) (w : World) :
    Calls Try.prog 15 #[.int .i64 raw, .int .i64 time] w fun e w' => e = .returned (.pointer none) ∧ Below w.heap.size w w' := by
  have V := Lib.hid (rof_no ⟨raw, time, 0, 0, 0, 0⟩ h w)
  clear h
  go_enter Try.func15, Try.ntmps15
  go_wp2_with fail
  refine V.out.mono ?_
  rintro _ w1 ⟨rfl, b1⟩
  go_wp2
  go_ret
  exact ⟨rfl, b1⟩
end Go.Proofs.Ytcdholgafojjoaa
