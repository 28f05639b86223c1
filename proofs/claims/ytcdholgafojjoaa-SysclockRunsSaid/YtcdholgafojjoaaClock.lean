/- Contracts of the clock's functions. -/
import Derived.Test.YtcdholgafojjoaaFixSub
import Derived.Test.YtcdholgafojjoaaClockPlain
import Derived.Test.YtcdholgafojjoaaBoxes
import Derived.Test.YtcdholgafojjoaaLaw
import Derived.Deep.RegionHeld3
namespace Go.Proofs.Ytcdholgafojjoaa
open Go.RowKit Go.Lib

abbrev csA (s : Pl.CS) : Array Value := #[.int .i64 s.raw, .int .i64 s.time, .int .i64 s.ppb, .int .i64 s.left, .int .i64 s.rate, .int .i64 s.steps]
abbrev csV (s : Pl.CS) : Value := .agg (csA s)
theorem cs_cells {w : World} {b : Nat} {t : TypeId} {s : Pl.CS} (h : Blk w b t (csA s)) :
    w.cell? ⟨b, 0, none⟩ = some (.int .i64 s.raw) ∧ w.cell? ⟨b, 1, none⟩ = some (.int .i64 s.time) ∧ w.cell? ⟨b, 2, none⟩ = some (.int .i64 s.ppb) ∧ w.cell? ⟨b, 3, none⟩ = some (.int .i64 s.left) ∧ w.cell? ⟨b, 4, none⟩ = some (.int .i64 s.rate) ∧ w.cell? ⟨b, 5, none⟩ = some (.int .i64 s.steps) :=
  ⟨h.cell 0, h.cell 1, h.cell 2, h.cell 3, h.cell 4, h.cell 5⟩

theorem Two.set_ {w W : World} {t s : TypeId} {c d : Array Value} (h : Two w W t s c d) (i : Nat) (u : Value) : Two w (W.setCell ⟨w.heap.size, i, none⟩ u) t s (c.setIfInBounds i u) d :=
  ⟨Below.setCell (p := ⟨w.heap.size, i, none⟩) h.1 (Nat.le_refl _) u, h.2.1.set_ i u, h.2.2.far (p := ⟨w.heap.size, i, none⟩) (Nat.succ_ne_self _) u⟩
theorem cwithin_any (n m : Int) (w : World) (h1 : 0 ≤ m) (h2 : m ≤ 9223372036854775807) :
    Calls Try.prog 33 #[.int .i64 n, .int .i64 m] w fun e w' => e = .returned (.bool (Pl.inn n m)) ∧ w = w' := by
  go_enter Try.func33, Try.ntmps33
  go_wp2
  all_goals (go_ret; exact ⟨congrArg Ending.returned (congrArg Value.bool (by simp [Pl.inn] <;> omega)), rfl⟩)

theorem cpart_any (e p : Int) (h0 : 0 ≤ e) (h1 : e ≤ 9007199254740992) (h2 : -1000000 ≤ p) (h3 : p ≤ 1000000) (w : World) :
    Calls Try.prog 43 #[.int .i64 e, .int .i64 p] w fun x w' => x = .returned (.int .i64 (Pl.part e p)) ∧ Below w.heap.size w w' := by
  have M := fun W => fmuldiv_any e p 1000000000 (by omega) (by omega) (by omega) (by omega) (by omega) (by omega) W
  have hp := Pl.part_in h0 h2 h3
  have hf : Pl.fit (Pl.md e p 1000000000) = true := Pl.fit_yes (by unfold Pl.part at hp; omega) (by unfold Pl.part at hp; omega)
  simp only [Pl.kept_yes hf, hf] at M
  have M := Lib.hid M
  unfold Pl.part
  clear hp hf
  go_enter Try.func43, Try.ntmps43
  go_wp2_with fail
  refine (M.out _).mono ?_
  rintro x w1 ⟨rfl, n, rfl⟩
  go_wp2
  go_ret
  exact ⟨rfl, below_drewN (Below.refl _ _) _⟩

theorem cvalid_any (s : Pl.CS) (w : World) :
    Calls Try.prog 25 #[csV s] w fun e w' => e = .returned (.bool s.ok) ∧ Below w.heap.size w w' := by
  go_enter Try.func25, Try.ntmps25
  go_wp2_with (go_at_call 33; refine (cwithin_any _ _ _ (by omega) (by omega)).mono ?_; rintro e w1 ⟨rfl, rfl⟩)
  all_goals (go_ret; exact ⟨congrArg Ending.returned (congrArg Value.bool (by first | (simp_all [Pl.CS.ok]; done) | (simp_all [Pl.CS.ok]; omega))), (Below.refl _ _).alloc (Nat.le_refl _) _⟩)

theorem clength_any (s : Pl.CS) (h : s.ok = true) (hl : s.left ≠ 0) (w : World) :
    Calls Try.prog 42 #[csV s] w fun e w' => e = .returned (.tuple #[.int .i64 (if Pl.slewLen s ≤ 9223372036854775807 then Pl.slewLen s else 0), .bool (decide (Pl.slewLen s ≤ 9223372036854775807))]) ∧ Below w.heap.size w w' := by
  obtain ⟨_, _, h3, _, h5, h6, h7, _⟩ := Pl.CS.ok_iff.1 h
  have hr : 0 < s.rate := by omega
  have M := fun W => fmuldiv_any (min s.left (-s.left)) 1000000000 s.rate (by omega) (by omega) (by omega) (by omega) hr (by omega) W
  have hL : Pl.slewLen s = -(Pl.md (min s.left (-s.left)) 1000000000 s.rate) := by unfold Pl.slewLen; rw [if_neg hl]
  have hp := Pl.slewLen_pos h
  rw [hL] at hp ⊢
  obtain ⟨D, hD⟩ : ∃ D, Pl.md (min s.left (-s.left)) 1000000000 s.rate = D := ⟨_, rfl⟩
  rw [hD] at hp ⊢
  simp only [hD] at M
  clear hD hL h h7
  by_cases c1 : -D ≤ 9223372036854775807
  · have f := Pl.fit_yes (n := D) (by omega) (by omega)
    simp only [Pl.kept_yes f, f] at M
    have S := fun W => fsub_any 0 D (by omega) (by omega) (by omega) (by omega) W
    have f2 := Pl.fit_yes (n := 0 - D) (by omega) (by omega)
    simp only [Pl.kept_yes f2, f2] at S
    rw [if_pos c1, decide_eq_true c1, show -D = 0 - D by omega]
    have M := Lib.hid M
    have S := Lib.hid S
    clear f f2
    go_enter Try.func42, Try.ntmps42
    go_wp2_with fail
    refine (M.out _).mono ?_
    rintro x w1 ⟨rfl, n, rfl⟩
    go_wp2_with fail
    refine (S.out _).mono ?_
    rintro x w1 ⟨rfl, rfl⟩
    go_wp2
    exact bodyPost_ret (v := .tuple #[.int .i64 (0 - D), .bool true]) (by simp [results, Try.results42, go_sem]) rfl ⟨rfl, below_drewN ((Below.refl _ _).alloc (Nat.le_refl _) _) _⟩
  · rw [if_neg c1, decide_eq_false c1]
    by_cases c2 : D = -9223372036854775808
    · have f := Pl.fit_yes (n := D) (by omega) (by omega)
      simp only [Pl.kept_yes f, f] at M
      have S := fun W => fsub_any 0 D (by omega) (by omega) (by omega) (by omega) W
      have f2 : Pl.fit (0 - D) = false := Pl.fit_no.2 (by omega)
      have k2 : Pl.kept (0 - D) = 0 := by simp only [Pl.kept, f2, Bool.false_eq_true, if_false]
      simp only [k2, f2] at S
      have M := Lib.hid M
      have S := Lib.hid S
      clear f f2 k2 c2 c1
      go_enter Try.func42, Try.ntmps42
      go_wp2_with fail
      refine (M.out _).mono ?_
      rintro x w1 ⟨rfl, n, rfl⟩
      go_wp2_with fail
      refine (S.out _).mono ?_
      rintro x w1 ⟨rfl, rfl⟩
      go_wp2
      exact bodyPost_ret (v := .tuple #[.int .i64 0, .bool false]) (by simp [results, Try.results42, go_sem]) rfl ⟨rfl, below_drewN ((Below.refl _ _).alloc (Nat.le_refl _) _) _⟩
    · have f : Pl.fit D = false := Pl.fit_no.2 (by omega)
      have k : Pl.kept D = 0 := by simp [Pl.kept, f]
      simp only [k, f] at M
      have M := Lib.hid M
      clear f k
      go_enter Try.func42, Try.ntmps42
      go_wp2_with fail
      refine (M.out _).mono ?_
      rintro x w1 ⟨rfl, n, rfl⟩
      go_wp2
      exact bodyPost_ret (v := .tuple #[.int .i64 0, .bool false]) (by simp [results, Try.results42, go_sem]) rfl ⟨rfl, below_drewN ((Below.refl _ _).alloc (Nat.le_refl _) _) _⟩
end Go.Proofs.Ytcdholgafojjoaa
