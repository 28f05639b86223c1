/- Contracts of the functions of layer 11, the program's and the reference's. -/
import Derived.Test.YtkdanfhgnpgmmaaFix
import Derived.Test.YtkdanfhgnpgmmaaRefMd
import Derived.Test.YtkdanfhgnpgmmaaDriftPlain
import Derived.Test.YtkdanfhgnpgmmaaMem
import Derived.WalkLawsBesides
import Derived.Deep.RegionWith
import Derived.Deep.DeepCutAuto
import Derived.Deep.RegionHeld3
namespace Go.Proofs.Ytkdanfhgnpgmmaa
open Go.RowKit Go.Lib

theorem reti_ {k : IntKind} {a b : Int} (h : a = b) : Value.int k a = .int k b := by rw [h]
theorem bel_refl (w : World) : Below w.heap.size w w := Below.refl _ _
theorem bel_box (w : World) (o : Obj) : Below w.heap.size w (w.alloc o) := (Below.refl _ _).alloc (Nat.le_refl _) _

theorem dcheck_any (a b : Int) (w : World) :
    Calls Try.prog 13 #[.agg #[.int .i64 a, .int .i64 b]] w fun e w' => e = .returned (.int .i64 (Pl.dchk a b)) ∧ Below w.heap.size w w' := by
  go_enter Try.func13, Try.ntmps13
  go_wp2
  all_goals (go_ret; exact ⟨congrArg Ending.returned (reti_ (by first | exact (Pl.dchk_no (Pl.dok_no.2 (by omega))).symm | exact (Pl.dchk_yes (Pl.dok_iff.2 (by omega))).symm)), bel_box _ _⟩)

theorem rcheck_any (a b : Int) (w : World) :
    Calls Try.prog 14 #[.agg #[.int .i64 a, .int .i64 b]] w fun e w' => e = .returned (.int .i64 (Pl.dchk a b)) ∧ Below w.heap.size w w' := by
  go_enter Try.func14, Try.ntmps14
  go_wp2
  all_goals (go_ret; exact ⟨congrArg Ending.returned (reti_ (by first | exact (Pl.dchk_no (Pl.dok_no.2 (by omega))).symm | exact (Pl.dchk_yes (Pl.dok_iff.2 (by omega))).symm)), bel_box _ _⟩)

theorem dchecked_any (a b : Int) (w : World) :
    Calls Try.prog 36 #[.int .i64 a, .int .i64 b] w fun e w' => e = .returned (.tuple #[.agg #[.int .i64 (Pl.dvl a b).1, .int .i64 (Pl.dvl a b).2.1], .int .i64 (Pl.dvl a b).2.2]) ∧ Below w.heap.size w w' := by
  have H := Lib.hid (dcheck_any a b)
  unfold Pl.dvl
  cases hd : Pl.dok a b with
  | true =>
    simp only [Pl.dchk_yes hd] at H
    clear hd
    go_enter Try.func36, Try.ntmps36
    go_wp2_with (go_at_call 13; refine (H.out _).mono ?_; rintro e w1 ⟨rfl, hb⟩; obtain ⟨hcl, hfr⟩ := bcell hb; have HB : Below w.heap.size w w1 := ((bel_box w _).alloc (by simp) _).trans (hb.mono (by simp <;> omega)); have hz : w.heap.size < w1.heap.size := (by have := hb.size; simp at this; omega); have q0 : w1.cell? ⟨w.heap.size, 0, none⟩ = some (.int .i64 0) := (by rw [hcl _ _ (by simp; omega)]; simp); have q1 : w1.cell? ⟨w.heap.size, 1, none⟩ = some (.int .i64 0) := (by rw [hcl _ _ (by simp; omega)]; simp))
    all_goals (refine bodyPost_ret (v := .tuple #[.agg #[.int .i64 a, .int .i64 b], .int .i64 0]) (by simp [results, Try.results36, go_sem, q0, q1, hz]) rfl ⟨rfl, ?_⟩; exact Below.setCell (p := ⟨w.heap.size, 1, none⟩) (Below.setCell (p := ⟨w.heap.size, 0, none⟩) HB (Nat.le_refl _) _) (Nat.le_refl _) _)
  | false =>
    simp only [Pl.dchk_no hd] at H
    clear hd
    go_enter Try.func36, Try.ntmps36
    go_wp2_with (go_at_call 13; refine (H.out _).mono ?_; rintro e w1 ⟨rfl, hb⟩; obtain ⟨hcl, hfr⟩ := bcell hb; have HB : Below w.heap.size w w1 := ((bel_box w _).alloc (by simp) _).trans (hb.mono (by simp <;> omega)); have hz : w.heap.size < w1.heap.size := (by have := hb.size; simp at this; omega); have q0 : w1.cell? ⟨w.heap.size, 0, none⟩ = some (.int .i64 0) := (by rw [hcl _ _ (by simp; omega)]; simp); have q1 : w1.cell? ⟨w.heap.size, 1, none⟩ = some (.int .i64 0) := (by rw [hcl _ _ (by simp; omega)]; simp))
    all_goals (refine bodyPost_ret (v := .tuple #[.agg #[.int .i64 0, .int .i64 0], .int .i64 3]) (by simp [results, Try.results36, go_sem, q0, q1, hz]) rfl ⟨rfl, ?_⟩; exact Below.setCell (p := ⟨w.heap.size, 1, none⟩) (Below.setCell (p := ⟨w.heap.size, 0, none⟩) HB (Nat.le_refl _) _) (Nat.le_refl _) _)
theorem rvalid_any (a b : Int) (w : World) :
    Calls Try.prog 37 #[.int .i64 a, .int .i64 b] w fun e w' => e = .returned (.tuple #[.agg #[.int .i64 (Pl.dvl a b).1, .int .i64 (Pl.dvl a b).2.1], .int .i64 (Pl.dvl a b).2.2]) ∧ Below w.heap.size w w' := by
  have H := Lib.hid (rcheck_any a b)
  unfold Pl.dvl
  cases hd : Pl.dok a b with
  | true =>
    simp only [Pl.dchk_yes hd] at H
    clear hd
    go_enter Try.func37, Try.ntmps37
    go_wp2_with (go_at_call 14; refine (H.out _).mono ?_; rintro e w1 ⟨rfl, hb⟩; obtain ⟨hcl, hfr⟩ := bcell hb; have HB : Below w.heap.size w w1 := ((bel_box w _).alloc (by simp) _).trans (hb.mono (by simp <;> omega)); have hz : w.heap.size < w1.heap.size := (by have := hb.size; simp at this; omega); have q0 : w1.cell? ⟨w.heap.size, 0, none⟩ = some (.int .i64 0) := (by rw [hcl _ _ (by simp; omega)]; simp); have q1 : w1.cell? ⟨w.heap.size, 1, none⟩ = some (.int .i64 0) := (by rw [hcl _ _ (by simp; omega)]; simp))
    all_goals (refine bodyPost_ret (v := .tuple #[.agg #[.int .i64 a, .int .i64 b], .int .i64 0]) (by simp [results, Try.results37, go_sem, q0, q1, hz]) rfl ⟨rfl, ?_⟩; exact Below.setCell (p := ⟨w.heap.size, 1, none⟩) (Below.setCell (p := ⟨w.heap.size, 0, none⟩) HB (Nat.le_refl _) _) (Nat.le_refl _) _)
  | false =>
    simp only [Pl.dchk_no hd] at H
    clear hd
    go_enter Try.func37, Try.ntmps37
    go_wp2_with (go_at_call 14; refine (H.out _).mono ?_; rintro e w1 ⟨rfl, hb⟩; obtain ⟨hcl, hfr⟩ := bcell hb; have HB : Below w.heap.size w w1 := ((bel_box w _).alloc (by simp) _).trans (hb.mono (by simp <;> omega)); have hz : w.heap.size < w1.heap.size := (by have := hb.size; simp at this; omega); have q0 : w1.cell? ⟨w.heap.size, 0, none⟩ = some (.int .i64 0) := (by rw [hcl _ _ (by simp; omega)]; simp); have q1 : w1.cell? ⟨w.heap.size, 1, none⟩ = some (.int .i64 0) := (by rw [hcl _ _ (by simp; omega)]; simp))
    all_goals (refine bodyPost_ret (v := .tuple #[.agg #[.int .i64 0, .int .i64 0], .int .i64 3]) (by simp [results, Try.results37, go_sem, q0, q1, hz]) rfl ⟨rfl, ?_⟩; exact Below.setCell (p := ⟨w.heap.size, 1, none⟩) (Below.setCell (p := ⟨w.heap.size, 0, none⟩) HB (Nat.le_refl _) _) (Nat.le_refl _) _)
theorem delapsed_any (raw tol : Int) (h1 : -9223372036854775808 ≤ raw) (h2 : raw ≤ 9223372036854775807) (h3 : -9223372036854775808 ≤ tol) (h4 : tol ≤ 9223372036854775807) (w : World) :
    Calls Try.prog 11 #[.int .i64 raw, .int .i64 tol] w fun e w' => e = .returned (.tuple #[.int .i64 (Pl.ela raw tol).1, .int .i64 (Pl.ela raw tol).2.1, .int .i64 (Pl.ela raw tol).2.2]) ∧ Below w.heap.size w w' := by
  cases h : Pl.eok raw tol with
  | false =>
    rw [Pl.ela_no h]
    have h' := Pl.eok_no.1 h
    clear h
    go_enter Try.func11, Try.ntmps11
    go_wp2
    all_goals (refine bodyPost_ret (v := .tuple #[.int .i64 0, .int .i64 0, .int .i64 3]) (by simp [results, Try.results11, go_sem]) rfl ⟨rfl, bel_refl _⟩)
  | true =>
    rw [Pl.ela_yes h]
    obtain ⟨k1, k2, k3, k4⟩ := Pl.eok_iff.1 h
    obtain ⟨d1, d2⟩ := Pl.down_in h
    obtain ⟨u1, u2⟩ := Pl.up_in h
    unfold Pl.lst Pl.mst
    have H1 := fun W => fmuldiv_any (raw - 1) 1000000000 (1000000000 + tol) (by omega) (by omega) (by omega) (by omega) (by omega) (by omega) W
    have H2 := fun W => fmuldiv_any (-(raw + 1)) 1000000000 (1000000000 - tol) (by omega) (by omega) (by omega) (by omega) (by omega) (by omega) W
    obtain ⟨D, hD⟩ : ∃ D, Pl.md (raw - 1) 1000000000 (1000000000 + tol) = D := ⟨_, rfl⟩
    obtain ⟨U, hU⟩ : ∃ U, Pl.md (-(raw + 1)) 1000000000 (1000000000 - tol) = U := ⟨_, rfl⟩
    rw [hD] at d1 d2
    rw [hU] at u1 u2
    have fD := Pl.fit_yes (n := D) (by omega) (by omega)
    have fU := Pl.fit_yes (n := U) (by omega) (by omega)
    simp only [hD, Pl.kept_yes fD, fD] at H1
    simp only [hU, Pl.kept_yes fU, fU] at H2
    rw [hD, hU]
    have G1 := Lib.hid H1
    have G2 := Lib.hid H2
    clear H1 H2 hD hU fD fU h h1 h2 h3 h4
    go_enter Try.func11, Try.ntmps11
    go_wp2_with fail
    refine (G1.out _).mono ?_
    rintro e w1 ⟨rfl, n, rfl⟩
    go_wp2_with fail
    refine (G2.out _).mono ?_
    rintro e w2 ⟨rfl, n, rfl⟩
    go_wp2
    refine bodyPost_ret (v := .tuple #[.int .i64 (max 0 (D + 1)), .int .i64 (-U - 1), .int .i64 0]) (by simp [results, Try.results11, go_sem]) rfl ⟨rfl, ?_⟩
    exact below_drewN (bel_refl _) _
theorem relapsed_any (raw tol : Int) (h1 : -9223372036854775808 ≤ raw) (h2 : raw ≤ 9223372036854775807) (h3 : -9223372036854775808 ≤ tol) (h4 : tol ≤ 9223372036854775807) (w : World) :
    Calls Try.prog 12 #[.int .i64 raw, .int .i64 tol] w fun e w' => e = .returned (.tuple #[.int .i64 (Pl.ela raw tol).1, .int .i64 (Pl.ela raw tol).2.1, .int .i64 (Pl.ela raw tol).2.2]) ∧ Below w.heap.size w w' := by
  cases h : Pl.eok raw tol with
  | false =>
    rw [Pl.ela_no h]
    have h' := Pl.eok_no.1 h
    clear h
    go_enter Try.func12, Try.ntmps12
    go_wp2
    all_goals (refine bodyPost_ret (v := .tuple #[.int .i64 0, .int .i64 0, .int .i64 3]) (by simp [results, Try.results12, go_sem]) rfl ⟨rfl, bel_refl _⟩)
  | true =>
    rw [Pl.ela_yes h]
    obtain ⟨k1, k2, k3, k4⟩ := Pl.eok_iff.1 h
    obtain ⟨d1, d2⟩ := Pl.down_in h
    obtain ⟨u1, u2⟩ := Pl.up_in h
    unfold Pl.lst Pl.mst
    have H1 := fun W => rmuldiv_any (raw - 1) 1000000000 (1000000000 + tol) (by omega) (by omega) (by omega) (by omega) (by omega) (by omega) W
    have H2 := fun W => rmuldiv_any (-(raw + 1)) 1000000000 (1000000000 - tol) (by omega) (by omega) (by omega) (by omega) (by omega) (by omega) W
    obtain ⟨D, hD⟩ : ∃ D, Pl.md (raw - 1) 1000000000 (1000000000 + tol) = D := ⟨_, rfl⟩
    obtain ⟨U, hU⟩ : ∃ U, Pl.md (-(raw + 1)) 1000000000 (1000000000 - tol) = U := ⟨_, rfl⟩
    rw [hD] at d1 d2
    rw [hU] at u1 u2
    have fD := Pl.fit_yes (n := D) (by omega) (by omega)
    have fU := Pl.fit_yes (n := U) (by omega) (by omega)
    simp only [hD, Pl.kept_yes fD, fD] at H1
    simp only [hU, Pl.kept_yes fU, fU] at H2
    rw [hD, hU]
    have G1 := Lib.hid H1
    have G2 := Lib.hid H2
    clear H1 H2 hD hU fD fU h h1 h2 h3 h4
    go_enter Try.func12, Try.ntmps12
    go_wp2_with fail
    refine (G1.out _).mono ?_
    rintro e w1 ⟨rfl, rfl⟩
    go_wp2_with fail
    refine (G2.out _).mono ?_
    rintro e w2 ⟨rfl, rfl⟩
    go_wp2
    refine bodyPost_ret (v := .tuple #[.int .i64 (max 0 (D + 1)), .int .i64 (-U - 1), .int .i64 0]) (by simp [results, Try.results12, go_sem]) rfl ⟨rfl, ?_⟩
    exact bel_refl _
end Go.Proofs.Ytkdanfhgnpgmmaa
