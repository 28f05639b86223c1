/- Contracts of Age and Trip of layer 11, the program's and the reference's. -/
import Derived.Test.YtkdanfhgnpgmmaaDrift
import Derived.Test.YtkdanfhgnpgmmaaBoxes
namespace Go.Proofs.Ytkdanfhgnpgmmaa
open Go.RowKit Go.Lib

set_option maxHeartbeats 1000000 in
theorem dage_any (a b raw tol : Int) (h1 : -9223372036854775808 ≤ raw) (h2 : raw ≤ 9223372036854775807) (h3 : -9223372036854775808 ≤ tol) (h4 : tol ≤ 9223372036854775807) (w : World) :
    Calls Try.prog 16 #[.agg #[.int .i64 a, .int .i64 b], .int .i64 raw, .int .i64 tol] w fun e w' => e = .returned (.tuple #[.agg #[.int .i64 (Pl.age a b raw tol).1, .int .i64 (Pl.age a b raw tol).2.1], .int .i64 (Pl.age a b raw tol).2.2]) ∧ Below w.heap.size w w' := by
  have H := Lib.hid (dcheck_any a b)
  have K := Lib.hid (fun W => delapsed_any raw tol h1 h2 h3 h4 W)
  have V := Lib.hid (dchecked_any)
  clear h1 h2 h3 h4
  unfold Pl.age
  cases hd : Pl.dok a b with
  | true =>
    have hd' := Pl.dok_iff.1 hd
    simp only [Pl.dchk_yes hd] at H
    cases he : Pl.eok raw tol with
    | true =>
      obtain ⟨l1, l2⟩ := Pl.lst_in he
      obtain ⟨m1, m2⟩ := Pl.mst_in he
      have he' := Pl.eok_iff.1 he
      simp only [Pl.ela_yes he] at K
      simp only [if_true, ↓reduceIte]
      obtain ⟨L, hL⟩ : ∃ L, Pl.lst raw tol = L := ⟨_, rfl⟩
      obtain ⟨M, hM⟩ : ∃ M, Pl.mst raw tol = M := ⟨_, rfl⟩
      simp only [hL, hM] at l1 l2 m1 m2 K ⊢
      clear hd he hL hM
      obtain ⟨X, hX⟩ : ∃ X, Pl.dvl (a + L) (b + M) = X := ⟨_, rfl⟩
      have V := Lib.hid (fun W => hX ▸ V.out (a + L) (b + M) W)
      rw [hX]
      clear hX
      go_enter Try.func16, Try.ntmps16
      go_wp2_with (go_at_call 13; refine (H.out _).mono ?_; rintro e w1 ⟨rfl, hb⟩; have T1 := (two_mk w _ _ _ _).on hb; obtain ⟨q0, q1, q2, q3, z0, z1, z2, z3⟩ := T1.cells)
      go_wp2_with (go_at_call 11; refine (K.out _).mono ?_; rintro e w2 ⟨rfl, hb2⟩; have T2 := T1.on hb2; obtain ⟨p0, p1, p2, p3, y0, y1, y2, y3⟩ := T2.cells)
      go_wp2_with (go_at_call 36; refine (V.out _).mono ?_; rintro e w3 ⟨rfl, hb3⟩; have T3 := T2.on hb3; obtain ⟨r0, r1, r2, r3, x0, x1, x2, x3⟩ := T3.cells)
      refine bodyPost_ret (v := .tuple #[.agg #[.int .i64 (X.1), .int .i64 (X.2.1)], .int .i64 (X.2.2)]) (by simp [results, Try.results16, go_sem, r2, r3, x0, x1]) rfl ⟨rfl, T3.fin _ _⟩
    | false =>
      simp only [Pl.ela_no he] at K
      simp only [if_true, ↓reduceIte, Bool.false_eq_true]
      clear hd he
      go_enter Try.func16, Try.ntmps16
      go_wp2_with (go_at_call 13; refine (H.out _).mono ?_; rintro e w1 ⟨rfl, hb⟩; have T1 := (two_mk w _ _ _ _).on hb; obtain ⟨q0, q1, q2, q3, z0, z1, z2, z3⟩ := T1.cells)
      go_wp2_with (go_at_call 11; refine (K.out _).mono ?_; rintro e w2 ⟨rfl, hb2⟩; have T2 := T1.on hb2; obtain ⟨p0, p1, p2, p3, y0, y1, y2, y3⟩ := T2.cells)
      refine bodyPost_ret (v := .tuple #[.agg #[.int .i64 (0), .int .i64 (0)], .int .i64 (3)]) (by simp [results, Try.results16, go_sem, p2, p3, y0, y1]) rfl ⟨rfl, T2.fin _ _⟩
  | false =>
    simp only [Pl.dchk_no hd] at H
    simp only [↓reduceIte, Bool.false_eq_true]
    clear hd
    go_enter Try.func16, Try.ntmps16
    go_wp2_with (go_at_call 13; refine (H.out _).mono ?_; rintro e w1 ⟨rfl, hb⟩; have T1 := (two_mk w _ _ _ _).on hb; obtain ⟨q0, q1, q2, q3, z0, z1, z2, z3⟩ := T1.cells)
    refine bodyPost_ret (v := .tuple #[.agg #[.int .i64 (0), .int .i64 (0)], .int .i64 (2)]) (by simp [results, Try.results16, go_sem, q2, q3, z0, z1]) rfl ⟨rfl, T1.fin _ _⟩

set_option maxHeartbeats 1000000 in
theorem rage_any (a b raw tol : Int) (h1 : -9223372036854775808 ≤ raw) (h2 : raw ≤ 9223372036854775807) (h3 : -9223372036854775808 ≤ tol) (h4 : tol ≤ 9223372036854775807) (w : World) :
    Calls Try.prog 17 #[.agg #[.int .i64 a, .int .i64 b], .int .i64 raw, .int .i64 tol] w fun e w' => e = .returned (.tuple #[.agg #[.int .i64 (Pl.age a b raw tol).1, .int .i64 (Pl.age a b raw tol).2.1], .int .i64 (Pl.age a b raw tol).2.2]) ∧ Below w.heap.size w w' := by
  have H := Lib.hid (rcheck_any a b)
  have K := Lib.hid (fun W => relapsed_any raw tol h1 h2 h3 h4 W)
  have V := Lib.hid (rvalid_any)
  clear h1 h2 h3 h4
  unfold Pl.age
  cases hd : Pl.dok a b with
  | true =>
    have hd' := Pl.dok_iff.1 hd
    simp only [Pl.dchk_yes hd] at H
    cases he : Pl.eok raw tol with
    | true =>
      obtain ⟨l1, l2⟩ := Pl.lst_in he
      obtain ⟨m1, m2⟩ := Pl.mst_in he
      have he' := Pl.eok_iff.1 he
      simp only [Pl.ela_yes he] at K
      simp only [if_true, ↓reduceIte]
      obtain ⟨L, hL⟩ : ∃ L, Pl.lst raw tol = L := ⟨_, rfl⟩
      obtain ⟨M, hM⟩ : ∃ M, Pl.mst raw tol = M := ⟨_, rfl⟩
      simp only [hL, hM] at l1 l2 m1 m2 K ⊢
      clear hd he hL hM
      obtain ⟨X, hX⟩ : ∃ X, Pl.dvl (a + L) (b + M) = X := ⟨_, rfl⟩
      have V := Lib.hid (fun W => hX ▸ V.out (a + L) (b + M) W)
      rw [hX]
      clear hX
      go_enter Try.func17, Try.ntmps17
      go_wp2_with (go_at_call 14; refine (H.out _).mono ?_; rintro e w1 ⟨rfl, hb⟩; have T1 := (two_mk w _ _ _ _).on hb; obtain ⟨q0, q1, q2, q3, z0, z1, z2, z3⟩ := T1.cells)
      go_wp2_with (go_at_call 12; refine (K.out _).mono ?_; rintro e w2 ⟨rfl, hb2⟩; have T2 := T1.on hb2; obtain ⟨p0, p1, p2, p3, y0, y1, y2, y3⟩ := T2.cells)
      go_wp2_with (go_at_call 37; refine (V.out _).mono ?_; rintro e w3 ⟨rfl, hb3⟩; have T3 := T2.on hb3; obtain ⟨r0, r1, r2, r3, x0, x1, x2, x3⟩ := T3.cells)
      refine bodyPost_ret (v := .tuple #[.agg #[.int .i64 (X.1), .int .i64 (X.2.1)], .int .i64 (X.2.2)]) (by simp [results, Try.results17, go_sem, r2, r3, x0, x1]) rfl ⟨rfl, T3.fin _ _⟩
    | false =>
      simp only [Pl.ela_no he] at K
      simp only [if_true, ↓reduceIte, Bool.false_eq_true]
      clear hd he
      go_enter Try.func17, Try.ntmps17
      go_wp2_with (go_at_call 14; refine (H.out _).mono ?_; rintro e w1 ⟨rfl, hb⟩; have T1 := (two_mk w _ _ _ _).on hb; obtain ⟨q0, q1, q2, q3, z0, z1, z2, z3⟩ := T1.cells)
      go_wp2_with (go_at_call 12; refine (K.out _).mono ?_; rintro e w2 ⟨rfl, hb2⟩; have T2 := T1.on hb2; obtain ⟨p0, p1, p2, p3, y0, y1, y2, y3⟩ := T2.cells)
      refine bodyPost_ret (v := .tuple #[.agg #[.int .i64 (0), .int .i64 (0)], .int .i64 (3)]) (by simp [results, Try.results17, go_sem, p2, p3, y0, y1]) rfl ⟨rfl, T2.fin _ _⟩
  | false =>
    simp only [Pl.dchk_no hd] at H
    simp only [↓reduceIte, Bool.false_eq_true]
    clear hd
    go_enter Try.func17, Try.ntmps17
    go_wp2_with (go_at_call 14; refine (H.out _).mono ?_; rintro e w1 ⟨rfl, hb⟩; have T1 := (two_mk w _ _ _ _).on hb; obtain ⟨q0, q1, q2, q3, z0, z1, z2, z3⟩ := T1.cells)
    refine bodyPost_ret (v := .tuple #[.agg #[.int .i64 (0), .int .i64 (0)], .int .i64 (2)]) (by simp [results, Try.results17, go_sem, q2, q3, z0, z1]) rfl ⟨rfl, T1.fin _ _⟩

set_option maxHeartbeats 1000000 in
theorem dtrip_any (a b raw hold tol : Int) (h1 : -9223372036854775808 ≤ raw) (h2 : raw ≤ 9223372036854775807) (h3 : -9223372036854775808 ≤ tol) (h4 : tol ≤ 9223372036854775807) (w : World) :
    Calls Try.prog 18 #[.agg #[.int .i64 a, .int .i64 b], .int .i64 raw, .int .i64 hold, .int .i64 tol] w fun e w' => e = .returned (.tuple #[.agg #[.int .i64 (Pl.trip a b raw hold tol).1, .int .i64 (Pl.trip a b raw hold tol).2.1], .int .i64 (Pl.trip a b raw hold tol).2.2]) ∧ Below w.heap.size w w' := by
  have H := Lib.hid (dcheck_any a b)
  have K := Lib.hid (fun W => delapsed_any raw tol h1 h2 h3 h4 W)
  have V := Lib.hid (dchecked_any)
  clear h1 h2 h3 h4
  unfold Pl.trip
  cases hd : Pl.dok a b with
  | true =>
    have hd' := Pl.dok_iff.1 hd
    simp only [Pl.dchk_yes hd] at H
    cases he : Pl.eok raw tol with
    | true =>
      obtain ⟨l1, l2⟩ := Pl.lst_in he
      obtain ⟨m1, m2⟩ := Pl.mst_in he
      have he' := Pl.eok_iff.1 he
      simp only [Pl.ela_yes he] at K
      simp only [if_true, ↓reduceIte]
      obtain ⟨L, hL⟩ : ∃ L, Pl.lst raw tol = L := ⟨_, rfl⟩
      obtain ⟨M, hM⟩ : ∃ M, Pl.mst raw tol = M := ⟨_, rfl⟩
      simp only [hL, hM] at l1 l2 m1 m2 K ⊢
      clear hd he hL hM
      by_cases t1 : hold < 0
      · simp only [if_pos t1]
        go_enter Try.func18, Try.ntmps18
        go_wp2_with (go_at_call 13; refine (H.out _).mono ?_; rintro e w1 ⟨rfl, hb⟩; have T1 := (two_mk w _ _ _ _).on hb; obtain ⟨q0, q1, q2, q3, z0, z1, z2, z3⟩ := T1.cells)
        go_wp2_with (go_at_call 11; refine (K.out _).mono ?_; rintro e w2 ⟨rfl, hb2⟩; have T2 := T1.on hb2; obtain ⟨p0, p1, p2, p3, y0, y1, y2, y3⟩ := T2.cells)
        refine bodyPost_ret (v := .tuple #[.agg #[.int .i64 (0), .int .i64 (0)], .int .i64 (3)]) (by simp [results, Try.results18, go_sem, p2, p3, y0, y1]) rfl ⟨rfl, T2.fin _ _⟩
      · by_cases t2 : M < hold
        · simp only [if_neg t1, if_pos t2]
          go_enter Try.func18, Try.ntmps18
          go_wp2_with (go_at_call 13; refine (H.out _).mono ?_; rintro e w1 ⟨rfl, hb⟩; have T1 := (two_mk w _ _ _ _).on hb; obtain ⟨q0, q1, q2, q3, z0, z1, z2, z3⟩ := T1.cells)
          go_wp2_with (go_at_call 11; refine (K.out _).mono ?_; rintro e w2 ⟨rfl, hb2⟩; have T2 := T1.on hb2; obtain ⟨p0, p1, p2, p3, y0, y1, y2, y3⟩ := T2.cells)
          refine bodyPost_ret (v := .tuple #[.agg #[.int .i64 (0), .int .i64 (0)], .int .i64 (12)]) (by simp [results, Try.results18, go_sem, p2, p3, y0, y1]) rfl ⟨rfl, T2.fin _ _⟩
        · simp only [if_neg t1, if_neg t2]
          obtain ⟨X, hX⟩ : ∃ X, Pl.dvl a (b + M - hold) = X := ⟨_, rfl⟩
          have V := Lib.hid (fun W => hX ▸ V.out a (b + M - hold) W)
          rw [hX]
          clear hX
          go_enter Try.func18, Try.ntmps18
          go_wp2_with (go_at_call 13; refine (H.out _).mono ?_; rintro e w1 ⟨rfl, hb⟩; have T1 := (two_mk w _ _ _ _).on hb; obtain ⟨q0, q1, q2, q3, z0, z1, z2, z3⟩ := T1.cells)
          go_wp2_with (go_at_call 11; refine (K.out _).mono ?_; rintro e w2 ⟨rfl, hb2⟩; have T2 := T1.on hb2; obtain ⟨p0, p1, p2, p3, y0, y1, y2, y3⟩ := T2.cells)
          go_wp2_with (go_at_call 36; refine (V.out _).mono ?_; rintro e w3 ⟨rfl, hb3⟩; have T3 := T2.on hb3; obtain ⟨r0, r1, r2, r3, x0, x1, x2, x3⟩ := T3.cells)
          refine bodyPost_ret (v := .tuple #[.agg #[.int .i64 (X.1), .int .i64 (X.2.1)], .int .i64 (X.2.2)]) (by simp [results, Try.results18, go_sem, r2, r3, x0, x1]) rfl ⟨rfl, T3.fin _ _⟩
    | false =>
      simp only [Pl.ela_no he] at K
      simp only [if_true, ↓reduceIte, Bool.false_eq_true]
      clear hd he
      go_enter Try.func18, Try.ntmps18
      go_wp2_with (go_at_call 13; refine (H.out _).mono ?_; rintro e w1 ⟨rfl, hb⟩; have T1 := (two_mk w _ _ _ _).on hb; obtain ⟨q0, q1, q2, q3, z0, z1, z2, z3⟩ := T1.cells)
      go_wp2_with (go_at_call 11; refine (K.out _).mono ?_; rintro e w2 ⟨rfl, hb2⟩; have T2 := T1.on hb2; obtain ⟨p0, p1, p2, p3, y0, y1, y2, y3⟩ := T2.cells)
      refine bodyPost_ret (v := .tuple #[.agg #[.int .i64 (0), .int .i64 (0)], .int .i64 (3)]) (by simp [results, Try.results18, go_sem, p2, p3, y0, y1]) rfl ⟨rfl, T2.fin _ _⟩
  | false =>
    simp only [Pl.dchk_no hd] at H
    simp only [↓reduceIte, Bool.false_eq_true]
    clear hd
    go_enter Try.func18, Try.ntmps18
    go_wp2_with (go_at_call 13; refine (H.out _).mono ?_; rintro e w1 ⟨rfl, hb⟩; have T1 := (two_mk w _ _ _ _).on hb; obtain ⟨q0, q1, q2, q3, z0, z1, z2, z3⟩ := T1.cells)
    refine bodyPost_ret (v := .tuple #[.agg #[.int .i64 (0), .int .i64 (0)], .int .i64 (2)]) (by simp [results, Try.results18, go_sem, q2, q3, z0, z1]) rfl ⟨rfl, T1.fin _ _⟩

set_option maxHeartbeats 1000000 in
theorem rtrip_any (a b raw hold tol : Int) (h1 : -9223372036854775808 ≤ raw) (h2 : raw ≤ 9223372036854775807) (h3 : -9223372036854775808 ≤ tol) (h4 : tol ≤ 9223372036854775807) (w : World) :
    Calls Try.prog 19 #[.agg #[.int .i64 a, .int .i64 b], .int .i64 raw, .int .i64 hold, .int .i64 tol] w fun e w' => e = .returned (.tuple #[.agg #[.int .i64 (Pl.trip a b raw hold tol).1, .int .i64 (Pl.trip a b raw hold tol).2.1], .int .i64 (Pl.trip a b raw hold tol).2.2]) ∧ Below w.heap.size w w' := by
  have H := Lib.hid (rcheck_any a b)
  have K := Lib.hid (fun W => relapsed_any raw tol h1 h2 h3 h4 W)
  have V := Lib.hid (rvalid_any)
  clear h1 h2 h3 h4
  unfold Pl.trip
  cases hd : Pl.dok a b with
  | true =>
    have hd' := Pl.dok_iff.1 hd
    simp only [Pl.dchk_yes hd] at H
    cases he : Pl.eok raw tol with
    | true =>
      obtain ⟨l1, l2⟩ := Pl.lst_in he
      obtain ⟨m1, m2⟩ := Pl.mst_in he
      have he' := Pl.eok_iff.1 he
      simp only [Pl.ela_yes he] at K
      simp only [if_true, ↓reduceIte]
      obtain ⟨L, hL⟩ : ∃ L, Pl.lst raw tol = L := ⟨_, rfl⟩
      obtain ⟨M, hM⟩ : ∃ M, Pl.mst raw tol = M := ⟨_, rfl⟩
      simp only [hL, hM] at l1 l2 m1 m2 K ⊢
      clear hd he hL hM
      by_cases t1 : hold < 0
      · simp only [if_pos t1]
        go_enter Try.func19, Try.ntmps19
        go_wp2_with (go_at_call 14; refine (H.out _).mono ?_; rintro e w1 ⟨rfl, hb⟩; have T1 := (two_mk w _ _ _ _).on hb; obtain ⟨q0, q1, q2, q3, z0, z1, z2, z3⟩ := T1.cells)
        go_wp2_with (go_at_call 12; refine (K.out _).mono ?_; rintro e w2 ⟨rfl, hb2⟩; have T2 := T1.on hb2; obtain ⟨p0, p1, p2, p3, y0, y1, y2, y3⟩ := T2.cells)
        refine bodyPost_ret (v := .tuple #[.agg #[.int .i64 (0), .int .i64 (0)], .int .i64 (3)]) (by simp [results, Try.results19, go_sem, p2, p3, y0, y1]) rfl ⟨rfl, T2.fin _ _⟩
      · by_cases t2 : M < hold
        · simp only [if_neg t1, if_pos t2]
          go_enter Try.func19, Try.ntmps19
          go_wp2_with (go_at_call 14; refine (H.out _).mono ?_; rintro e w1 ⟨rfl, hb⟩; have T1 := (two_mk w _ _ _ _).on hb; obtain ⟨q0, q1, q2, q3, z0, z1, z2, z3⟩ := T1.cells)
          go_wp2_with (go_at_call 12; refine (K.out _).mono ?_; rintro e w2 ⟨rfl, hb2⟩; have T2 := T1.on hb2; obtain ⟨p0, p1, p2, p3, y0, y1, y2, y3⟩ := T2.cells)
          refine bodyPost_ret (v := .tuple #[.agg #[.int .i64 (0), .int .i64 (0)], .int .i64 (12)]) (by simp [results, Try.results19, go_sem, p2, p3, y0, y1]) rfl ⟨rfl, T2.fin _ _⟩
        · simp only [if_neg t1, if_neg t2]
          obtain ⟨X, hX⟩ : ∃ X, Pl.dvl a (b + M - hold) = X := ⟨_, rfl⟩
          have V := Lib.hid (fun W => hX ▸ V.out a (b + M - hold) W)
          rw [hX]
          clear hX
          go_enter Try.func19, Try.ntmps19
          go_wp2_with (go_at_call 14; refine (H.out _).mono ?_; rintro e w1 ⟨rfl, hb⟩; have T1 := (two_mk w _ _ _ _).on hb; obtain ⟨q0, q1, q2, q3, z0, z1, z2, z3⟩ := T1.cells)
          go_wp2_with (go_at_call 12; refine (K.out _).mono ?_; rintro e w2 ⟨rfl, hb2⟩; have T2 := T1.on hb2; obtain ⟨p0, p1, p2, p3, y0, y1, y2, y3⟩ := T2.cells)
          go_wp2_with (go_at_call 37; refine (V.out _).mono ?_; rintro e w3 ⟨rfl, hb3⟩; have T3 := T2.on hb3; obtain ⟨r0, r1, r2, r3, x0, x1, x2, x3⟩ := T3.cells)
          refine bodyPost_ret (v := .tuple #[.agg #[.int .i64 (X.1), .int .i64 (X.2.1)], .int .i64 (X.2.2)]) (by simp [results, Try.results19, go_sem, r2, r3, x0, x1]) rfl ⟨rfl, T3.fin _ _⟩
    | false =>
      simp only [Pl.ela_no he] at K
      simp only [if_true, ↓reduceIte, Bool.false_eq_true]
      clear hd he
      go_enter Try.func19, Try.ntmps19
      go_wp2_with (go_at_call 14; refine (H.out _).mono ?_; rintro e w1 ⟨rfl, hb⟩; have T1 := (two_mk w _ _ _ _).on hb; obtain ⟨q0, q1, q2, q3, z0, z1, z2, z3⟩ := T1.cells)
      go_wp2_with (go_at_call 12; refine (K.out _).mono ?_; rintro e w2 ⟨rfl, hb2⟩; have T2 := T1.on hb2; obtain ⟨p0, p1, p2, p3, y0, y1, y2, y3⟩ := T2.cells)
      refine bodyPost_ret (v := .tuple #[.agg #[.int .i64 (0), .int .i64 (0)], .int .i64 (3)]) (by simp [results, Try.results19, go_sem, p2, p3, y0, y1]) rfl ⟨rfl, T2.fin _ _⟩
  | false =>
    simp only [Pl.dchk_no hd] at H
    simp only [↓reduceIte, Bool.false_eq_true]
    clear hd
    go_enter Try.func19, Try.ntmps19
    go_wp2_with (go_at_call 14; refine (H.out _).mono ?_; rintro e w1 ⟨rfl, hb⟩; have T1 := (two_mk w _ _ _ _).on hb; obtain ⟨q0, q1, q2, q3, z0, z1, z2, z3⟩ := T1.cells)
    refine bodyPost_ret (v := .tuple #[.agg #[.int .i64 (0), .int .i64 (0)], .int .i64 (2)]) (by simp [results, Try.results19, go_sem, q2, q3, z0, z1]) rfl ⟨rfl, T1.fin _ _⟩

end Go.Proofs.Ytkdanfhgnpgmmaa
