/- Contracts of Width, Shift, Meet of layer 11, the program's and the reference's. -/
import Derived.Test.YtkdanfhgnpgmmaaDriftSets
namespace Go.Proofs.Ytkdanfhgnpgmmaa
open Go.RowKit Go.Lib

theorem dwidth_any (a b : Int) (w : World) :
    Calls Try.prog 28 #[.agg #[.int .i64 a, .int .i64 b]] w fun e w' => e = .returned (.int .i64 (Pl.width a b)) ∧ Below w.heap.size w w' := by
  have H := Lib.hid (dcheck_any a b)
  unfold Pl.width
  cases hd : Pl.dok a b with
  | true =>
    simp only [Pl.dchk_yes hd] at H
    obtain ⟨d1, d2, d3⟩ := Pl.dok_iff.1 hd
    have K := fun W => fsub_any b a (by omega) (by omega) (by omega) (by omega) W
    cases hf : Pl.fit (b - a) with
    | true =>
      simp only [Pl.kept_yes hf, hf] at K
      have K := Lib.hid K
      clear hd hf
      simp only [if_true]
      go_enter Try.func28, Try.ntmps28
      go_wp2_with fail
      refine (H.out _).mono ?_
      rintro e w1 ⟨rfl, hb⟩
      have T1 := (one_mk w _ _).on hb
      obtain ⟨q0, q1, z0⟩ := T1.cells
      go_wp2_with fail
      refine (K.out _).mono ?_
      rintro e w2 ⟨rfl, rfl⟩
      go_wp2
      go_ret
      exact ⟨rfl, T1.1⟩
    | false =>
      have k0 : Pl.kept (b - a) = 0 := by simp [Pl.kept, hf]
      simp only [k0, hf] at K
      have K := Lib.hid K
      clear hd hf k0
      simp only [if_true, Bool.false_eq_true, if_false]
      go_enter Try.func28, Try.ntmps28
      go_wp2_with fail
      refine (H.out _).mono ?_
      rintro e w1 ⟨rfl, hb⟩
      have T1 := (one_mk w _ _).on hb
      obtain ⟨q0, q1, z0⟩ := T1.cells
      go_wp2_with fail
      refine (K.out _).mono ?_
      rintro e w2 ⟨rfl, rfl⟩
      go_wp2
      go_ret
      exact ⟨rfl, T1.1⟩
  | false =>
    simp only [Pl.dchk_no hd] at H
    clear hd
    simp only [Bool.false_eq_true, if_false]
    go_enter Try.func28, Try.ntmps28
    go_wp2_with fail
    refine (H.out _).mono ?_
    rintro e w1 ⟨rfl, hb⟩
    have T1 := (one_mk w _ _).on hb
    go_wp2
    go_ret
    exact ⟨rfl, T1.1⟩

theorem rwidth_any (a b : Int) (w : World) :
    Calls Try.prog 34 #[.agg #[.int .i64 a, .int .i64 b]] w fun e w' => e = .returned (.int .i64 (Pl.width a b)) ∧ Below w.heap.size w w' := by
  have H := Lib.hid (rcheck_any a b)
  unfold Pl.width
  cases hd : Pl.dok a b with
  | true =>
    simp only [Pl.dchk_yes hd] at H
    obtain ⟨d1, d2, d3⟩ := Pl.dok_iff.1 hd
    have K := fun W => rsub_any b a (by omega) (by omega) (by omega) (by omega) W
    cases hf : Pl.fit (b - a) with
    | true =>
      simp only [Pl.kept_yes hf, hf] at K
      have K := Lib.hid K
      clear hd hf
      simp only [if_true]
      go_enter Try.func34, Try.ntmps34
      go_wp2_with fail
      refine (H.out _).mono ?_
      rintro e w1 ⟨rfl, hb⟩
      have T1 := (one_mk w _ _).on hb
      obtain ⟨q0, q1, z0⟩ := T1.cells
      go_wp2_with fail
      refine (K.out _).mono ?_
      rintro e w2 ⟨rfl, rfl⟩
      go_wp2
      go_ret
      exact ⟨rfl, T1.1⟩
    | false =>
      have k0 : Pl.kept (b - a) = 0 := by simp [Pl.kept, hf]
      simp only [k0, hf] at K
      have K := Lib.hid K
      clear hd hf k0
      simp only [if_true, Bool.false_eq_true, if_false]
      go_enter Try.func34, Try.ntmps34
      go_wp2_with fail
      refine (H.out _).mono ?_
      rintro e w1 ⟨rfl, hb⟩
      have T1 := (one_mk w _ _).on hb
      obtain ⟨q0, q1, z0⟩ := T1.cells
      go_wp2_with fail
      refine (K.out _).mono ?_
      rintro e w2 ⟨rfl, rfl⟩
      go_wp2
      go_ret
      exact ⟨rfl, T1.1⟩
  | false =>
    simp only [Pl.dchk_no hd] at H
    clear hd
    simp only [Bool.false_eq_true, if_false]
    go_enter Try.func34, Try.ntmps34
    go_wp2_with fail
    refine (H.out _).mono ?_
    rintro e w1 ⟨rfl, hb⟩
    have T1 := (one_mk w _ _).on hb
    go_wp2
    go_ret
    exact ⟨rfl, T1.1⟩

theorem dshift_any (a b d : Int) (h1 : -9223372036854775808 ≤ d) (h2 : d ≤ 9223372036854775807) (w : World) :
    Calls Try.prog 30 #[.agg #[.int .i64 a, .int .i64 b], .int .i64 d] w fun e w' => e = .returned (.tuple #[.agg #[.int .i64 (Pl.shift a b d).1, .int .i64 (Pl.shift a b d).2.1], .int .i64 (Pl.shift a b d).2.2]) ∧ Below w.heap.size w w' := by
  have H := Lib.hid (dcheck_any a b)
  unfold Pl.shift
  cases hd : Pl.dok a b with
  | true =>
    simp only [Pl.dchk_yes hd] at H
    obtain ⟨d1, d2, d3⟩ := Pl.dok_iff.1 hd
    have K1 := fun W => fadd_any a d (by omega) (by omega) (by omega) (by omega) W
    have K2 := fun W => fadd_any b d (by omega) (by omega) (by omega) (by omega) W
    obtain ⟨X, hX⟩ : ∃ X, Pl.dvl (a + d) (b + d) = X := ⟨_, rfl⟩
    have V := Lib.hid (fun W => hX ▸ dchecked_any (a + d) (b + d) W)
    rw [hX]
    clear hX hd h1 h2
    cases hf : Pl.fit (a + d) with
    | true =>
      have f1 := Pl.fit_iff.1 hf
      simp only [Pl.kept_yes hf, hf] at K1
      cases hg : Pl.fit (b + d) with
      | true =>
        have f2 := Pl.fit_iff.1 hg
        simp only [Pl.kept_yes hg, hg] at K2
        clear hf hg
        have K1 := Lib.hid K1
        have K2 := Lib.hid K2
        clear d1 d2 d3
        simp only [if_true, Bool.false_eq_true, if_false, Bool.and_self, Bool.and_false, Bool.false_and]
        go_enter Try.func30, Try.ntmps30
        go_wp2_with fail
        refine (H.out _).mono ?_
        rintro e w1 ⟨rfl, hb⟩
        have T1 := (two_mk w _ _ _ _).on hb
        obtain ⟨q0, q1, q2, q3, z0, z1, z2, z3⟩ := T1.cells
        go_wp2_with fail
        refine (K1.out _).mono ?_
        rintro e w2 ⟨rfl, rfl⟩
        go_wp2_with fail
        refine (K2.out _).mono ?_
        rintro e w2 ⟨rfl, rfl⟩
        go_wp2_with fail
        refine (V.out _).mono ?_
        rintro e w3 ⟨rfl, hb3⟩
        have T2 := T1.on hb3
        obtain ⟨p0, p1, p2, p3, y0, y1, y2, y3⟩ := T2.cells
        go_wp2
        refine bodyPost_ret (v := .tuple #[.agg #[.int .i64 X.1, .int .i64 X.2.1], .int .i64 X.2.2]) (by simp [results, Try.results30, go_sem, p2, p3, y0, y1]) rfl ⟨rfl, T2.fin _ _⟩
      | false =>
        have k0 : Pl.kept (b + d) = 0 := by simp [Pl.kept, hg]
        simp only [k0, hg] at K2
        clear hf hg k0
        have K1 := Lib.hid K1
        have K2 := Lib.hid K2
        clear d1 d2 d3
        simp only [if_true, Bool.false_eq_true, if_false, Bool.and_self, Bool.and_false, Bool.false_and]
        go_enter Try.func30, Try.ntmps30
        go_wp2_with fail
        refine (H.out _).mono ?_
        rintro e w1 ⟨rfl, hb⟩
        have T1 := (two_mk w _ _ _ _).on hb
        obtain ⟨q0, q1, q2, q3, z0, z1, z2, z3⟩ := T1.cells
        go_wp2_with fail
        refine (K1.out _).mono ?_
        rintro e w2 ⟨rfl, rfl⟩
        go_wp2_with fail
        refine (K2.out _).mono ?_
        rintro e w2 ⟨rfl, rfl⟩
        go_wp2
        refine bodyPost_ret (v := .tuple #[.agg #[.int .i64 0, .int .i64 0], .int .i64 3]) (by simp [results, Try.results30, go_sem, q2, q3, z0, z1]) rfl ⟨rfl, T1.fin _ _⟩
    | false =>
      have k0 : Pl.kept (a + d) = 0 := by simp [Pl.kept, hf]
      simp only [k0, hf] at K1
      clear hf k0
      obtain ⟨x1, hx1⟩ : ∃ x, Pl.kept (b + d) = x := ⟨_, rfl⟩
      obtain ⟨x2, hx2⟩ : ∃ x, Pl.fit (b + d) = x := ⟨_, rfl⟩
      simp only [hx1, hx2] at K2 ⊢
      clear hx1 hx2
      have K1 := Lib.hid K1
      have K2 := Lib.hid K2
      clear d1 d2 d3
      simp only [if_true, Bool.false_eq_true, if_false, Bool.and_self, Bool.and_false, Bool.false_and]
      go_enter Try.func30, Try.ntmps30
      go_wp2_with fail
      refine (H.out _).mono ?_
      rintro e w1 ⟨rfl, hb⟩
      have T1 := (two_mk w _ _ _ _).on hb
      obtain ⟨q0, q1, q2, q3, z0, z1, z2, z3⟩ := T1.cells
      go_wp2_with fail
      refine (K1.out _).mono ?_
      rintro e w2 ⟨rfl, rfl⟩
      go_wp2_with fail
      refine (K2.out _).mono ?_
      rintro e w2 ⟨rfl, rfl⟩
      go_wp2
      refine bodyPost_ret (v := .tuple #[.agg #[.int .i64 0, .int .i64 0], .int .i64 3]) (by simp [results, Try.results30, go_sem, q2, q3, z0, z1]) rfl ⟨rfl, T1.fin _ _⟩
  | false =>
    simp only [Pl.dchk_no hd] at H
    clear hd
    simp only [Bool.false_eq_true, if_false]
    go_enter Try.func30, Try.ntmps30
    go_wp2_with fail
    refine (H.out _).mono ?_
    rintro e w1 ⟨rfl, hb⟩
    have T1 := (two_mk w _ _ _ _).on hb
    obtain ⟨q0, q1, q2, q3, z0, z1, z2, z3⟩ := T1.cells
    go_wp2
    refine bodyPost_ret (v := .tuple #[.agg #[.int .i64 0, .int .i64 0], .int .i64 2]) (by simp [results, Try.results30, go_sem, q2, q3, z0, z1]) rfl ⟨rfl, T1.fin _ _⟩

theorem rshift_any (a b d : Int) (h1 : -9223372036854775808 ≤ d) (h2 : d ≤ 9223372036854775807) (w : World) :
    Calls Try.prog 31 #[.agg #[.int .i64 a, .int .i64 b], .int .i64 d] w fun e w' => e = .returned (.tuple #[.agg #[.int .i64 (Pl.shift a b d).1, .int .i64 (Pl.shift a b d).2.1], .int .i64 (Pl.shift a b d).2.2]) ∧ Below w.heap.size w w' := by
  have H := Lib.hid (rcheck_any a b)
  unfold Pl.shift
  cases hd : Pl.dok a b with
  | true =>
    simp only [Pl.dchk_yes hd] at H
    obtain ⟨d1, d2, d3⟩ := Pl.dok_iff.1 hd
    have K1 := fun W => radd_any a d (by omega) (by omega) (by omega) (by omega) W
    have K2 := fun W => radd_any b d (by omega) (by omega) (by omega) (by omega) W
    obtain ⟨X, hX⟩ : ∃ X, Pl.dvl (a + d) (b + d) = X := ⟨_, rfl⟩
    have V := Lib.hid (fun W => hX ▸ rvalid_any (a + d) (b + d) W)
    rw [hX]
    clear hX hd h1 h2
    cases hf : Pl.fit (a + d) with
    | true =>
      have f1 := Pl.fit_iff.1 hf
      simp only [Pl.kept_yes hf, hf] at K1
      cases hg : Pl.fit (b + d) with
      | true =>
        have f2 := Pl.fit_iff.1 hg
        simp only [Pl.kept_yes hg, hg] at K2
        clear hf hg
        have K1 := Lib.hid K1
        have K2 := Lib.hid K2
        clear d1 d2 d3
        simp only [if_true, Bool.false_eq_true, if_false, Bool.and_self, Bool.and_false, Bool.false_and]
        go_enter Try.func31, Try.ntmps31
        go_wp2_with fail
        refine (H.out _).mono ?_
        rintro e w1 ⟨rfl, hb⟩
        have T1 := (two_mk w _ _ _ _).on hb
        obtain ⟨q0, q1, q2, q3, z0, z1, z2, z3⟩ := T1.cells
        go_wp2_with fail
        refine (K1.out _).mono ?_
        rintro e w2 ⟨rfl, rfl⟩
        go_wp2_with fail
        refine (K2.out _).mono ?_
        rintro e w2 ⟨rfl, rfl⟩
        go_wp2_with fail
        refine (V.out _).mono ?_
        rintro e w3 ⟨rfl, hb3⟩
        have T2 := T1.on hb3
        obtain ⟨p0, p1, p2, p3, y0, y1, y2, y3⟩ := T2.cells
        go_wp2
        refine bodyPost_ret (v := .tuple #[.agg #[.int .i64 X.1, .int .i64 X.2.1], .int .i64 X.2.2]) (by simp [results, Try.results31, go_sem, p2, p3, y0, y1]) rfl ⟨rfl, T2.fin _ _⟩
      | false =>
        have k0 : Pl.kept (b + d) = 0 := by simp [Pl.kept, hg]
        simp only [k0, hg] at K2
        clear hf hg k0
        have K1 := Lib.hid K1
        have K2 := Lib.hid K2
        clear d1 d2 d3
        simp only [if_true, Bool.false_eq_true, if_false, Bool.and_self, Bool.and_false, Bool.false_and]
        go_enter Try.func31, Try.ntmps31
        go_wp2_with fail
        refine (H.out _).mono ?_
        rintro e w1 ⟨rfl, hb⟩
        have T1 := (two_mk w _ _ _ _).on hb
        obtain ⟨q0, q1, q2, q3, z0, z1, z2, z3⟩ := T1.cells
        go_wp2_with fail
        refine (K1.out _).mono ?_
        rintro e w2 ⟨rfl, rfl⟩
        go_wp2_with fail
        refine (K2.out _).mono ?_
        rintro e w2 ⟨rfl, rfl⟩
        go_wp2
        refine bodyPost_ret (v := .tuple #[.agg #[.int .i64 0, .int .i64 0], .int .i64 3]) (by simp [results, Try.results31, go_sem, q2, q3, z0, z1]) rfl ⟨rfl, T1.fin _ _⟩
    | false =>
      have k0 : Pl.kept (a + d) = 0 := by simp [Pl.kept, hf]
      simp only [k0, hf] at K1
      clear hf k0
      obtain ⟨x1, hx1⟩ : ∃ x, Pl.kept (b + d) = x := ⟨_, rfl⟩
      obtain ⟨x2, hx2⟩ : ∃ x, Pl.fit (b + d) = x := ⟨_, rfl⟩
      simp only [hx1, hx2] at K2 ⊢
      clear hx1 hx2
      have K1 := Lib.hid K1
      have K2 := Lib.hid K2
      clear d1 d2 d3
      simp only [if_true, Bool.false_eq_true, if_false, Bool.and_self, Bool.and_false, Bool.false_and]
      go_enter Try.func31, Try.ntmps31
      go_wp2_with fail
      refine (H.out _).mono ?_
      rintro e w1 ⟨rfl, hb⟩
      have T1 := (two_mk w _ _ _ _).on hb
      obtain ⟨q0, q1, q2, q3, z0, z1, z2, z3⟩ := T1.cells
      go_wp2_with fail
      refine (K1.out _).mono ?_
      rintro e w2 ⟨rfl, rfl⟩
      go_wp2_with fail
      refine (K2.out _).mono ?_
      rintro e w2 ⟨rfl, rfl⟩
      go_wp2
      refine bodyPost_ret (v := .tuple #[.agg #[.int .i64 0, .int .i64 0], .int .i64 3]) (by simp [results, Try.results31, go_sem, q2, q3, z0, z1]) rfl ⟨rfl, T1.fin _ _⟩
  | false =>
    simp only [Pl.dchk_no hd] at H
    clear hd
    simp only [Bool.false_eq_true, if_false]
    go_enter Try.func31, Try.ntmps31
    go_wp2_with fail
    refine (H.out _).mono ?_
    rintro e w1 ⟨rfl, hb⟩
    have T1 := (two_mk w _ _ _ _).on hb
    obtain ⟨q0, q1, q2, q3, z0, z1, z2, z3⟩ := T1.cells
    go_wp2
    refine bodyPost_ret (v := .tuple #[.agg #[.int .i64 0, .int .i64 0], .int .i64 2]) (by simp [results, Try.results31, go_sem, q2, q3, z0, z1]) rfl ⟨rfl, T1.fin _ _⟩

theorem dmeet_any (a b c d : Int) (w : World) :
    Calls Try.prog 21 #[.agg #[.int .i64 a, .int .i64 b], .agg #[.int .i64 c, .int .i64 d]] w fun e w' => e = .returned (.tuple #[.agg #[.int .i64 (Pl.meet a b c d).1, .int .i64 (Pl.meet a b c d).2.1], .bool (Pl.meet a b c d).2.2]) ∧ Below w.heap.size w w' := by
  have H1 := Lib.hid (dcheck_any a b)
  have H2 := Lib.hid (dcheck_any c d)
  unfold Pl.meet
  cases hd : Pl.dok a b with
  | true =>
    simp only [Pl.dchk_yes hd] at H1
    cases he : Pl.dok c d with
    | true =>
      simp only [Pl.dchk_yes he] at H2
      clear hd he
      by_cases hm : max a c ≤ min b d
      · have e1 : (true && true && decide (max a c ≤ min b d)) = true := by simpa using hm
        simp only [e1, if_true]
        clear e1
        go_enter Try.func21, Try.ntmps21
        go_wp2_with fail
        refine (H1.out _).mono ?_
        rintro e w1 ⟨rfl, hb⟩
        have T1 := (three_mk w _ _ _ _ _ _).on hb
        obtain ⟨q0, q1, q2, q3, q4, q5, z0, z1, z2, z3, z4⟩ := T1.cells
        go_wp2_with fail
        refine (H2.out _).mono ?_
        rintro e w2 ⟨rfl, hb2⟩
        have T2 := T1.on hb2
        obtain ⟨p0, p1, p2, p3, p4, p5, y0, y1, y2, y3, y4⟩ := T2.cells
        go_wp2
        refine bodyPost_ret (v := .tuple #[.agg #[.int .i64 (max a c), .int .i64 (min b d)], .bool true]) (by simp [results, Try.results21, go_sem, p4, p5, y0, y1, y2]) rfl ⟨rfl, bel_more (T2.fin _ _) _⟩
      · have e1 : (true && true && decide (max a c ≤ min b d)) = false := by simpa using hm
        simp only [e1, Bool.false_eq_true, if_false]
        clear e1
        go_enter Try.func21, Try.ntmps21
        go_wp2_with fail
        refine (H1.out _).mono ?_
        rintro e w1 ⟨rfl, hb⟩
        have T1 := (three_mk w _ _ _ _ _ _).on hb
        obtain ⟨q0, q1, q2, q3, q4, q5, z0, z1, z2, z3, z4⟩ := T1.cells
        go_wp2_with fail
        refine (H2.out _).mono ?_
        rintro e w2 ⟨rfl, hb2⟩
        have T2 := T1.on hb2
        obtain ⟨p0, p1, p2, p3, p4, p5, y0, y1, y2, y3, y4⟩ := T2.cells
        go_wp2
        refine bodyPost_ret (v := .tuple #[.agg #[.int .i64 0, .int .i64 0], .bool false]) (by simp [results, Try.results21, go_sem, p4, p5, y0, y1, y2]) rfl ⟨rfl, bel_more (T2.fin _ _) _⟩
    | false =>
      simp only [Pl.dchk_no he] at H2
      clear hd he
      simp only [Bool.and_false, Bool.false_and, Bool.false_eq_true, if_false]
      go_enter Try.func21, Try.ntmps21
      go_wp2_with fail
      refine (H1.out _).mono ?_
      rintro e w1 ⟨rfl, hb⟩
      have T1 := (three_mk w _ _ _ _ _ _).on hb
      obtain ⟨q0, q1, q2, q3, q4, q5, z0, z1, z2, z3, z4⟩ := T1.cells
      go_wp2_with fail
      refine (H2.out _).mono ?_
      rintro e w2 ⟨rfl, hb2⟩
      have T2 := T1.on hb2
      obtain ⟨p0, p1, p2, p3, p4, p5, y0, y1, y2, y3, y4⟩ := T2.cells
      go_wp2
      refine bodyPost_ret (v := .tuple #[.agg #[.int .i64 0, .int .i64 0], .bool false]) (by simp [results, Try.results21, go_sem, p4, p5, y0, y1, y2]) rfl ⟨rfl, T2.fin _ _⟩
  | false =>
    simp only [Pl.dchk_no hd] at H1
    clear hd
    simp only [Bool.false_and, Bool.false_eq_true, if_false]
    go_enter Try.func21, Try.ntmps21
    go_wp2_with fail
    refine (H1.out _).mono ?_
    rintro e w1 ⟨rfl, hb⟩
    have T1 := (three_mk w _ _ _ _ _ _).on hb
    obtain ⟨q0, q1, q2, q3, q4, q5, z0, z1, z2, z3, z4⟩ := T1.cells
    go_wp2
    refine bodyPost_ret (v := .tuple #[.agg #[.int .i64 0, .int .i64 0], .bool false]) (by simp [results, Try.results21, go_sem, q4, q5, z0, z1, z2]) rfl ⟨rfl, T1.fin _ _⟩

theorem rmeet_any (a b c d : Int) (w : World) :
    Calls Try.prog 29 #[.agg #[.int .i64 a, .int .i64 b], .agg #[.int .i64 c, .int .i64 d]] w fun e w' => e = .returned (.tuple #[.agg #[.int .i64 (Pl.meet a b c d).1, .int .i64 (Pl.meet a b c d).2.1], .bool (Pl.meet a b c d).2.2]) ∧ Below w.heap.size w w' := by
  have H1 := Lib.hid (rcheck_any a b)
  have H2 := Lib.hid (rcheck_any c d)
  unfold Pl.meet
  cases hd : Pl.dok a b with
  | true =>
    simp only [Pl.dchk_yes hd] at H1
    cases he : Pl.dok c d with
    | true =>
      simp only [Pl.dchk_yes he] at H2
      clear hd he
      by_cases hm : max a c ≤ min b d
      · have e1 : (true && true && decide (max a c ≤ min b d)) = true := by simpa using hm
        simp only [e1, if_true]
        clear e1
        go_enter Try.func29, Try.ntmps29
        go_wp2_with fail
        refine (H1.out _).mono ?_
        rintro e w1 ⟨rfl, hb⟩
        have T1 := (four_mk w _ _ _ _ _ _ _ _).on hb
        obtain ⟨q0, q1, q2, q3, q4, q5, q6, q7, z0, z1, z2, z3, z4, z5⟩ := T1.cells
        go_wp2_with fail
        refine (H2.out _).mono ?_
        rintro e w2 ⟨rfl, hb2⟩
        have T2 := T1.on hb2
        obtain ⟨p0, p1, p2, p3, p4, p5, p6, p7, y0, y1, y2, y3, y4, y5⟩ := T2.cells
        go_wp2
        refine bodyPost_ret (v := .tuple #[.agg #[.int .i64 (max a c), .int .i64 (min b d)], .bool true]) (by simp [results, Try.results29, go_sem, p4, p5, y0, y1, y2]) rfl ⟨rfl, T2.1.fin _ _⟩
      · have e1 : (true && true && decide (max a c ≤ min b d)) = false := by simpa using hm
        simp only [e1, Bool.false_eq_true, if_false]
        clear e1
        go_enter Try.func29, Try.ntmps29
        go_wp2_with fail
        refine (H1.out _).mono ?_
        rintro e w1 ⟨rfl, hb⟩
        have T1 := (four_mk w _ _ _ _ _ _ _ _).on hb
        obtain ⟨q0, q1, q2, q3, q4, q5, q6, q7, z0, z1, z2, z3, z4, z5⟩ := T1.cells
        go_wp2_with fail
        refine (H2.out _).mono ?_
        rintro e w2 ⟨rfl, hb2⟩
        have T2 := T1.on hb2
        obtain ⟨p0, p1, p2, p3, p4, p5, p6, p7, y0, y1, y2, y3, y4, y5⟩ := T2.cells
        go_wp2
        refine bodyPost_ret (v := .tuple #[.agg #[.int .i64 0, .int .i64 0], .bool false]) (by simp [results, Try.results29, go_sem, p4, p5, y0, y1, y2]) rfl ⟨rfl, T2.1.fin _ _⟩
    | false =>
      simp only [Pl.dchk_no he] at H2
      clear hd he
      simp only [Bool.and_false, Bool.false_and, Bool.false_eq_true, if_false]
      go_enter Try.func29, Try.ntmps29
      go_wp2_with fail
      refine (H1.out _).mono ?_
      rintro e w1 ⟨rfl, hb⟩
      have T1 := (four_mk w _ _ _ _ _ _ _ _).on hb
      obtain ⟨q0, q1, q2, q3, q4, q5, q6, q7, z0, z1, z2, z3, z4, z5⟩ := T1.cells
      go_wp2_with fail
      refine (H2.out _).mono ?_
      rintro e w2 ⟨rfl, hb2⟩
      have T2 := T1.on hb2
      obtain ⟨p0, p1, p2, p3, p4, p5, p6, p7, y0, y1, y2, y3, y4, y5⟩ := T2.cells
      go_wp2
      refine bodyPost_ret (v := .tuple #[.agg #[.int .i64 0, .int .i64 0], .bool false]) (by simp [results, Try.results29, go_sem, p4, p5, y0, y1, y2]) rfl ⟨rfl, T2.1.fin _ _⟩
  | false =>
    simp only [Pl.dchk_no hd] at H1
    clear hd
    simp only [Bool.false_and, Bool.false_eq_true, if_false]
    go_enter Try.func29, Try.ntmps29
    go_wp2_with fail
    refine (H1.out _).mono ?_
    rintro e w1 ⟨rfl, hb⟩
    have T1 := (four_mk w _ _ _ _ _ _ _ _).on hb
    obtain ⟨q0, q1, q2, q3, q4, q5, q6, q7, z0, z1, z2, z3, z4, z5⟩ := T1.cells
    go_wp2
    refine bodyPost_ret (v := .tuple #[.agg #[.int .i64 0, .int .i64 0], .bool false]) (by simp [results, Try.results29, go_sem, q4, q5, z0, z1, z2]) rfl ⟨rfl, T1.1.fin _ _⟩


end Go.Proofs.Ytkdanfhgnpgmmaa
