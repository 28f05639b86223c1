/- Contracts of Has, Hull, Meet, Width, Shift of layer 11 and of Add and Sub of layer 1. -/
import Derived.Test.YtkdanfhgnpgmmaaDrift
import Derived.Test.YtkdanfhgnpgmmaaBoxes
namespace Go.Proofs.Ytkdanfhgnpgmmaa
open Go.RowKit Go.Lib

theorem dhas_any (a b t : Int) (w : World) :
    Calls Try.prog 22 #[.agg #[.int .i64 a, .int .i64 b], .int .i64 t] w fun e w' => e = .returned (.bool (Pl.has a b t)) ∧ Below w.heap.size w w' := by
  have H := Lib.hid (dcheck_any a b)
  cases hd : Pl.dok a b with
  | true =>
    simp only [Pl.dchk_yes hd] at H
    have e : Pl.has a b t = (decide (a ≤ t) && decide (t ≤ b)) := by simp [Pl.has, hd]
    rw [e]
    clear hd e
    go_enter Try.func22, Try.ntmps22
    go_wp2_with (go_at_call 13; refine (H.out _).mono ?_; rintro e w1 ⟨rfl, hb⟩; have T1 := (one_mk w _ _).on hb; obtain ⟨q0, q1, z0⟩ := T1.cells)
    all_goals (go_ret; exact ⟨congrArg Ending.returned (congrArg Value.bool (by simp <;> omega)), T1.1⟩)
  | false =>
    simp only [Pl.dchk_no hd] at H
    have e : Pl.has a b t = false := by simp [Pl.has, hd]
    rw [e]
    clear hd e
    go_enter Try.func22, Try.ntmps22
    go_wp2_with (go_at_call 13; refine (H.out _).mono ?_; rintro e w1 ⟨rfl, hb⟩; have T1 := (one_mk w _ _).on hb; obtain ⟨q0, q1, z0⟩ := T1.cells)
    all_goals (go_ret; exact ⟨rfl, T1.1⟩)

theorem fsub_any (a b : Int) (h1 : -9223372036854775808 ≤ a) (h2 : a ≤ 9223372036854775807) (h3 : -9223372036854775808 ≤ b) (h4 : b ≤ 9223372036854775807) (w : World) :
    Calls Try.prog 44 #[.int .i64 a, .int .i64 b] w fun e w' => e = .returned (.tuple #[.int .i64 (Pl.kept (a - b)), .bool (Pl.fit (a - b))]) ∧ w = w' := by
  cases hf : Pl.fit (a - b) with
  | true =>
    rw [Pl.kept_yes hf]
    have hf' := Pl.fit_iff.1 hf
    clear hf
    rcases Int.lt_or_le a 0 with s1 | s1 <;> rcases Int.lt_or_le b 0 with s2 | s2
    all_goals (go_enter Try.func44, Try.ntmps44)
    all_goals (go_wp2)
    all_goals (first | (exfalso; simp at *; omega) | (refine bodyPost_ret (v := .tuple #[.int .i64 (a - b), .bool true]) (by simp [results, Try.results44, go_sem]) rfl ⟨rfl, rfl⟩))
  | false =>
    have hf' := Pl.fit_no.1 hf
    have e : Pl.kept (a - b) = 0 := by simp [Pl.kept, hf]
    rw [e]
    clear hf e
    rcases Int.lt_or_le a 0 with s1 | s1 <;> rcases Int.lt_or_le b 0 with s2 | s2
    all_goals (first | (exfalso; omega) | skip)
    · obtain ⟨X, hX⟩ : ∃ X, a - b + 18446744073709551616 = X := ⟨_, rfl⟩
      have hw : wrap64 (a - b) = X := by rw [← hX]; unfold wrap64; omega
      have hX1 : 0 ≤ X := by omega
      go_enter Try.func44, Try.ntmps44
      go_wp2
      all_goals first | (exfalso; rename_i h; simp at h; omega) | (refine bodyPost_ret (v := .tuple #[.int .i64 0, .bool false]) (by simp [results, Try.results44, go_sem]) rfl ⟨rfl, rfl⟩)
    · obtain ⟨X, hX⟩ : ∃ X, a - b - 18446744073709551616 = X := ⟨_, rfl⟩
      have hw : wrap64 (a - b) = X := by rw [← hX]; unfold wrap64; omega
      have hX1 : X < 0 := by omega
      go_enter Try.func44, Try.ntmps44
      go_wp2
      all_goals first | (exfalso; rename_i h; simp at h; omega) | (refine bodyPost_ret (v := .tuple #[.int .i64 0, .bool false]) (by simp [results, Try.results44, go_sem]) rfl ⟨rfl, rfl⟩)
theorem fadd_any (a b : Int) (h1 : -9223372036854775808 ≤ a) (h2 : a ≤ 9223372036854775807) (h3 : -9223372036854775808 ≤ b) (h4 : b ≤ 9223372036854775807) (w : World) :
    Calls Try.prog 45 #[.int .i64 a, .int .i64 b] w fun e w' => e = .returned (.tuple #[.int .i64 (Pl.kept (a + b)), .bool (Pl.fit (a + b))]) ∧ w = w' := by
  cases hf : Pl.fit (a + b) with
  | true =>
    rw [Pl.kept_yes hf]
    have hf' := Pl.fit_iff.1 hf
    clear hf
    rcases Int.lt_or_le a 0 with s1 | s1 <;> rcases Int.lt_or_le b 0 with s2 | s2
    all_goals (go_enter Try.func45, Try.ntmps45)
    all_goals (go_wp2)
    all_goals (first | (exfalso; simp at *; omega) | (refine bodyPost_ret (v := .tuple #[.int .i64 (a + b), .bool true]) (by simp [results, Try.results45, go_sem]) rfl ⟨rfl, rfl⟩))
  | false =>
    have hf' := Pl.fit_no.1 hf
    have e : Pl.kept (a + b) = 0 := by simp [Pl.kept, hf]
    rw [e]
    clear hf e
    rcases Int.lt_or_le a 0 with s1 | s1 <;> rcases Int.lt_or_le b 0 with s2 | s2
    all_goals (first | (exfalso; omega) | skip)
    · obtain ⟨X, hX⟩ : ∃ X, a + b + 18446744073709551616 = X := ⟨_, rfl⟩
      have hw : wrap64 (a + b) = X := by rw [← hX]; unfold wrap64; omega
      have hX1 : 0 ≤ X := by omega
      go_enter Try.func45, Try.ntmps45
      go_wp2
      all_goals first | (exfalso; rename_i h; simp at h; omega) | (refine bodyPost_ret (v := .tuple #[.int .i64 0, .bool false]) (by simp [results, Try.results45, go_sem]) rfl ⟨rfl, rfl⟩)
    · obtain ⟨X, hX⟩ : ∃ X, a + b - 18446744073709551616 = X := ⟨_, rfl⟩
      have hw : wrap64 (a + b) = X := by rw [← hX]; unfold wrap64; omega
      have hX1 : X < 0 := by omega
      go_enter Try.func45, Try.ntmps45
      go_wp2
      all_goals first | (exfalso; rename_i h; simp at h; omega) | (refine bodyPost_ret (v := .tuple #[.int .i64 0, .bool false]) (by simp [results, Try.results45, go_sem]) rfl ⟨rfl, rfl⟩)
theorem rsub_any (a b : Int) (h1 : -9223372036854775808 ≤ a) (h2 : a ≤ 9223372036854775807) (h3 : -9223372036854775808 ≤ b) (h4 : b ≤ 9223372036854775807) (w : World) :
    Calls Try.prog 47 #[.int .i64 a, .int .i64 b] w fun e w' => e = .returned (.tuple #[.int .i64 (Pl.kept (a - b)), .bool (Pl.fit (a - b))]) ∧ w = w' := by
  cases hf : Pl.fit (a - b) with
  | true =>
    rw [Pl.kept_yes hf]
    have hf' := Pl.fit_iff.1 hf
    clear hf
    rcases Int.lt_or_le a 0 with s1 | s1 <;> rcases Int.lt_or_le b 0 with s2 | s2
    all_goals (go_enter Try.func47, Try.ntmps47)
    all_goals (go_wp2)
    all_goals (first | (exfalso; simp at *; omega) | (refine bodyPost_ret (v := .tuple #[.int .i64 (a - b), .bool true]) (by simp [results, Try.results47, go_sem]) rfl ⟨rfl, rfl⟩))
  | false =>
    have hf' := Pl.fit_no.1 hf
    have e : Pl.kept (a - b) = 0 := by simp [Pl.kept, hf]
    rw [e]
    clear hf e
    rcases Int.lt_or_le a 0 with s1 | s1 <;> rcases Int.lt_or_le b 0 with s2 | s2
    all_goals (first | (exfalso; omega) | skip)
    · obtain ⟨X, hX⟩ : ∃ X, a - b + 18446744073709551616 = X := ⟨_, rfl⟩
      have hw : wrap64 (a - b) = X := by rw [← hX]; unfold wrap64; omega
      have hX1 : 0 ≤ X := by omega
      go_enter Try.func47, Try.ntmps47
      go_wp2
      all_goals first | (exfalso; rename_i h; simp at h; omega) | (refine bodyPost_ret (v := .tuple #[.int .i64 0, .bool false]) (by simp [results, Try.results47, go_sem]) rfl ⟨rfl, rfl⟩)
    · obtain ⟨X, hX⟩ : ∃ X, a - b - 18446744073709551616 = X := ⟨_, rfl⟩
      have hw : wrap64 (a - b) = X := by rw [← hX]; unfold wrap64; omega
      have hX1 : X < 0 := by omega
      go_enter Try.func47, Try.ntmps47
      go_wp2
      all_goals first | (exfalso; rename_i h; simp at h; omega) | (refine bodyPost_ret (v := .tuple #[.int .i64 0, .bool false]) (by simp [results, Try.results47, go_sem]) rfl ⟨rfl, rfl⟩)
theorem radd_any (a b : Int) (h1 : -9223372036854775808 ≤ a) (h2 : a ≤ 9223372036854775807) (h3 : -9223372036854775808 ≤ b) (h4 : b ≤ 9223372036854775807) (w : World) :
    Calls Try.prog 46 #[.int .i64 a, .int .i64 b] w fun e w' => e = .returned (.tuple #[.int .i64 (Pl.kept (a + b)), .bool (Pl.fit (a + b))]) ∧ w = w' := by
  cases hf : Pl.fit (a + b) with
  | true =>
    rw [Pl.kept_yes hf]
    have hf' := Pl.fit_iff.1 hf
    clear hf
    rcases Int.lt_or_le a 0 with s1 | s1 <;> rcases Int.lt_or_le b 0 with s2 | s2
    all_goals (go_enter Try.func46, Try.ntmps46)
    all_goals (go_wp2)
    all_goals (first | (exfalso; simp at *; omega) | (refine bodyPost_ret (v := .tuple #[.int .i64 (a + b), .bool true]) (by simp [results, Try.results46, go_sem]) rfl ⟨rfl, rfl⟩))
  | false =>
    have hf' := Pl.fit_no.1 hf
    have e : Pl.kept (a + b) = 0 := by simp [Pl.kept, hf]
    rw [e]
    clear hf e
    rcases Int.lt_or_le a 0 with s1 | s1 <;> rcases Int.lt_or_le b 0 with s2 | s2
    all_goals (first | (exfalso; omega) | skip)
    · obtain ⟨X, hX⟩ : ∃ X, a + b + 18446744073709551616 = X := ⟨_, rfl⟩
      have hw : wrap64 (a + b) = X := by rw [← hX]; unfold wrap64; omega
      have hX1 : 0 ≤ X := by omega
      go_enter Try.func46, Try.ntmps46
      go_wp2
      all_goals first | (exfalso; rename_i h; simp at h; omega) | (refine bodyPost_ret (v := .tuple #[.int .i64 0, .bool false]) (by simp [results, Try.results46, go_sem]) rfl ⟨rfl, rfl⟩)
    · obtain ⟨X, hX⟩ : ∃ X, a + b - 18446744073709551616 = X := ⟨_, rfl⟩
      have hw : wrap64 (a + b) = X := by rw [← hX]; unfold wrap64; omega
      have hX1 : X < 0 := by omega
      go_enter Try.func46, Try.ntmps46
      go_wp2
      all_goals first | (exfalso; rename_i h; simp at h; omega) | (refine bodyPost_ret (v := .tuple #[.int .i64 0, .bool false]) (by simp [results, Try.results46, go_sem]) rfl ⟨rfl, rfl⟩)
theorem rhas_any (a b t : Int) (w : World) :
    Calls Try.prog 33 #[.agg #[.int .i64 a, .int .i64 b], .int .i64 t] w fun e w' => e = .returned (.bool (Pl.has a b t)) ∧ Below w.heap.size w w' := by
  have H := Lib.hid (rcheck_any a b)
  cases hd : Pl.dok a b with
  | true =>
    simp only [Pl.dchk_yes hd] at H
    have e : Pl.has a b t = (decide (a ≤ t) && decide (t ≤ b)) := by simp [Pl.has, hd]
    rw [e]
    clear hd e
    go_enter Try.func33, Try.ntmps33
    go_wp2_with (go_at_call 14; refine (H.out _).mono ?_; rintro e w1 ⟨rfl, hb⟩; have T1 := (one_mk w _ _).on hb; obtain ⟨q0, q1, z0⟩ := T1.cells)
    all_goals (go_ret; exact ⟨congrArg Ending.returned (congrArg Value.bool (by simp <;> omega)), T1.1⟩)
  | false =>
    simp only [Pl.dchk_no hd] at H
    have e : Pl.has a b t = false := by simp [Pl.has, hd]
    rw [e]
    clear hd e
    go_enter Try.func33, Try.ntmps33
    go_wp2_with (go_at_call 14; refine (H.out _).mono ?_; rintro e w1 ⟨rfl, hb⟩; have T1 := (one_mk w _ _).on hb; obtain ⟨q0, q1, z0⟩ := T1.cells)
    all_goals (go_ret; exact ⟨rfl, T1.1⟩)

theorem dhull_any (a b c d : Int) (w : World) :
    Calls Try.prog 23 #[.agg #[.int .i64 a, .int .i64 b], .agg #[.int .i64 c, .int .i64 d]] w fun e w' => e = .returned (.agg #[.int .i64 (Pl.hull a b c d).1, .int .i64 (Pl.hull a b c d).2]) ∧ Below w.heap.size w w' := by
  have H1 := Lib.hid (dcheck_any a b)
  have H2 := Lib.hid (dcheck_any c d)
  unfold Pl.hull
  cases hd : Pl.dok a b with
  | true =>
    simp only [Pl.dchk_yes hd] at H1
    cases he : Pl.dok c d with
    | true =>
      simp only [Pl.dchk_yes he] at H2
      clear hd he
      simp only [Bool.and_self, if_true]
      go_enter Try.func23, Try.ntmps23
      go_wp2_with fail
      refine (H1.out _).mono ?_
      rintro e w1 ⟨rfl, hb⟩
      have T1 := (three_mk w _ _ _ _ _ _).on hb
      obtain ⟨q0, q1, q2, q3, q4, q5, z0, z1, z2, z3, z4⟩ := T1.cells
      go_wp2_with fail
      refine (H2.out _).mono ?_
      rintro e w2 ⟨rfl, hb2⟩
      have T2 := T1.on hb2
      obtain ⟨p0, p1, p2, p3, p4, p5, y0, y1, y2, y3, y4⟩ := T2.cells
      go_wp2
      refine bodyPost_ret (v := .agg #[.int .i64 (min a c), .int .i64 (max b d)]) (by simp [results, Try.results23, go_sem, p4, p5, y2]) rfl ⟨rfl, T2.fin _ _⟩
    | false =>
      simp only [Pl.dchk_no he] at H2
      clear hd he
      simp only [Bool.and_false, Bool.false_eq_true, if_false]
      go_enter Try.func23, Try.ntmps23
      go_wp2_with fail
      refine (H1.out _).mono ?_
      rintro e w1 ⟨rfl, hb⟩
      have T1 := (three_mk w _ _ _ _ _ _).on hb
      obtain ⟨q0, q1, q2, q3, q4, q5, z0, z1, z2, z3, z4⟩ := T1.cells
      go_wp2_with fail
      refine (H2.out _).mono ?_
      rintro e w2 ⟨rfl, hb2⟩
      have T2 := T1.on hb2
      obtain ⟨p0, p1, p2, p3, p4, p5, y0, y1, y2, y3, y4⟩ := T2.cells
      go_wp2
      refine bodyPost_ret (v := .agg #[.int .i64 0, .int .i64 0]) (by simp [results, Try.results23, go_sem, p4, p5, y2]) rfl ⟨rfl, T2.fin _ _⟩
  | false =>
    simp only [Pl.dchk_no hd] at H1
    clear hd
    simp only [Bool.false_and, Bool.false_eq_true, if_false]
    go_enter Try.func23, Try.ntmps23
    go_wp2_with fail
    refine (H1.out _).mono ?_
    rintro e w1 ⟨rfl, hb⟩
    have T1 := (three_mk w _ _ _ _ _ _).on hb
    obtain ⟨q0, q1, q2, q3, q4, q5, z0, z1, z2, z3, z4⟩ := T1.cells
    go_wp2
    refine bodyPost_ret (v := .agg #[.int .i64 0, .int .i64 0]) (by simp [results, Try.results23, go_sem, q4, q5, z2]) rfl ⟨rfl, T1.fin _ _⟩

theorem rhull_any (a b c d : Int) (w : World) :
    Calls Try.prog 32 #[.agg #[.int .i64 a, .int .i64 b], .agg #[.int .i64 c, .int .i64 d]] w fun e w' => e = .returned (.agg #[.int .i64 (Pl.hull a b c d).1, .int .i64 (Pl.hull a b c d).2]) ∧ Below w.heap.size w w' := by
  have H1 := Lib.hid (rcheck_any a b)
  have H2 := Lib.hid (rcheck_any c d)
  unfold Pl.hull
  cases hd : Pl.dok a b with
  | true =>
    simp only [Pl.dchk_yes hd] at H1
    cases he : Pl.dok c d with
    | true =>
      simp only [Pl.dchk_yes he] at H2
      clear hd he
      simp only [Bool.and_self, if_true]
      go_enter Try.func32, Try.ntmps32
      go_wp2_with fail
      refine (H1.out _).mono ?_
      rintro e w1 ⟨rfl, hb⟩
      have T1 := (three_mk w _ _ _ _ _ _).on hb
      obtain ⟨q0, q1, q2, q3, q4, q5, z0, z1, z2, z3, z4⟩ := T1.cells
      go_wp2_with fail
      refine (H2.out _).mono ?_
      rintro e w2 ⟨rfl, hb2⟩
      have T2 := T1.on hb2
      obtain ⟨p0, p1, p2, p3, p4, p5, y0, y1, y2, y3, y4⟩ := T2.cells
      go_wp2
      refine bodyPost_ret (v := .agg #[.int .i64 (min a c), .int .i64 (max b d)]) (by simp [results, Try.results32, go_sem, p4, p5, y2]) rfl ⟨rfl, T2.fin _ _⟩
    | false =>
      simp only [Pl.dchk_no he] at H2
      clear hd he
      simp only [Bool.and_false, Bool.false_eq_true, if_false]
      go_enter Try.func32, Try.ntmps32
      go_wp2_with fail
      refine (H1.out _).mono ?_
      rintro e w1 ⟨rfl, hb⟩
      have T1 := (three_mk w _ _ _ _ _ _).on hb
      obtain ⟨q0, q1, q2, q3, q4, q5, z0, z1, z2, z3, z4⟩ := T1.cells
      go_wp2_with fail
      refine (H2.out _).mono ?_
      rintro e w2 ⟨rfl, hb2⟩
      have T2 := T1.on hb2
      obtain ⟨p0, p1, p2, p3, p4, p5, y0, y1, y2, y3, y4⟩ := T2.cells
      go_wp2
      refine bodyPost_ret (v := .agg #[.int .i64 0, .int .i64 0]) (by simp [results, Try.results32, go_sem, p4, p5, y2]) rfl ⟨rfl, T2.fin _ _⟩
  | false =>
    simp only [Pl.dchk_no hd] at H1
    clear hd
    simp only [Bool.false_and, Bool.false_eq_true, if_false]
    go_enter Try.func32, Try.ntmps32
    go_wp2_with fail
    refine (H1.out _).mono ?_
    rintro e w1 ⟨rfl, hb⟩
    have T1 := (three_mk w _ _ _ _ _ _).on hb
    obtain ⟨q0, q1, q2, q3, q4, q5, z0, z1, z2, z3, z4⟩ := T1.cells
    go_wp2
    refine bodyPost_ret (v := .agg #[.int .i64 0, .int .i64 0]) (by simp [results, Try.results32, go_sem, q4, q5, z2]) rfl ⟨rfl, T1.fin _ _⟩

end Go.Proofs.Ytkdanfhgnpgmmaa
