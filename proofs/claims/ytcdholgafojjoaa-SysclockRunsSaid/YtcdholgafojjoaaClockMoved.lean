/- Contracts of moved and Now of the clock. -/
import Derived.Test.YtcdholgafojjoaaClockNow
namespace Go.Proofs.Ytcdholgafojjoaa
open Go.RowKit Go.Lib

theorem Two.out6 {w W : World} {t s : TypeId} {c d : Array Value} (h : Two w W t s c d) (u0 u1 u2 u3 u4 u5 : Value) :
    Below w.heap.size w ((((((W.setCell ⟨w.heap.size + 1, 0, none⟩ u0).setCell ⟨w.heap.size + 1, 1, none⟩ u1).setCell ⟨w.heap.size + 1, 2, none⟩ u2).setCell ⟨w.heap.size + 1, 3, none⟩ u3).setCell ⟨w.heap.size + 1, 4, none⟩ u4).setCell ⟨w.heap.size + 1, 5, none⟩ u5) := by
  have h0 := Below.setCell (p := ⟨w.heap.size + 1, 0, none⟩) h.1 (Nat.le_succ _) u0
  have h1 := Below.setCell (p := ⟨w.heap.size + 1, 1, none⟩) h0 (Nat.le_succ _) u1
  have h2 := Below.setCell (p := ⟨w.heap.size + 1, 2, none⟩) h1 (Nat.le_succ _) u2
  have h3 := Below.setCell (p := ⟨w.heap.size + 1, 3, none⟩) h2 (Nat.le_succ _) u3
  have h4 := Below.setCell (p := ⟨w.heap.size + 1, 4, none⟩) h3 (Nat.le_succ _) u4
  exact Below.setCell (p := ⟨w.heap.size + 1, 5, none⟩) h4 (Nat.le_succ _) u5
theorem now_shape (s : Pl.CS) (raw : Int) : (raw < s.raw ∧ Pl.nowE s raw = 12 ∧ Pl.nowT s raw = 0) ∨ (s.raw ≤ raw ∧ 4503599627370496 < raw ∧ Pl.nowE s raw = 3 ∧ Pl.nowT s raw = 0) ∨ (s.raw ≤ raw ∧ raw ≤ 4503599627370496 ∧ Pl.inn (Pl.shown s (raw - s.raw)) 4503599627370496 = false ∧ Pl.nowE s raw = 3 ∧ Pl.nowT s raw = 0) ∨ (s.raw ≤ raw ∧ raw ≤ 4503599627370496 ∧ Pl.inn (Pl.shown s (raw - s.raw)) 4503599627370496 = true ∧ Pl.nowE s raw = 0 ∧ Pl.nowT s raw = Pl.shown s (raw - s.raw)) := by
  unfold Pl.nowT Pl.nowE
  by_cases c1 : raw < s.raw
  · exact .inl ⟨c1, by simp [c1], by simp [c1]⟩
  · by_cases c2 : 4503599627370496 < raw
    · exact .inr (.inl ⟨by omega, c2, by simp [c1, c2], by simp [c1, c2]⟩)
    · cases c3 : Pl.inn (Pl.shown s (raw - s.raw)) 4503599627370496 with
      | false => exact .inr (.inr (.inl ⟨by omega, by omega, rfl, by simp [c1, c2], by simp [c1, c2]⟩))
      | true => exact .inr (.inr (.inr ⟨by omega, by omega, rfl, by simp [c1, c2], by simp [c1, c2]⟩))

theorem cnow_any (b : Nat) (s : Pl.CS) (raw : Int) (w : World) (hk : Blk w b 51 (csA s)) (h : s.ok = true) :
    Calls Try.prog 20 #[.pointer (some ⟨b, 0, none⟩), .int .i64 raw] w fun e w' => e = .returned (.tuple #[.int .i64 (Pl.nowT s raw), .int .i64 (Pl.nowE s raw)]) ∧ Below w.heap.size w w' := by
  obtain ⟨k0, k1, k2, k3, k4, k5⟩ := cs_cells hk
  have kz := hk.lt
  obtain ⟨r1, r2⟩ := (Pl.CS.ok_iff.1 h).1
  rcases now_shape s raw with ⟨c1, e1, e2⟩ | ⟨c1, c2, e1, e2⟩ | ⟨c1, c2, c3, e1, e2⟩ | ⟨c1, c2, c3, e1, e2⟩
  · rw [e1, e2]
    clear h hk e1 e2
    go_enter Try.func20, Try.ntmps20
    go_wp2
    exact bodyPost_ret (v := .tuple #[.int .i64 0, .int .i64 12]) (by simp [results, Try.results20, go_sem]) rfl ⟨rfl, Below.refl _ _⟩
  · rw [e1, e2]
    clear h hk e1 e2
    go_enter Try.func20, Try.ntmps20
    go_wp2
    exact bodyPost_ret (v := .tuple #[.int .i64 0, .int .i64 3]) (by simp [results, Try.results20, go_sem]) rfl ⟨rfl, Below.refl _ _⟩
  · rw [e1, e2]
    have S := Lib.hid (fun W => cshown_any s (raw - s.raw) h (by omega) (by omega) W)
    obtain ⟨X, hX⟩ : ∃ X, Pl.shown s (raw - s.raw) = X := ⟨_, rfl⟩
    rw [hX] at S c3
    have W := Lib.hid (fun W => cwithin_any X 4503599627370496 W (by omega) (by omega))
    rw [c3] at W
    clear h e1 e2 hX c3
    have HB := Below.refl w.heap.size w
    have kw : IntKind.i64.wrap (raw - s.raw) = raw - s.raw := IntWalk.i64_in _ (by omega)
    go_enter Try.func20, Try.ntmps20
    go_wp2_with fail
    go_region_held3 (fun w' => w'.cell? ⟨b, 0, none⟩ = some (.int .i64 s.raw) ∧ w'.cell? ⟨b, 1, none⟩ = some (.int .i64 s.time) ∧ w'.cell? ⟨b, 2, none⟩ = some (.int .i64 s.ppb) ∧ w'.cell? ⟨b, 3, none⟩ = some (.int .i64 s.left) ∧ w'.cell? ⟨b, 4, none⟩ = some (.int .i64 s.rate) ∧ w'.cell? ⟨b, 5, none⟩ = some (.int .i64 s.steps)) (first | exact cs_cells hk | exact cs_cells hk.drew) ((go_at_call 32; refine (S.out _).mono ?_; rintro x w1 ⟨rfl, b1⟩; have HB : Below w.heap.size w w1 := (by first | exact bel_on HB b1 | exact bel_on HB.drew b1); have hk : Blk w1 b 51 (csA s) := (by first | exact hk.below_ b1 | exact hk.drew.below_ b1)))
    all_goals (
    go_wp2_with fail
    refine (W.out _).mono ?_
    rintro x w2 ⟨rfl, rfl⟩
    go_wp2
    exact bodyPost_ret (v := .tuple #[.int .i64 0, .int .i64 3]) (by simp [results, Try.results20, go_sem]) rfl ⟨rfl, HB⟩)
  · rw [e1, e2]
    have S := Lib.hid (fun W => cshown_any s (raw - s.raw) h (by omega) (by omega) W)
    obtain ⟨X, hX⟩ : ∃ X, Pl.shown s (raw - s.raw) = X := ⟨_, rfl⟩
    rw [hX] at S c3 ⊢
    have W := Lib.hid (fun W => cwithin_any X 4503599627370496 W (by omega) (by omega))
    rw [c3] at W
    clear h e1 e2 hX c3
    have HB := Below.refl w.heap.size w
    have kw : IntKind.i64.wrap (raw - s.raw) = raw - s.raw := IntWalk.i64_in _ (by omega)
    go_enter Try.func20, Try.ntmps20
    go_wp2_with fail
    go_region_held3 (fun w' => w'.cell? ⟨b, 0, none⟩ = some (.int .i64 s.raw) ∧ w'.cell? ⟨b, 1, none⟩ = some (.int .i64 s.time) ∧ w'.cell? ⟨b, 2, none⟩ = some (.int .i64 s.ppb) ∧ w'.cell? ⟨b, 3, none⟩ = some (.int .i64 s.left) ∧ w'.cell? ⟨b, 4, none⟩ = some (.int .i64 s.rate) ∧ w'.cell? ⟨b, 5, none⟩ = some (.int .i64 s.steps)) (first | exact cs_cells hk | exact cs_cells hk.drew) ((go_at_call 32; refine (S.out _).mono ?_; rintro x w1 ⟨rfl, b1⟩; have HB : Below w.heap.size w w1 := (by first | exact bel_on HB b1 | exact bel_on HB.drew b1); have hk : Blk w1 b 51 (csA s) := (by first | exact hk.below_ b1 | exact hk.drew.below_ b1)))
    all_goals (
    go_wp2_with fail
    refine (W.out _).mono ?_
    rintro x w2 ⟨rfl, rfl⟩
    go_wp2
    exact bodyPost_ret (v := .tuple #[.int .i64 X, .int .i64 0]) (by simp [results, Try.results20, go_sem]) rfl ⟨rfl, HB⟩)

set_option maxHeartbeats 1000000 in
theorem cmoved_any (s : Pl.CS) (raw : Int) (h : s.ok = true) (h0 : s.raw ≤ raw) (h1 : raw ≤ 4503599627370496) (w : World) :
    Calls Try.prog 37 #[csV s, .int .i64 raw] w fun e w' => e = .returned (csV (Pl.moved s raw)) ∧ Below w.heap.size w w' := by
  obtain ⟨r, t, l, p, h5, h6, _, _⟩ := Pl.CS.ok_iff.1 h
  have S := Lib.hid (fun W => cshown_any s (raw - s.raw) h (by omega) (by omega) W)
  have P := Lib.hid (fun W => cpart_any (raw - s.raw) s.rate (by omega) (by omega) (by omega) (by omega) W)
  have i := Pl.part_in (e := raw - s.raw) (p := s.rate) (by omega) (by omega) (by omega)
  have j := Pl.part_up (e := 0) (e' := raw - s.raw) (by omega) h5
  rw [Pl.part_zero] at j
  unfold Pl.moved Pl.leftAfter
  obtain ⟨X, hX⟩ : ∃ X, Pl.shown s (raw - s.raw) = X := ⟨_, rfl⟩
  obtain ⟨Y, hY⟩ : ∃ Y, Pl.part (raw - s.raw) s.rate = Y := ⟨_, rfl⟩
  rw [hX] at S ⊢
  rw [hY] at P i j ⊢
  clear hX hY h
  have V : ∀ (N R : Int), (∀ q0 q1, decide (0 < s.left) = q0 → (if q0 = true then s.left - min s.left Y else s.left + min (-s.left) Y) = N → (N == 0) = q1 → R = (if q1 = true then 0 else s.rate) → 
      Calls Try.prog 37 #[csV s, .int .i64 raw] w fun e w' => e = .returned (csV ⟨raw, X, s.ppb, N, R, s.steps⟩) ∧ Below w.heap.size w w') := by
    intro N R q0 q1 hq0 hN hq1 hR
    cases q0 <;> cases q1 <;> simp only [Bool.false_eq_true, if_false, if_true] at hN hR <;> subst hR <;> subst hN
    all_goals (
      have kn : (0 : Int) ≤ Y := j
      go_enter Try.func37, Try.ntmps37
      go_wp2_with fail
      refine (S.out _).mono ?_
      rintro x w1 ⟨rfl, b1⟩
      have T1 := (two_mk w 23 23 (csA s) #[.int .i64 0, .int .i64 0, .int .i64 0, .int .i64 0, .int .i64 0, .int .i64 0]).on b1
      clear b1
      obtain ⟨k0, k1, k2, k3, k4, k5⟩ := cs_cells T1.2.1
      have kz := T1.2.1.lt
      have f0 := T1.2.1.frozen 0
      have f1 := T1.2.1.frozen 1
      go_wp2_with fail
      refine (P.out _).mono ?_
      rintro x w2 ⟨rfl, b2⟩
      have T2 := ((T1.set_ 1 (.int .i64 X)).set_ 0 (.int .i64 raw)).on b2
      have T2 : Two w w2 23 23 (csA ⟨raw, X, s.ppb, s.left, s.rate, s.steps⟩) #[.int .i64 0, .int .i64 0, .int .i64 0, .int .i64 0, .int .i64 0, .int .i64 0] := T2
      clear b2 T1 k0 k1 k2 k3 k4 k5 kz f0 f1
      obtain ⟨k0, k1, k2, k3, k4, k5⟩ := cs_cells T2.2.1
      have kz := T2.2.1.lt
      have kz1 := T2.2.2.lt
      have f3 := T2.2.1.frozen 3
      have f4 := T2.2.1.frozen 4
      have g0 := T2.2.2.frozen 0
      have g1 := T2.2.2.frozen 1
      have g2 := T2.2.2.frozen 2
      have g3 := T2.2.2.frozen 3
      have g4 := T2.2.2.frozen 4
      have g5 := T2.2.2.frozen 5
      have r0 : w2.cell? ⟨w.heap.size + 1, 0, none⟩ = some (.int .i64 0) := T2.2.2.cell 0
      have r1 : w2.cell? ⟨w.heap.size + 1, 1, none⟩ = some (.int .i64 0) := T2.2.2.cell 1
      have r2 : w2.cell? ⟨w.heap.size + 1, 2, none⟩ = some (.int .i64 0) := T2.2.2.cell 2
      have r3 : w2.cell? ⟨w.heap.size + 1, 3, none⟩ = some (.int .i64 0) := T2.2.2.cell 3
      have r4 : w2.cell? ⟨w.heap.size + 1, 4, none⟩ = some (.int .i64 0) := T2.2.2.cell 4
      have r5 : w2.cell? ⟨w.heap.size + 1, 5, none⟩ = some (.int .i64 0) := T2.2.2.cell 5
      go_wp2
      refine bodyPost_ret (v := csV ⟨raw, X, s.ppb, _, _, s.steps⟩) (by simp [results, Try.results37, go_sem, r0, r1, r2, r3, r4, r5, k0, k1, k2, k3, k4, k5, kz, kz1]) rfl ⟨rfl, ?_⟩
      clear k0 k1 k2 k3 k4 k5 r0 r1 r2 r3 r4 r5 g0 g1 g2 g3 g4 g5 f3 f4)
    · exact (T2.set_ 3 _).out6 _ _ _ _ _ _
    · exact ((T2.set_ 3 _).set_ 4 _).out6 _ _ _ _ _ _
    · exact (T2.set_ 3 _).out6 _ _ _ _ _ _
    · exact ((T2.set_ 3 _).set_ 4 _).out6 _ _ _ _ _ _
  by_cases c : 0 < s.left
  · by_cases c2 : s.left - min s.left Y = 0
    · simp only [if_pos c, if_pos c2]; exact V _ _ true true (by simp [c]) rfl (by simp [c2]) rfl
    · simp only [if_pos c, if_neg c2]; exact V _ _ true false (by simp [c]) rfl (by simp [c2]) rfl
  · by_cases c2 : s.left + min (-s.left) Y = 0
    · simp only [if_neg c, if_pos c2]; exact V _ _ false true (by simp [c]) rfl (by simp [c2]) rfl
    · simp only [if_neg c, if_neg c2]; exact V _ _ false false (by simp [c]) rfl (by simp [c2]) rfl
end Go.Proofs.Ytcdholgafojjoaa
