/- Contracts of shown, moved, Now of the clock. -/
import Derived.Test.YtcdholgafojjoaaClock
namespace Go.Proofs.Ytcdholgafojjoaa
open Go.RowKit Go.Lib

set_option maxHeartbeats 1000000 in
theorem cshown_any (s : Pl.CS) (e : Int) (h : s.ok = true) (h0 : 0 ≤ e) (h1 : e ≤ 9007199254740992) (w : World) :
    Calls Try.prog 32 #[csV s, .int .i64 e] w fun x w' => x = .returned (.int .i64 (Pl.shown s e)) ∧ Below w.heap.size w w' := by
  obtain ⟨_, ht, hl, hp, h5, h6, h7, _⟩ := Pl.CS.ok_iff.1 h
  have hL := Pl.slewLen_pos h
  have hF := Pl.fast_in h
  have P1 := Lib.hid (fun W => cpart_any e (Pl.fast s) h0 h1 hF.1 hF.2 W)
  have i1 := Pl.part_in h0 hF.1 hF.2
  by_cases z : s.left = 0
  · have eF : Pl.fast s = s.ppb := by unfold Pl.fast; rw [if_neg (by omega), if_neg (by omega)]
    have eL : Pl.slewLen s = 0 := by unfold Pl.slewLen; rw [if_pos z]
    have eS : Pl.shown s e = s.time + e + Pl.part e s.ppb := by
      unfold Pl.shown
      rw [eL, eF]
      split
      · rw [Pl.part_zero, Int.sub_zero]; omega
      · rfl
    rw [eS]
    rw [eF] at P1 i1
    obtain ⟨X, hX⟩ : ∃ X, Pl.part e s.ppb = X := ⟨_, rfl⟩
    rw [hX] at P1 i1 ⊢
    have t1 : decide (0 < s.left) = false := by simp; omega
    have t2 : decide (s.left < 0) = false := by simp; omega
    have t3 : (s.left == 0) = true := by simp [z]
    clear eF eL eS hX h hL hF h7 z
    have HB : Below w.heap.size w (w.alloc (.cells (csA s) 23)) := (Below.refl _ _).alloc (Nat.le_refl _) _
    have K : Blk (w.alloc (.cells (csA s) 23)) w.heap.size 23 (csA s) := Blk.new _ _ _
    go_enter Try.func32, Try.ntmps32
    go_wp2_with fail
    go_region_held3 (fun w' => w'.cell? ⟨w.heap.size, 0, none⟩ = some (.int .i64 s.raw) ∧ w'.cell? ⟨w.heap.size, 1, none⟩ = some (.int .i64 s.time) ∧ w'.cell? ⟨w.heap.size, 2, none⟩ = some (.int .i64 s.ppb) ∧ w'.cell? ⟨w.heap.size, 3, none⟩ = some (.int .i64 s.left) ∧ w'.cell? ⟨w.heap.size, 4, none⟩ = some (.int .i64 s.rate) ∧ w'.cell? ⟨w.heap.size, 5, none⟩ = some (.int .i64 s.steps)) (first | exact cs_cells K | exact cs_cells K.drew) (fail)
    all_goals (
      have HB := HB.drew
      have K := K.drew
      obtain ⟨k0, k1, k2, k3, k4, k5⟩ := cs_cells K
      have kz := K.lt
      go_wp2_with fail
      refine (P1.out _).mono ?_
      rintro x w1 ⟨rfl, b1⟩
      have HB := HB.trans (b1.mono HB.size)
      go_wp2
      go_ret
      exact ⟨rfl, HB⟩)
  · have LN := Lib.hid (fun W => clength_any s h z W)
    have t3 : (s.left == 0) = false := by simp [z]
    have hs : (decide (0 < s.left) = true ∧ decide (s.left < 0) = false ∧ Pl.fast s = s.ppb + s.rate) ∨ (decide (0 < s.left) = false ∧ decide (s.left < 0) = true ∧ Pl.fast s = s.ppb - s.rate) := by
      rcases Int.lt_or_le 0 s.left with c | c
      · exact .inl ⟨by simp [c], by simp; omega, by unfold Pl.fast; rw [if_pos c]⟩
      · exact .inr ⟨by simp; omega, by simp; omega, by unfold Pl.fast; rw [if_neg (by omega), if_pos (by omega)]⟩
    obtain ⟨L, hLe⟩ : ∃ L, Pl.slewLen s = L := ⟨_, rfl⟩
    unfold Pl.shown
    rw [hLe] at hL ⊢
    simp only [hLe] at LN
    by_cases c : L < e
    · rw [if_pos c]
      have P2 := Lib.hid (fun W => cpart_any L (Pl.fast s) hL (by omega) hF.1 hF.2 W)
      have P3 := Lib.hid (fun W => cpart_any (e - L) s.ppb (by omega) (by omega) (by omega) (by omega) W)
      have i2 := Pl.part_in hL hF.1 hF.2
      have i3 := Pl.part_in (e := e - L) (p := s.ppb) (by omega) (by omega) (by omega)
      simp only [if_pos (show L ≤ 9223372036854775807 by omega), decide_eq_true (show L ≤ 9223372036854775807 by omega)] at LN
      obtain ⟨Y, hY⟩ : ∃ Y, Pl.part L (Pl.fast s) = Y := ⟨_, rfl⟩
      obtain ⟨Z, hZ⟩ : ∃ Z, Pl.part (e - L) s.ppb = Z := ⟨_, rfl⟩
      rw [hY] at P2 i2 ⊢
      rw [hZ] at P3 i3 ⊢
      have t4 : decide (L < e) = true := by simp [c]
      rcases hs with ⟨t1, t2, hf⟩ | ⟨t1, t2, hf⟩
      all_goals (
        rw [hf] at P2
        clear hY hZ hLe P1 i1 h z h7 hF hf
        have HB : Below w.heap.size w (w.alloc (.cells (csA s) 23)) := (Below.refl _ _).alloc (Nat.le_refl _) _
        have K : Blk (w.alloc (.cells (csA s) 23)) w.heap.size 23 (csA s) := Blk.new _ _ _
        go_enter Try.func32, Try.ntmps32
        go_wp2_with fail
        go_region_held3 (fun w' => w'.cell? ⟨w.heap.size, 0, none⟩ = some (.int .i64 s.raw) ∧ w'.cell? ⟨w.heap.size, 1, none⟩ = some (.int .i64 s.time) ∧ w'.cell? ⟨w.heap.size, 2, none⟩ = some (.int .i64 s.ppb) ∧ w'.cell? ⟨w.heap.size, 3, none⟩ = some (.int .i64 s.left) ∧ w'.cell? ⟨w.heap.size, 4, none⟩ = some (.int .i64 s.rate) ∧ w'.cell? ⟨w.heap.size, 5, none⟩ = some (.int .i64 s.steps)) (first | exact cs_cells K | exact cs_cells K.drew) (fail)
        all_goals (
          have HB := HB.drew
          have K := K.drew
          obtain ⟨k0, k1, k2, k3, k4, k5⟩ := cs_cells K
          have kz := K.lt
          go_wp2_with fail
          refine (LN.out _).mono ?_
          rintro x w1 ⟨rfl, b1⟩
          have HB := HB.trans (b1.mono HB.size)
          replace K := K.below_ b1
          clear k0 k1 k2 k3 k4 k5 kz b1
          obtain ⟨k0, k1, k2, k3, k4, k5⟩ := cs_cells K
          have kz := K.lt
          go_wp2_with fail
          refine (P2.out _).mono ?_
          rintro x w1 ⟨rfl, b1⟩
          have HB := HB.trans (b1.mono HB.size)
          replace K := K.below_ b1
          clear k0 k1 k2 k3 k4 k5 kz b1
          obtain ⟨k0, k1, k2, k3, k4, k5⟩ := cs_cells K
          have kz := K.lt
          go_wp2_with fail
          refine (P3.out _).mono ?_
          rintro x w1 ⟨rfl, b1⟩
          have HB := HB.trans (b1.mono HB.size)
          go_wp2
          go_ret
          exact ⟨rfl, HB⟩)
      )
    · rw [if_neg c]
      obtain ⟨X, hX⟩ : ∃ X, Pl.part e (Pl.fast s) = X := ⟨_, rfl⟩
      rw [hX] at P1 i1 ⊢
      have t4 : decide (L < e) = false := by simp; omega
      obtain ⟨Q, hQ⟩ : ∃ Q, (if L ≤ 9223372036854775807 then L else 0) = Q := ⟨_, rfl⟩
      by_cases c2 : L ≤ 9223372036854775807
      · simp only [if_pos c2, decide_eq_true c2] at LN
        rcases hs with ⟨t1, t2, hf⟩ | ⟨t1, t2, hf⟩
        all_goals (
          rw [hf] at P1
          clear hX hLe h z h7 hF hf hQ
          have HB : Below w.heap.size w (w.alloc (.cells (csA s) 23)) := (Below.refl _ _).alloc (Nat.le_refl _) _
          have K : Blk (w.alloc (.cells (csA s) 23)) w.heap.size 23 (csA s) := Blk.new _ _ _
          go_enter Try.func32, Try.ntmps32
          go_wp2_with fail
          go_region_held3 (fun w' => w'.cell? ⟨w.heap.size, 0, none⟩ = some (.int .i64 s.raw) ∧ w'.cell? ⟨w.heap.size, 1, none⟩ = some (.int .i64 s.time) ∧ w'.cell? ⟨w.heap.size, 2, none⟩ = some (.int .i64 s.ppb) ∧ w'.cell? ⟨w.heap.size, 3, none⟩ = some (.int .i64 s.left) ∧ w'.cell? ⟨w.heap.size, 4, none⟩ = some (.int .i64 s.rate) ∧ w'.cell? ⟨w.heap.size, 5, none⟩ = some (.int .i64 s.steps)) (first | exact cs_cells K | exact cs_cells K.drew) (fail)
          all_goals (
            have HB := HB.drew
            have K := K.drew
            obtain ⟨k0, k1, k2, k3, k4, k5⟩ := cs_cells K
            have kz := K.lt
            go_wp2_with fail
            refine (LN.out _).mono ?_
            rintro x w1 ⟨rfl, b1⟩
            have HB := HB.trans (b1.mono HB.size)
            replace K := K.below_ b1
            clear k0 k1 k2 k3 k4 k5 kz b1
            obtain ⟨k0, k1, k2, k3, k4, k5⟩ := cs_cells K
            have kz := K.lt
            go_wp2_with fail
            refine (P1.out _).mono ?_
            rintro x w1 ⟨rfl, b1⟩
            have HB := HB.trans (b1.mono HB.size)
            go_wp2
            go_ret
            exact ⟨rfl, HB⟩)
        )
      · simp only [if_neg c2, decide_eq_false c2] at LN
        rcases hs with ⟨t1, t2, hf⟩ | ⟨t1, t2, hf⟩
        all_goals (
          rw [hf] at P1
          clear hX hLe h z h7 hF hf hQ c2 t4 c hL
          have HB : Below w.heap.size w (w.alloc (.cells (csA s) 23)) := (Below.refl _ _).alloc (Nat.le_refl _) _
          have K : Blk (w.alloc (.cells (csA s) 23)) w.heap.size 23 (csA s) := Blk.new _ _ _
          go_enter Try.func32, Try.ntmps32
          go_wp2_with fail
          go_region_held3 (fun w' => w'.cell? ⟨w.heap.size, 0, none⟩ = some (.int .i64 s.raw) ∧ w'.cell? ⟨w.heap.size, 1, none⟩ = some (.int .i64 s.time) ∧ w'.cell? ⟨w.heap.size, 2, none⟩ = some (.int .i64 s.ppb) ∧ w'.cell? ⟨w.heap.size, 3, none⟩ = some (.int .i64 s.left) ∧ w'.cell? ⟨w.heap.size, 4, none⟩ = some (.int .i64 s.rate) ∧ w'.cell? ⟨w.heap.size, 5, none⟩ = some (.int .i64 s.steps)) (first | exact cs_cells K | exact cs_cells K.drew) (fail)
          all_goals (
            have HB := HB.drew
            have K := K.drew
            obtain ⟨k0, k1, k2, k3, k4, k5⟩ := cs_cells K
            have kz := K.lt
            go_wp2_with fail
            refine (LN.out _).mono ?_
            rintro x w1 ⟨rfl, b1⟩
            have HB := HB.trans (b1.mono HB.size)
            replace K := K.below_ b1
            clear k0 k1 k2 k3 k4 k5 kz b1
            obtain ⟨k0, k1, k2, k3, k4, k5⟩ := cs_cells K
            have kz := K.lt
            go_wp2_with fail
            refine (P1.out _).mono ?_
            rintro x w1 ⟨rfl, b1⟩
            have HB := HB.trans (b1.mono HB.size)
            go_wp2
            go_ret
            exact ⟨rfl, HB⟩)
        )
end Go.Proofs.Ytcdholgafojjoaa
