/- The walk of DriftWidens. -/
import Derived.Test.YtkdanfhgnpgmmaaDriftMore
import Derived.Test.YtkdanfhgnpgmmaaDriftAwake
import Derived.Test.YtkdanfhgnpgmmaaOpen
import Derived.Test.YtkdanfhgnpgmmaaLaw
namespace Go.Proofs.Ytkdanfhgnpgmmaa
open Go.RowKit Go.Lib

/-- The plain law: the bounds of a duration grow with what is counted, and move apart with the tolerance. -/
theorem md_up {x y d : Int} (hd : 0 < d) (h : x ≤ y) : Pl.md x 1000000000 d ≤ Pl.md y 1000000000 d := by
  unfold Pl.md
  exact Int.ediv_le_ediv hd (by omega)
theorem lst_up {r s tol : Int} (ht : 0 ≤ tol) (h : r ≤ s) : Pl.lst r tol ≤ Pl.lst s tol := by
  have := md_up (show 0 < 1000000000 + tol by omega) (show r - 1 ≤ s - 1 by omega)
  unfold Pl.lst
  omega
theorem mst_up {r s tol : Int} (ht : tol ≤ 500000) (h : r ≤ s) : Pl.mst r tol ≤ Pl.mst s tol := by
  have := md_up (show 0 < 1000000000 - tol by omega) (show -(s + 1) ≤ -(r + 1) by omega)
  unfold Pl.mst
  omega
theorem lst_tol {r t : Int} (hr : 0 ≤ r) (ht : 0 ≤ t) : Pl.lst r (t + 1) ≤ Pl.lst r t := by
  unfold Pl.lst Pl.md
  have : (r - 1) * 1000000000 / (1000000000 + (t + 1)) < (r - 1) * 1000000000 / (1000000000 + t) + 1 ∨ r = 0 := by
    by_cases h0 : r = 0
    · exact Or.inr h0
    · refine Or.inl ?_
      have h1 : 0 ≤ (r - 1) * 1000000000 / (1000000000 + t) := Int.ediv_nonneg (by omega) (by omega)
      rw [Int.ediv_lt_iff_lt_mul (by omega)]
      have h2 := Int.lt_mul_ediv_self_add (x := (r - 1) * 1000000000) (k := 1000000000 + t) (by omega)
      generalize (r - 1) * 1000000000 / (1000000000 + t) = q at h1 h2 ⊢
      have e : (q + 1) * (1000000000 + (t + 1)) = (1000000000 + t) * q + (1000000000 + t) + (q + 1) := by
        rw [Int.add_mul, Int.one_mul, show 1000000000 + (t + 1) = (1000000000 + t) + 1 from by omega, Int.mul_add, Int.mul_one, Int.mul_comm q]
        omega
      rw [e]
      omega
  rcases this with h | h
  · omega
  · subst h
    have := Int.ediv_neg_of_neg_of_pos (show (0 - 1 : Int) * 1000000000 < 0 by omega) (show 0 < 1000000000 + (t + 1) by omega)
    omega
theorem mst_tol {r t : Int} (hr : 0 ≤ r) (ht : t + 1 ≤ 500000) : Pl.mst r t ≤ Pl.mst r (t + 1) := by
  unfold Pl.mst Pl.md
  have h3 : -(r + 1) * 1000000000 / (1000000000 - (t + 1)) < -(r + 1) * 1000000000 / (1000000000 - t) + 1 := by
    rw [Int.ediv_lt_iff_lt_mul (by omega)]
    have h1 : -(r + 1) * 1000000000 / (1000000000 - t) < 0 := Int.ediv_neg_of_neg_of_pos (by omega) (by omega)
    have h2 := Int.lt_mul_ediv_self_add (x := -(r + 1) * 1000000000) (k := 1000000000 - t) (by omega)
    generalize -(r + 1) * 1000000000 / (1000000000 - t) = q at h1 h2 ⊢
    have e : (q + 1) * (1000000000 - (t + 1)) = (1000000000 - t) * q + (1000000000 - t) - (q + 1) := by
      rw [Int.add_mul, Int.one_mul, show 1000000000 - (t + 1) = (1000000000 - t) - 1 from by omega, Int.mul_sub, Int.mul_one, Int.mul_comm q]
      omega
    rw [e]
    omega
  omega

theorem lst_le {raw tol : Int} (h : Pl.eok raw tol = true) : Pl.lst raw tol ≤ raw := by
  obtain ⟨h1, h2, h3, h4⟩ := Pl.eok_iff.1 h
  unfold Pl.lst Pl.md
  have h5 : (raw - 1) * 1000000000 / (1000000000 + tol) < raw := by
    rw [Int.ediv_lt_iff_lt_mul (by omega), Int.mul_add]
    have := Int.mul_nonneg h1 h3
    omega
  omega

/-- an age that is no error -/
theorem age_yes {a b raw tol : Int} (h : (Pl.age a b raw tol).2.2 = 0) : Pl.dok a b = true ∧ Pl.eok raw tol = true ∧ Pl.age a b raw tol = (a + Pl.lst raw tol, b + Pl.mst raw tol, 0) ∧ Pl.dok (a + Pl.lst raw tol) (b + Pl.mst raw tol) = true := by
  unfold Pl.age Pl.dvl at h ⊢
  cases h1 : Pl.dok a b <;> cases h2 : Pl.eok raw tol <;> cases h3 : Pl.dok (a + Pl.lst raw tol) (b + Pl.mst raw tol) <;> simp_all

theorem width_le {a b x y : Int} (h1 : Pl.dok a b = true) (h2 : Pl.dok x y = true) (h : b - a ≤ y - x) : Pl.width a b ≤ Pl.width x y := by
  obtain ⟨d1, d2, d3⟩ := Pl.dok_iff.1 h1
  obtain ⟨e1, e2, e3⟩ := Pl.dok_iff.1 h2
  unfold Pl.width
  simp only [h1, h2, if_true]
  cases f1 : Pl.fit (b - a) <;> cases f2 : Pl.fit (y - x)
  · simp
  · exfalso
    have := Pl.fit_iff.1 f2
    have k := Pl.fit_yes (n := b - a) (by omega) (by omega)
    rw [f1] at k
    cases k
  · have := Pl.fit_iff.1 f1
    simp
    omega
  · simpa using h

/-- the law: three ages without an error -/
theorem widens {a b raw more k x1 x2 y1 y2 z1 z2 : Int} (h1 : 0 ≤ raw) (h2 : 0 ≤ more) (h3 : 0 ≤ k) (h4 : k + 1 ≤ 500000) (hx : Pl.age a b raw k = (x1, x2, 0)) (hy : Pl.age a b (raw + more) k = (y1, y2, 0)) (hz : Pl.age a b raw (k + 1) = (z1, z2, 0)) :
    Pl.width a b ≤ Pl.width x1 x2 ∧ x1 ≤ y1 ∧ x2 ≤ y2 ∧ z1 ≤ x1 ∧ x2 ≤ z2 := by
  obtain ⟨d, e, ex, dx⟩ := age_yes (a := a) (b := b) (raw := raw) (tol := k) (by rw [hx])
  obtain ⟨_, _, ey, _⟩ := age_yes (a := a) (b := b) (raw := raw + more) (tol := k) (by rw [hy])
  obtain ⟨_, _, ez, _⟩ := age_yes (a := a) (b := b) (raw := raw) (tol := k + 1) (by rw [hz])
  rw [ex] at hx
  rw [ey] at hy
  rw [ez] at hz
  simp only [Prod.mk.injEq] at hx hy hz
  obtain ⟨rfl, rfl, _⟩ := hx
  obtain ⟨rfl, rfl, _⟩ := hy
  obtain ⟨rfl, rfl, _⟩ := hz
  have l1 := Pl.lst_in e
  have m1 := Pl.mst_in e
  have k1 := lst_up h3 (show raw ≤ raw + more by omega)
  have k2 := mst_up (tol := k) (by omega) (show raw ≤ raw + more by omega)
  have k3 := lst_tol h1 h3
  have k4 := mst_tol h1 h4
  have k5 := lst_le e
  exact ⟨width_le d dx (by omega), by omega, by omega, by omega, by omega⟩

theorem u32_bd' {n : Int} (h : (Lit.int .u32 n).wf = true) : 0 ≤ n ∧ n ≤ 4294967295 := by
  have hmin : IntKind.u32.min = 0 := rfl
  have hmax : IntKind.u32.max = 4294967295 := rfl
  simp only [Lit.wf, Bool.and_eq_true, decide_eq_true_eq] at h
  omega

set_option maxRecDepth 100000 in
theorem driftWidens_no (a b raw more tol : Int) (w : World) (h : raw < 0 ∨ 1125899906842624 < raw ∨ more < 0 ∨ 1125899906842624 < more) (t1 : 0 ≤ tol) (t2 : tol ≤ 4294967295) :
    Calls Try.prog 9 #[.agg #[.int .i64 a, .int .i64 b], .int .i64 raw, .int .i64 more, .int .u32 tol] w fun e w' => e = .returned (.bool true) ∧ Below w.heap.size w w' := by
  go_enter Try.func9, Try.ntmps9
  go_wp2_with (go_at_call 15; refine (dawake_any _).mono ?_; rintro e w1 ⟨rfl, l1⟩)
  all_goals (go_ret; exact ⟨rfl, bel_on (bel_box w _) l1⟩)

/-- the parameter's box and three results' -/
def Thre (w W : World) (g1 g2 g3 : Nat) (a b x1 x2 y1 y2 z1 z2 : Int) : Prop :=
  One w W 23 #[.int .i64 a, .int .i64 b] ∧ Blk W g1 23 #[.int .i64 x1, .int .i64 x2] ∧ Blk W g2 23 #[.int .i64 y1, .int .i64 y2] ∧ Blk W g3 23 #[.int .i64 z1, .int .i64 z2]
section
variable {w W W' : World} {g1 g2 g3 : Nat} {a b x1 x2 y1 y2 z1 z2 : Int}
theorem Thre.on (h : Thre w W g1 g2 g3 a b x1 x2 y1 y2 z1 z2) (k : Below W.heap.size W W') : Thre w W' g1 g2 g3 a b x1 x2 y1 y2 z1 z2 := ⟨h.1.on k, h.2.1.below_ k, h.2.2.1.below_ k, h.2.2.2.below_ k⟩
theorem Thre.drew (h : Thre w W g1 g2 g3 a b x1 x2 y1 y2 z1 z2) : Thre w W.drew g1 g2 g3 a b x1 x2 y1 y2 z1 z2 := ⟨h.1.drew, h.2.1.drew, h.2.2.1.drew, h.2.2.2.drew⟩
theorem Thre.cells (h : Thre w W g1 g2 g3 a b x1 x2 y1 y2 z1 z2) :
    W.cell? ⟨w.heap.size, 0, none⟩ = some (.int .i64 a) ∧ W.cell? ⟨w.heap.size, 1, none⟩ = some (.int .i64 b) ∧ W.cell? ⟨g1, 0, none⟩ = some (.int .i64 x1) ∧ W.cell? ⟨g1, 1, none⟩ = some (.int .i64 x2) ∧ W.cell? ⟨g2, 0, none⟩ = some (.int .i64 y1) ∧ W.cell? ⟨g2, 1, none⟩ = some (.int .i64 y2) ∧ W.cell? ⟨g3, 0, none⟩ = some (.int .i64 z1) ∧ W.cell? ⟨g3, 1, none⟩ = some (.int .i64 z2) :=
  ⟨h.1.two.1, h.1.two.2, h.2.1.cell 0, h.2.1.cell 1, h.2.2.1.cell 0, h.2.2.1.cell 1, h.2.2.2.cell 0, h.2.2.2.cell 1⟩
end

set_option maxRecDepth 100000 in
set_option maxHeartbeats 4000000 in
theorem driftWidens_yes (a b raw more tol : Int) (w : World) (h1 : 0 ≤ raw) (h2 : raw ≤ 1125899906842624) (h3 : 0 ≤ more) (h4 : more ≤ 1125899906842624) (t1 : 0 ≤ tol) (t2 : tol ≤ 4294967295) :
    Calls Try.prog 9 #[.agg #[.int .i64 a, .int .i64 b], .int .i64 raw, .int .i64 more, .int .u32 tol] w fun e w' => e = .returned (.bool true) ∧ Below w.heap.size w w' := by
  have E1 := fun W => dage_any a b raw (tol % 500000) (by omega) (by omega) (by omega) (by omega) W
  have E2 := fun W => dage_any a b (raw + more) (tol % 500000) (by omega) (by omega) (by omega) (by omega) W
  have E3 := fun W => dage_any a b raw (tol % 500000 + 1) (by omega) (by omega) (by omega) (by omega) W
  obtain ⟨x1, x2, e1, hx⟩ : ∃ x1 x2 e1, Pl.age a b raw (tol % 500000) = (x1, x2, e1) := ⟨_, _, _, rfl⟩
  obtain ⟨y1, y2, e2, hy⟩ : ∃ y1 y2 e2, Pl.age a b (raw + more) (tol % 500000) = (y1, y2, e2) := ⟨_, _, _, rfl⟩
  obtain ⟨z1, z2, e3, hz⟩ : ∃ z1 z2 e3, Pl.age a b raw (tol % 500000 + 1) = (z1, z2, e3) := ⟨_, _, _, rfl⟩
  have L : e1 = 0 → e2 = 0 → e3 = 0 → Pl.width a b ≤ Pl.width x1 x2 ∧ x1 ≤ y1 ∧ x2 ≤ y2 ∧ z1 ≤ x1 ∧ x2 ≤ z2 := by
    rintro rfl rfl rfl
    exact widens h1 h3 (by omega) (by omega) hx hy hz
  rw [hx] at E1
  rw [hy] at E2
  rw [hz] at E3
  have E1 := Lib.hid E1
  have E2 := Lib.hid E2
  have E3 := Lib.hid E3
  have L := Lib.hid L
  clear hx hy hz
  by_cases q1 : e1 = 0
  · by_cases q2 : e2 = 0
    · by_cases q3 : e3 = 0
      · obtain ⟨m1, m2, m3, m4, m5⟩ := L.out q1 q2 q3
        subst q1 q2 q3
        obtain ⟨P, hP⟩ : ∃ P, Pl.width a b = P := ⟨_, rfl⟩
        obtain ⟨Q, hQ⟩ : ∃ Q, Pl.width x1 x2 = Q := ⟨_, rfl⟩
        rw [hP, hQ] at m1
        have HP := Lib.hid hP
        have HQ := Lib.hid hQ
        clear hP hQ L
        go_enter Try.func9, Try.ntmps9
        go_wp2_with fail
        refine (E1.out _).mono ?_
        rintro _ w1 ⟨rfl, b1⟩
        have T1 := (one_mk w 23 #[.int .i64 a, .int .i64 b]).on b1
        obtain ⟨c0, c1, cz⟩ := T1.cells
        clear b1
        go_wp2_with fail
        refine (E2.out _).mono ?_
        rintro _ w2 ⟨rfl, b2⟩
        have T2 := (T1.on (bel_box w1 _)).on b2
        have k1 := blk_new b2
        clear c0 c1 cz b2 T1
        obtain ⟨c0, c1, cz⟩ := T2.cells
        go_wp2_with fail
        refine (E3.out _).mono ?_
        rintro _ w3 ⟨rfl, b3⟩
        have T3 := (T2.on (bel_box w2 _)).on b3
        have k2 := k1.then_ b3
        have k3 := blk_new b3
        have K : Thre w (w3.alloc (.cells #[.int .i64 z1, .int .i64 z2] 23)) w1.heap.size w2.heap.size w3.heap.size a b x1 x2 y1 y2 z1 z2 := ⟨T3.on (bel_box w3 _), k2.alloc _, k3.alloc _, Blk.new w3 _ _⟩
        clear c0 c1 cz b3 T2 T3 k1 k2 k3
        go_wp2_with fail
        go_region_held3 (fun w' => w'.cell? ⟨w.heap.size, 0, none⟩ = some (.int .i64 a) ∧ w'.cell? ⟨w.heap.size, 1, none⟩ = some (.int .i64 b) ∧ w'.cell? ⟨w1.heap.size, 0, none⟩ = some (.int .i64 x1) ∧ w'.cell? ⟨w1.heap.size, 1, none⟩ = some (.int .i64 x2) ∧ w'.cell? ⟨w2.heap.size, 0, none⟩ = some (.int .i64 y1) ∧ w'.cell? ⟨w2.heap.size, 1, none⟩ = some (.int .i64 y2) ∧ w'.cell? ⟨w3.heap.size, 0, none⟩ = some (.int .i64 z1) ∧ w'.cell? ⟨w3.heap.size, 1, none⟩ = some (.int .i64 z2)) (first | exact K.cells | exact K.drew.cells) ((first
          | (go_at_call 28; refine (dwidth_any _ _ _).mono ?_; rintro _ w4 ⟨rfl, l4⟩; (first | rw [HP.out] | rw [HQ.out]); have K : Thre w w4 w1.heap.size w2.heap.size w3.heap.size a b x1 x2 y1 y2 z1 z2 := (by first | exact K.on l4 | exact K.drew.on l4))
          | (go_at_call 15; refine (dawake_any _).mono ?_; rintro _ w4 ⟨rfl, l4⟩; have K : Thre w w4 w1.heap.size w2.heap.size w3.heap.size a b x1 x2 y1 y2 z1 z2 := (by first | exact K.on l4 | exact K.drew.on l4))))
        all_goals (go_wp2; go_ret; exact ⟨rfl, K.1.1⟩)
      · have u1 : (e1 == 0) = true := by simp [q1]
        have u2 : (e2 == 0) = true := by simp [q2]
        have u3 : (e3 == 0) = false := by simp [q3]
        clear q1 q2 q3 L
        go_enter Try.func9, Try.ntmps9
        go_wp2_with fail
        refine (E1.out _).mono ?_
        rintro _ w1 ⟨rfl, b1⟩
        have T1 := (one_mk w 23 #[.int .i64 a, .int .i64 b]).on b1
        obtain ⟨c0, c1, cz⟩ := T1.cells
        clear b1
        go_wp2_with fail
        refine (E2.out _).mono ?_
        rintro _ w2 ⟨rfl, b2⟩
        have T2 := (T1.on (bel_box w1 _)).on b2
        have k1 := blk_new b2
        clear c0 c1 cz b2 T1
        obtain ⟨c0, c1, cz⟩ := T2.cells
        go_wp2_with fail
        refine (E3.out _).mono ?_
        rintro _ w3 ⟨rfl, b3⟩
        have T3 := (T2.on (bel_box w2 _)).on b3
        have k2 := k1.then_ b3
        have k3 := blk_new b3
        have K : Thre w (w3.alloc (.cells #[.int .i64 z1, .int .i64 z2] 23)) w1.heap.size w2.heap.size w3.heap.size a b x1 x2 y1 y2 z1 z2 := ⟨T3.on (bel_box w3 _), k2.alloc _, k3.alloc _, Blk.new w3 _ _⟩
        clear c0 c1 cz b3 T2 T3 k1 k2 k3
        go_wp2_with fail
        all_goals (refine (dawake_any _).mono ?_; rintro _ w4 ⟨rfl, l4⟩; have K := K.on l4; go_wp2_with fail; go_ret; exact ⟨rfl, K.1.1⟩)
    · have u1 : (e1 == 0) = true := by simp [q1]
      have u2 : (e2 == 0) = false := by simp [q2]
      clear q1 q2 L
      go_enter Try.func9, Try.ntmps9
      go_wp2_with fail
      refine (E1.out _).mono ?_
      rintro _ w1 ⟨rfl, b1⟩
      have T1 := (one_mk w 23 #[.int .i64 a, .int .i64 b]).on b1
      obtain ⟨c0, c1, cz⟩ := T1.cells
      clear b1
      go_wp2_with fail
      refine (E2.out _).mono ?_
      rintro _ w2 ⟨rfl, b2⟩
      have T2 := (T1.on (bel_box w1 _)).on b2
      have k1 := blk_new b2
      clear c0 c1 cz b2 T1
      obtain ⟨c0, c1, cz⟩ := T2.cells
      go_wp2_with fail
      refine (E3.out _).mono ?_
      rintro _ w3 ⟨rfl, b3⟩
      have T3 := (T2.on (bel_box w2 _)).on b3
      have k2 := k1.then_ b3
      have k3 := blk_new b3
      have K : Thre w (w3.alloc (.cells #[.int .i64 z1, .int .i64 z2] 23)) w1.heap.size w2.heap.size w3.heap.size a b x1 x2 y1 y2 z1 z2 := ⟨T3.on (bel_box w3 _), k2.alloc _, k3.alloc _, Blk.new w3 _ _⟩
      clear c0 c1 cz b3 T2 T3 k1 k2 k3
      go_wp2_with fail
      all_goals (refine (dawake_any _).mono ?_; rintro _ w4 ⟨rfl, l4⟩; have K := K.on l4; go_wp2_with fail; go_ret; exact ⟨rfl, K.1.1⟩)
  · have u1 : (e1 == 0) = false := by simp [q1]
    clear q1 L
    go_enter Try.func9, Try.ntmps9
    go_wp2_with fail
    refine (E1.out _).mono ?_
    rintro _ w1 ⟨rfl, b1⟩
    have T1 := (one_mk w 23 #[.int .i64 a, .int .i64 b]).on b1
    obtain ⟨c0, c1, cz⟩ := T1.cells
    clear b1
    go_wp2_with fail
    refine (E2.out _).mono ?_
    rintro _ w2 ⟨rfl, b2⟩
    have T2 := (T1.on (bel_box w1 _)).on b2
    have k1 := blk_new b2
    clear c0 c1 cz b2 T1
    obtain ⟨c0, c1, cz⟩ := T2.cells
    go_wp2_with fail
    refine (E3.out _).mono ?_
    rintro _ w3 ⟨rfl, b3⟩
    have T3 := (T2.on (bel_box w2 _)).on b3
    have k2 := k1.then_ b3
    have k3 := blk_new b3
    have K : Thre w (w3.alloc (.cells #[.int .i64 z1, .int .i64 z2] 23)) w1.heap.size w2.heap.size w3.heap.size a b x1 x2 y1 y2 z1 z2 := ⟨T3.on (bel_box w3 _), k2.alloc _, k3.alloc _, Blk.new w3 _ _⟩
    clear c0 c1 cz b3 T2 T3 k1 k2 k3
    go_wp2_with fail
    all_goals (refine (dawake_any _).mono ?_; rintro _ w4 ⟨rfl, l4⟩; have K := K.on l4; go_wp2_with fail; go_ret; exact ⟨rfl, K.1.1⟩)

theorem driftWidens_walk (a b raw more tol : Int) (w : World) (_h : ∀ n ∈ [a, b], (Lit.int .i64 n).wf = true) (_h1 : (Lit.int .i64 raw).wf = true) (_h2 : (Lit.int .i64 more).wf = true) (h3 : (Lit.int .u32 tol).wf = true) :
    Calls Try.prog 9 #[.agg ([a, b].map (Value.int .i64)).toArray, .int .i64 raw, .int .i64 more, .int .u32 tol] w fun e w' => e = .returned (.bool true) ∧ Below w.heap.size w w' := by
  by_cases h : raw < 0 ∨ 1125899906842624 < raw ∨ more < 0 ∨ 1125899906842624 < more
  · exact driftWidens_no a b raw more tol w h (u32_bd' h3).1 (u32_bd' h3).2
  · exact driftWidens_yes a b raw more tol w (by omega) (by omega) (by omega) (by omega) (u32_bd' h3).1 (u32_bd' h3).2
end Go.Proofs.Ytkdanfhgnpgmmaa
