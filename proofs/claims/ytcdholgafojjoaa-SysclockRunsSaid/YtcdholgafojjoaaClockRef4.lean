/- Contracts of the reference's Now and moved. -/
import Derived.Test.YtcdholgafojjoaaClockRef3
namespace Go.Proofs.Ytcdholgafojjoaa
open Go.RowKit Go.Lib

set_option maxHeartbeats 1000000 in
theorem rnow10_any (b : Nat) (s : Pl.CS) (raw : Int) (w : World) (hk : Blk w b 53 (csA s)) (h : s.ok = true) :
    Calls Try.prog 27 #[.pointer (some ⟨b, 0, none⟩), .int .i64 raw] w fun e w' => e = .returned (.tuple #[.int .i64 (Pl.nowT s raw), .int .i64 (Pl.nowE s raw)]) ∧ Below w.heap.size w w' := by
  obtain ⟨k0, k1, k2, k3, k4, k5⟩ := cs_cells hk
  have kz := hk.lt
  obtain ⟨r1, r2⟩ := (Pl.CS.ok_iff.1 h).1
  rcases now_shape s raw with ⟨c1, e1, e2⟩ | ⟨c1, c2, e1, e2⟩ | ⟨c1, c2, c3, e1, e2⟩ | ⟨c1, c2, c3, e1, e2⟩
  · rw [e1, e2]
    clear h hk e1 e2
    go_enter Try.func27, Try.ntmps27
    go_wp2
    exact bodyPost_ret (v := .tuple #[.int .i64 0, .int .i64 12]) (by simp [results, Try.results27, go_sem]) rfl ⟨rfl, Below.refl _ _⟩
  · rw [e1, e2]
    clear h hk e1 e2
    go_enter Try.func27, Try.ntmps27
    go_wp2
    exact bodyPost_ret (v := .tuple #[.int .i64 0, .int .i64 3]) (by simp [results, Try.results27, go_sem]) rfl ⟨rfl, Below.refl _ _⟩
  · rw [e1, e2]
    have S := Lib.hid (fun W => rshown_any s (raw - s.raw) h (by omega) (by omega) W)
    obtain ⟨X, hX⟩ : ∃ X, Pl.shown s (raw - s.raw) = X := ⟨_, rfl⟩
    rw [hX] at S c3
    have W := Lib.hid (fun W => rin_any X 4503599627370496 W (by omega) (by omega))
    rw [c3] at W
    clear h e1 e2 hX c3
    have HB := Below.refl w.heap.size w
    have kw : IntKind.i64.wrap (raw - s.raw) = raw - s.raw := IntWalk.i64_in _ (by omega)
    go_enter Try.func27, Try.ntmps27
    go_wp2_with fail
    go_region_held3 (fun w' => w'.cell? ⟨b, 0, none⟩ = some (.int .i64 s.raw) ∧ w'.cell? ⟨b, 1, none⟩ = some (.int .i64 s.time) ∧ w'.cell? ⟨b, 2, none⟩ = some (.int .i64 s.ppb) ∧ w'.cell? ⟨b, 3, none⟩ = some (.int .i64 s.left) ∧ w'.cell? ⟨b, 4, none⟩ = some (.int .i64 s.rate) ∧ w'.cell? ⟨b, 5, none⟩ = some (.int .i64 s.steps)) (first | exact cs_cells hk | exact cs_cells hk.drew) ((go_at_call 40; refine (S.out _).mono ?_; rintro x w1 ⟨rfl, b1⟩; have HB : Below w.heap.size w w1 := (by first | exact bel_on HB b1 | exact bel_on HB.drew b1); have hk : Blk w1 b 53 (csA s) := (by first | exact hk.below_ b1 | exact hk.drew.below_ b1)))
    all_goals (
    go_wp2_with fail
    refine (W.out _).mono ?_
    rintro x w2 ⟨rfl, rfl⟩
    go_wp2
    exact bodyPost_ret (v := .tuple #[.int .i64 0, .int .i64 3]) (by simp [results, Try.results27, go_sem]) rfl ⟨rfl, HB⟩)
  · rw [e1, e2]
    have S := Lib.hid (fun W => rshown_any s (raw - s.raw) h (by omega) (by omega) W)
    obtain ⟨X, hX⟩ : ∃ X, Pl.shown s (raw - s.raw) = X := ⟨_, rfl⟩
    rw [hX] at S c3 ⊢
    have W := Lib.hid (fun W => rin_any X 4503599627370496 W (by omega) (by omega))
    rw [c3] at W
    clear h e1 e2 hX c3
    have HB := Below.refl w.heap.size w
    have kw : IntKind.i64.wrap (raw - s.raw) = raw - s.raw := IntWalk.i64_in _ (by omega)
    go_enter Try.func27, Try.ntmps27
    go_wp2_with fail
    go_region_held3 (fun w' => w'.cell? ⟨b, 0, none⟩ = some (.int .i64 s.raw) ∧ w'.cell? ⟨b, 1, none⟩ = some (.int .i64 s.time) ∧ w'.cell? ⟨b, 2, none⟩ = some (.int .i64 s.ppb) ∧ w'.cell? ⟨b, 3, none⟩ = some (.int .i64 s.left) ∧ w'.cell? ⟨b, 4, none⟩ = some (.int .i64 s.rate) ∧ w'.cell? ⟨b, 5, none⟩ = some (.int .i64 s.steps)) (first | exact cs_cells hk | exact cs_cells hk.drew) ((go_at_call 40; refine (S.out _).mono ?_; rintro x w1 ⟨rfl, b1⟩; have HB : Below w.heap.size w w1 := (by first | exact bel_on HB b1 | exact bel_on HB.drew b1); have hk : Blk w1 b 53 (csA s) := (by first | exact hk.below_ b1 | exact hk.drew.below_ b1)))
    all_goals (
    go_wp2_with fail
    refine (W.out _).mono ?_
    rintro x w2 ⟨rfl, rfl⟩
    go_wp2
    exact bodyPost_ret (v := .tuple #[.int .i64 X, .int .i64 0]) (by simp [results, Try.results27, go_sem]) rfl ⟨rfl, HB⟩)

theorem rnow10_at {s : Pl.CS} {raw : Int} (h : s.ok = true) {T E : Int} (hT : Pl.nowT s raw = T) (hE : Pl.nowE s raw = E) (b : Nat) (w : World) (hk : Blk w b 53 (csA s)) :
    Calls Try.prog 27 #[.pointer (some ⟨b, 0, none⟩), .int .i64 raw] w fun e w' => e = .returned (.tuple #[.int .i64 T, .int .i64 E]) ∧ Below w.heap.size w w' := by
  subst hT hE
  exact rnow10_any b s raw w hk h

theorem one6 {w W : World} {t : TypeId} {c : Array Value} (h : One w W t c) (u0 u1 u2 u3 u4 u5 : Value) :
    Below w.heap.size w ((((((W.setCell ⟨w.heap.size, 0, none⟩ u0).setCell ⟨w.heap.size, 1, none⟩ u1).setCell ⟨w.heap.size, 2, none⟩ u2).setCell ⟨w.heap.size, 3, none⟩ u3).setCell ⟨w.heap.size, 4, none⟩ u4).setCell ⟨w.heap.size, 5, none⟩ u5) := by
  have h0 := Below.setCell (p := ⟨w.heap.size, 0, none⟩) h.1 (Nat.le_refl _) u0
  have h1 := Below.setCell (p := ⟨w.heap.size, 1, none⟩) h0 (Nat.le_refl _) u1
  have h2 := Below.setCell (p := ⟨w.heap.size, 2, none⟩) h1 (Nat.le_refl _) u2
  have h3 := Below.setCell (p := ⟨w.heap.size, 3, none⟩) h2 (Nat.le_refl _) u3
  have h4 := Below.setCell (p := ⟨w.heap.size, 4, none⟩) h3 (Nat.le_refl _) u4
  exact Below.setCell (p := ⟨w.heap.size, 5, none⟩) h4 (Nat.le_refl _) u5

set_option maxHeartbeats 4000000 in
theorem rmoved_no (b : Nat) (s : Pl.CS) (raw E : Int) (w : World) (hk : Blk w b 53 (csA s)) (h : s.ok = true) (hE : Pl.nowE s raw = E) (hn : E ≠ 0) :
    Calls Try.prog 41 #[.pointer (some ⟨b, 0, none⟩), .int .i64 raw] w fun e w' => e = .returned (.tuple #[csV ⟨0, 0, 0, 0, 0, 0⟩, .int .i64 E]) ∧ Below w.heap.size w w' := by
  have N := Lib.hid (fun W k => rnow10_at (T := Pl.nowT s raw) h rfl hE b W k)
  have HK := Lib.hid hk
  have t : (E == 0) = false := by simp [hn]
  clear hk h hE hn
  go_enter Try.func41, Try.ntmps41
  go_wp2_with fail
  refine (N.out _ (HK.out.alloc _)).mono ?_
  rintro _ w1 ⟨rfl, l1⟩
  have K := (one_mk w 23 #[.int .i64 0, .int .i64 0, .int .i64 0, .int .i64 0, .int .i64 0, .int .i64 0]).on l1
  have z0 : w1.cell? ⟨w.heap.size, 0, none⟩ = some (.int .i64 0) := K.2.cell 0
  have z1 : w1.cell? ⟨w.heap.size, 1, none⟩ = some (.int .i64 0) := K.2.cell 1
  have z2 : w1.cell? ⟨w.heap.size, 2, none⟩ = some (.int .i64 0) := K.2.cell 2
  have z3 : w1.cell? ⟨w.heap.size, 3, none⟩ = some (.int .i64 0) := K.2.cell 3
  have z4 : w1.cell? ⟨w.heap.size, 4, none⟩ = some (.int .i64 0) := K.2.cell 4
  have z5 : w1.cell? ⟨w.heap.size, 5, none⟩ = some (.int .i64 0) := K.2.cell 5
  have f0 := K.2.frozen 0
  have f1 := K.2.frozen 1
  have f2 := K.2.frozen 2
  have f3 := K.2.frozen 3
  have f4 := K.2.frozen 4
  have f5 := K.2.frozen 5
  have kz := K.2.lt
  have HK1 := Lib.hid K
  clear l1 K
  go_wp2
  refine bodyPost_ret (v := .tuple #[csV ⟨0, 0, 0, 0, 0, 0⟩, .int .i64 E]) (by simp [results, Try.results41, go_sem, z0, z1, z2, z3, z4, z5, kz]) rfl ⟨rfl, ?_⟩
  exact one6 HK1.out _ _ _ _ _ _

end Go.Proofs.Ytcdholgafojjoaa
