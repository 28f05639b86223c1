/- The walk of DriftTrips. -/
import Derived.Test.YtkdanfhgnpgmmaaDriftAwake
import Derived.Test.YtkdanfhgnpgmmaaOpen
import Derived.Test.YtkdanfhgnpgmmaaLaw
namespace Go.Proofs.Ytkdanfhgnpgmmaa
open Go.RowKit Go.Lib

theorem u32_bd' {n : Int} (h : (Lit.int .u32 n).wf = true) : 0 ≤ n ∧ n ≤ 4294967295 := by
  have hmin : IntKind.u32.min = 0 := rfl
  have hmax : IntKind.u32.max = 4294967295 := rfl
  simp only [Lit.wf, Bool.and_eq_true, decide_eq_true_eq] at h
  omega

set_option maxRecDepth 100000 in
theorem driftTrips_walk (a b raw hold tol : Int) (w : World) (_h : ∀ n ∈ [a, b], (Lit.int .i64 n).wf = true) (h1 : (Lit.int .i64 raw).wf = true) (_h2 : (Lit.int .i64 hold).wf = true) (h3 : (Lit.int .u32 tol).wf = true) :
    Calls Try.prog 5 #[.agg ([a, b].map (Value.int .i64)).toArray, .int .i64 raw, .int .i64 hold, .int .u32 tol] w fun e w' => e = .returned (.bool true) ∧ Below w.heap.size w w' := by
  obtain ⟨r1, r2⟩ := int_bd h1
  obtain ⟨t1, t2⟩ := u32_bd' h3
  clear _h h1 _h2 h3
  show Calls Try.prog 5 #[.agg #[.int .i64 a, .int .i64 b], .int .i64 raw, .int .i64 hold, .int .u32 tol] w _
  have E1 := Lib.hid (fun k (k1 : 0 ≤ k) (k2 : k ≤ 4294967295) W => dtrip_any a b raw hold k r1 r2 (by omega) (by omega) W)
  have E2 := Lib.hid (fun k (k1 : 0 ≤ k) (k2 : k ≤ 4294967295) W => rtrip_any a b raw hold k r1 r2 (by omega) (by omega) W)
  clear r1 r2
  go_enter Try.func5, Try.ntmps5
  go_wp2_with fail
  go_loopw [25] (fun i wr => ∃ k : Nat, i = .int .i64 k ∧ k ≤ 3 ∧ Hid (Two w wr 23 3 #[.int .i64 a, .int .i64 b] #[.int .i64 tol, .int .i64 (tol % 1000), .int .i64 (tol % 500002)])) (fun i _ => 3 - (RowKit.intOf i).toNat)
  case atStart => exact ⟨0, rfl, by omega, Lib.hid (two_mk w _ _ _ _)⟩
  case round =>
    obtain ⟨k, rfl, hk3, hT⟩ := hrel
    by_cases hlt : k < 3
    · obtain ⟨v, c0, v1, v2⟩ : ∃ v, wr.cell? ⟨w.heap.size + 1, k, none⟩ = some (.int .i64 v) ∧ 0 ≤ v ∧ v ≤ 4294967295 := by
        rcases (by omega : k = 0 ∨ k = 1 ∨ k = 2) with rfl | rfl | rfl
        · exact ⟨tol, hT.out.2.2.cell 0, t1, t2⟩
        · exact ⟨tol % 1000, hT.out.2.2.cell 1, by omega, by omega⟩
        · exact ⟨tol % 500002, hT.out.2.2.cell 2, by omega, by omega⟩
      have T0 := hT.out
      have z0 := T0.2.1.lt
      have z1 := T0.2.2.lt
      have q0 : wr.cell? ⟨w.heap.size, 0, none⟩ = some (.int .i64 a) := T0.2.1.cell 0
      have q1 : wr.cell? ⟨w.heap.size, 1, none⟩ = some (.int .i64 b) := T0.2.1.cell 1
      have F1 := Lib.hid (E1.out v v1 v2)
      have F2 := Lib.hid (E2.out v v1 v2)
      obtain ⟨x, y, e, hX⟩ : ∃ x y e, Pl.trip a b raw hold v = (x, y, e) := ⟨_, _, _, rfl⟩
      rw [hX] at F1 F2
      clear hX
      go_wp2_with fail
      refine (F1.out _).mono ?_
      rintro _ w1 ⟨rfl, b1⟩
      have T1 := T0.on b1
      clear q0 q1 z0 z1 c0 b1 T0
      have q0 : w1.cell? ⟨w.heap.size, 0, none⟩ = some (.int .i64 a) := T1.2.1.cell 0
      have q1 : w1.cell? ⟨w.heap.size, 1, none⟩ = some (.int .i64 b) := T1.2.1.cell 1
      have z0 := T1.2.1.lt
      go_wp2_with fail
      refine (F2.out _).mono ?_
      rintro _ w2 ⟨rfl, b2⟩
      have T2 := (T1.on (bel_box w1 (.cells #[.int .i64 x, .int .i64 y] 23))).on b2
      have k1 := blk_new b2
      have p0 : w2.cell? ⟨w1.heap.size, 0, none⟩ = some (.int .i64 x) := k1.cell 0
      have p1 : w2.cell? ⟨w1.heap.size, 1, none⟩ = some (.int .i64 y) := k1.cell 1
      have p2 := k1.lt
      clear b2 k1 q0 q1 z0 T1
      have HT := Lib.hid (T2.on (bel_box w2 (.cells #[.int .i64 x, .int .i64 y] 23)))
      clear T2 F1 F2
      go_wp2_with fail
      go_roundw
      case rel => exact ⟨k + 1, by go_num, by omega, HT⟩
      case measure => simp [RowKit.intOf]; omega
    · obtain rfl : k = 3 := by omega
      go_wp2_with (go_at_call 15; refine (dawake_any _).mono ?_; rintro e w3 ⟨rfl, b3⟩)
      go_ret
      exact ⟨rfl, bel_on hT.out.1 b3⟩
end Go.Proofs.Ytkdanfhgnpgmmaa
