/- The chapter's examples. -/
import Derived.Test.YtkdanfhgnpgmmaaDriftFns
import Derived.Test.YtkdanfhgnpgmmaaDriftMore
namespace Go.Proofs.Ytkdanfhgnpgmmaa
open Go.RowKit Go.Lib

theorem dawake_any (w : World) : Calls Try.prog 15 #[] w fun e w' => e = .returned (.bool true) ∧ Below w.heap.size w w' := by
  have E1 := Lib.hid (delapsed_any 1000000000 500000 (by omega) (by omega) (by omega) (by omega))
  have E2 := Lib.hid (delapsed_any 0 0 (by omega) (by omega) (by omega) (by omega))
  have E3 := Lib.hid (dage_any 5 10 100 0 (by omega) (by omega) (by omega) (by omega))
  have E4 := Lib.hid (dtrip_any 5 10 100 30 0 (by omega) (by omega) (by omega) (by omega))
  have E5 := Lib.hid (dmeet_any 1 5 5 9)
  have E6 := Lib.hid (dhull_any 1 5 5 9)
  simp only [show Pl.ela 1000000000 500000 = (999500249, 1000500251, 0) by decide] at E1
  simp only [show Pl.ela 0 0 = (0, 0, 0) by decide] at E2
  simp only [show Pl.age 5 10 100 0 = (105, 110, 0) by decide] at E3
  simp only [show Pl.trip 5 10 100 30 0 = (5, 80, 0) by decide] at E4
  simp only [show Pl.meet 1 5 5 9 = (5, 5, true) by decide] at E5
  simp only [show Pl.hull 1 5 5 9 = (1, 9) by decide] at E6
  go_enter Try.func15, Try.ntmps15
  go_wp2_with fail
  refine (E1.out _).mono ?_
  rintro e w1 ⟨rfl, b1⟩
  go_wp2_with fail
  refine (E2.out _).mono ?_
  rintro e w2 ⟨rfl, b2⟩
  have HB : Below w.heap.size w w2 := b1.trans (b2.mono b1.size)
  clear b1 b2
  go_wp2_with fail
  refine (E3.out _).mono ?_
  rintro e w3 ⟨rfl, b3⟩
  have HB := HB.trans (b3.mono HB.size)
  go_wp2_with fail
  refine (E4.out _).mono ?_
  rintro e w4 ⟨rfl, b4⟩
  have HB := (bel_more HB _).trans (b4.mono (bel_more HB _).size)
  have k3 := (Blk.new w3 23 #[.int .i64 105, .int .i64 110]).below_ b4
  go_wp2_with fail
  refine (E5.out _).mono ?_
  rintro e w5 ⟨rfl, b5⟩
  have HB := (bel_more HB _).trans (b5.mono (bel_more HB _).size)
  have k3 := (k3.alloc _).below_ b5
  have k4 := (Blk.new w4 23 #[.int .i64 5, .int .i64 80]).below_ b5
  go_wp2_with fail
  refine (E6.out _).mono ?_
  rintro e w6 ⟨rfl, b6⟩
  have HB := (bel_more HB _).trans (b6.mono (bel_more HB _).size)
  have k3 := (k3.alloc _).below_ b6
  have k4 := (k4.alloc _).below_ b6
  have k5 := (Blk.new w5 23 #[.int .i64 5, .int .i64 5]).below_ b6
  clear b3 b4 b5 b6
  have c3 : w6.cell? ⟨w3.heap.size, 0, none⟩ = some (.int .i64 105) := k3.cell 0
  have d3 : w6.cell? ⟨w3.heap.size, 1, none⟩ = some (.int .i64 110) := k3.cell 1
  have z3 := k3.lt
  have c4 : w6.cell? ⟨w4.heap.size, 0, none⟩ = some (.int .i64 5) := k4.cell 0
  have d4 : w6.cell? ⟨w4.heap.size, 1, none⟩ = some (.int .i64 80) := k4.cell 1
  have z4 := k4.lt
  have c5 : w6.cell? ⟨w5.heap.size, 0, none⟩ = some (.int .i64 5) := k5.cell 0
  have d5 : w6.cell? ⟨w5.heap.size, 1, none⟩ = some (.int .i64 5) := k5.cell 1
  have z5 := k5.lt
  go_wp2
  go_ret
  exact ⟨rfl, bel_more HB _⟩
end Go.Proofs.Ytkdanfhgnpgmmaa
