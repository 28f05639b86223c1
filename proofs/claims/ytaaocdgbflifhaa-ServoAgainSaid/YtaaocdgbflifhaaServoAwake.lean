/- The contract of the statements' own examples: awake returns true. -/
import Derived.Test.YtaaocdgbflifhaaServoSample
namespace Go.Proofs.Ytaaocdgbflifhaa
open Go.RowKit Go.Lib

theorem inv0 (c : Pl.Conf) (h : c.ok = true) : Pl.Inv c ⟨0, 0, 0⟩ := Pl.inv_zero h

set_option maxRecDepth 100000 in
set_option maxHeartbeats 1000000 in
theorem awake_any (w : World) : Calls Try.prog 15 #[] w fun e w' => e = .returned (.bool true) ∧ Below w.heap.size w w' := by
  go_enter Try.func15, Try.ntmps15
  go_wp2_with fail
  refine (snew_yes ⟨65536, 32768, 1000, 0, 0⟩ (by kernel_rfl) _).mono ?_
  rintro e w1 ⟨b1, rfl, hb1, k1, l1⟩
  go_wp2_with fail
  refine (snew_yes ⟨0, 0, 1, 1000, 0⟩ (by kernel_rfl) _).mono ?_
  rintro e w2 ⟨b2, rfl, hb2, k2, l2⟩
  go_wp2_with fail
  refine (snew_yes ⟨65536, 0, 500000, 0, 0⟩ (by kernel_rfl) _).mono ?_
  rintro e w3 ⟨b3, rfl, hb3, k3, l3⟩
  go_wp2_with fail
  have K1 := (k1.below_ l2).below_ l3
  have K2 := k2.below_ l3
  have n12 : b1 ≠ b2 := by have := k1.lt; omega
  have n13 : b1 ≠ b3 := by have := (k1.below_ l2).lt; omega
  have n23 : b2 ≠ b3 := by have := k2.lt; omega
  have L := Lib.hid ((l1.trans (l2.mono l1.size)).trans (l3.mono (Nat.le_trans l1.size l2.size)))
  have hb2' : w.heap.size ≤ b2 := Nat.le_trans l1.size hb2
  have hb3' : w.heap.size ≤ b3 := Nat.le_trans (Nat.le_trans l1.size l2.size) hb3
  have hw3 : w.heap.size ≤ w3.heap.size := L.out.size
  have N := Lib.hid (And.intro n12 (And.intro n13 n23))
  clear k1 k2 l1 l2 l3 n12 n13 n23
  refine (ssample_as b1 ⟨65536, 32768, 1000, 0, 0⟩ ⟨0, 0, 0⟩ 100 1000000000 1 150 0 ⟨50, 1, 150⟩ ⟨by kernel_rfl, by kernel_rfl⟩ _ K1 (by kernel_rfl) (by unfold Pl.Inv; decide) (by decide)).mono ?_
  rintro e w4 ⟨rfl, m1⟩
  have q10 : b1 < w3.heap.size ∧ b2 < w3.heap.size ∧ b3 < w3.heap.size := ⟨K1.lt, K2.lt, k3.lt⟩
  have K2 := K2.grown m1.2 (by have := N.out; simp; omega)
  have k3 := k3.grown m1.2 (by have := N.out; simp; omega)
  have K1 := m1.1
  have L := Lib.hid (Below.only L.out m1.2 hb1 hw3)
  have hw4 : w.heap.size ≤ w4.heap.size := L.out.size
  have Q := Lib.hid (And.intro K1.lt (And.intro K2.lt k3.lt))
  clear m1 hw3
  have K1 := K1.alloc (.cells #[.int .i64 1, .int .i64 150] 31)
  have K2 := K2.alloc (.cells #[.int .i64 1, .int .i64 150] 31)
  have k3 := k3.alloc (.cells #[.int .i64 1, .int .i64 150] 31)
  have x4 := Blk.new w4 31 #[.int .i64 1, .int .i64 150]
  have L := Lib.hid (L.out.alloc hw4 (.cells #[.int .i64 1, .int .i64 150] 31))
  have hwa4 : w.heap.size ≤ (w4.alloc (.cells #[.int .i64 1, .int .i64 150] 31)).heap.size := L.out.size
  go_wp2_with fail
  refine (ssample_as b1 ⟨65536, 32768, 1000, 0, 0⟩ ⟨50, 1, 150⟩ 100 1000000000 1 200 0 ⟨100, 2, 200⟩ ⟨by kernel_rfl, by kernel_rfl⟩ _ K1 (by kernel_rfl) (by unfold Pl.Inv; decide) (by decide)).mono ?_
  rintro e w5 ⟨rfl, m1⟩
  have q11 : b1 < w4.heap.size ∧ b2 < w4.heap.size ∧ b3 < w4.heap.size := Q.out
  have K2 := K2.grown m1.2 (by have := N.out; simp; omega)
  have k3 := k3.grown m1.2 (by have := N.out; simp; omega)
  have x4 := x4.grown m1.2 (by simp; omega)
  have K1 := m1.1
  have L := Lib.hid (Below.only L.out m1.2 hb1 hwa4)
  have hw5 : w.heap.size ≤ w5.heap.size := L.out.size
  have Q := Lib.hid (And.intro K1.lt (And.intro K2.lt k3.lt))
  clear m1 hwa4
  have K1 := K1.alloc (.cells #[.int .i64 1, .int .i64 200] 31)
  have K2 := K2.alloc (.cells #[.int .i64 1, .int .i64 200] 31)
  have k3 := k3.alloc (.cells #[.int .i64 1, .int .i64 200] 31)
  have x4 := x4.alloc (.cells #[.int .i64 1, .int .i64 200] 31)
  have x5 := Blk.new w5 31 #[.int .i64 1, .int .i64 200]
  have L := Lib.hid (L.out.alloc hw5 (.cells #[.int .i64 1, .int .i64 200] 31))
  have hwa5 : w.heap.size ≤ (w5.alloc (.cells #[.int .i64 1, .int .i64 200] 31)).heap.size := L.out.size
  go_wp2_with fail
  refine (ssample_as b2 ⟨0, 0, 1, 1000, 0⟩ ⟨0, 0, 0⟩ (-1001) 1 2 (-1001) 0 ⟨0, 1, 0⟩ ⟨by kernel_rfl, by kernel_rfl⟩ _ K2 (by kernel_rfl) (by unfold Pl.Inv; decide) (by decide)).mono ?_
  rintro e w6 ⟨rfl, m1⟩
  have q12 : b1 < w5.heap.size ∧ b2 < w5.heap.size ∧ b3 < w5.heap.size := Q.out
  have K1 := K1.grown m1.2 (by have := N.out; simp; omega)
  have k3 := k3.grown m1.2 (by have := N.out; simp; omega)
  have x4 := x4.grown m1.2 (by simp; omega)
  have x5 := x5.grown m1.2 (by simp; omega)
  have K2 := m1.1
  have L := Lib.hid (Below.only L.out m1.2 hb2' hwa5)
  have hw6 : w.heap.size ≤ w6.heap.size := L.out.size
  have Q := Lib.hid (And.intro K1.lt (And.intro K2.lt k3.lt))
  clear m1 hwa5
  have K1 := K1.alloc (.cells #[.int .i64 2, .int .i64 (-1001)] 31)
  have K2 := K2.alloc (.cells #[.int .i64 2, .int .i64 (-1001)] 31)
  have k3 := k3.alloc (.cells #[.int .i64 2, .int .i64 (-1001)] 31)
  have x4 := x4.alloc (.cells #[.int .i64 2, .int .i64 (-1001)] 31)
  have x5 := x5.alloc (.cells #[.int .i64 2, .int .i64 (-1001)] 31)
  have x6 := Blk.new w6 31 #[.int .i64 2, .int .i64 (-1001)]
  have L := Lib.hid (L.out.alloc hw6 (.cells #[.int .i64 2, .int .i64 (-1001)] 31))
  have hwa6 : w.heap.size ≤ (w6.alloc (.cells #[.int .i64 2, .int .i64 (-1001)] 31)).heap.size := L.out.size
  go_wp2_with fail
  refine (ssample_as b2 ⟨0, 0, 1, 1000, 0⟩ ⟨0, 1, 0⟩ (-1001) 1 1 0 0 ⟨0, 2, 0⟩ ⟨by kernel_rfl, by kernel_rfl⟩ _ K2 (by kernel_rfl) (by unfold Pl.Inv; decide) (by decide)).mono ?_
  rintro e w7 ⟨rfl, m1⟩
  have q13 : b1 < w6.heap.size ∧ b2 < w6.heap.size ∧ b3 < w6.heap.size := Q.out
  have K1 := K1.grown m1.2 (by have := N.out; simp; omega)
  have k3 := k3.grown m1.2 (by have := N.out; simp; omega)
  have x4 := x4.grown m1.2 (by simp; omega)
  have x5 := x5.grown m1.2 (by simp; omega)
  have x6 := x6.grown m1.2 (by simp; omega)
  have K2 := m1.1
  have L := Lib.hid (Below.only L.out m1.2 hb2' hwa6)
  have hw7 : w.heap.size ≤ w7.heap.size := L.out.size
  have Q := Lib.hid (And.intro K1.lt (And.intro K2.lt k3.lt))
  clear m1 hwa6
  have K1 := K1.alloc (.cells #[.int .i64 1, .int .i64 0] 31)
  have K2 := K2.alloc (.cells #[.int .i64 1, .int .i64 0] 31)
  have k3 := k3.alloc (.cells #[.int .i64 1, .int .i64 0] 31)
  have x4 := x4.alloc (.cells #[.int .i64 1, .int .i64 0] 31)
  have x5 := x5.alloc (.cells #[.int .i64 1, .int .i64 0] 31)
  have x6 := x6.alloc (.cells #[.int .i64 1, .int .i64 0] 31)
  have x7 := Blk.new w7 31 #[.int .i64 1, .int .i64 0]
  have L := Lib.hid (L.out.alloc hw7 (.cells #[.int .i64 1, .int .i64 0] 31))
  have hwa7 : w.heap.size ≤ (w7.alloc (.cells #[.int .i64 1, .int .i64 0] 31)).heap.size := L.out.size
  go_wp2_with fail
  refine (ssample_as b3 ⟨65536, 0, 500000, 0, 0⟩ ⟨0, 0, 0⟩ 1 3 1 500000 0 ⟨0, 1, 500000⟩ ⟨by kernel_rfl, by kernel_rfl⟩ _ k3 (by kernel_rfl) (by unfold Pl.Inv; decide) (by decide)).mono ?_
  rintro e w8 ⟨rfl, m1⟩
  have q14 : b1 < w7.heap.size ∧ b2 < w7.heap.size ∧ b3 < w7.heap.size := Q.out
  have K1 := K1.grown m1.2 (by have := N.out; simp; omega)
  have K2 := K2.grown m1.2 (by have := N.out; simp; omega)
  have x4 := x4.grown m1.2 (by simp; omega)
  have x5 := x5.grown m1.2 (by simp; omega)
  have x6 := x6.grown m1.2 (by simp; omega)
  have x7 := x7.grown m1.2 (by simp; omega)
  have k3 := m1.1
  have L := Lib.hid (Below.only L.out m1.2 hb3' hwa7)
  have hw8 : w.heap.size ≤ w8.heap.size := L.out.size
  have Q := Lib.hid (And.intro K1.lt (And.intro K2.lt k3.lt))
  clear m1 hwa7
  have Y := Lib.hid (And.intro x4 (And.intro x5 (And.intro x6 x7)))
  have y41 : w8.cell? ⟨w4.heap.size, 0, none⟩ = some (.int .i64 1) := x4.cell 0
  have y42 : w8.cell? ⟨w4.heap.size, 1, none⟩ = some (.int .i64 150) := x4.cell 1
  have y51 : w8.cell? ⟨w5.heap.size, 0, none⟩ = some (.int .i64 1) := x5.cell 0
  have y52 : w8.cell? ⟨w5.heap.size, 1, none⟩ = some (.int .i64 200) := x5.cell 1
  have y61 : w8.cell? ⟨w6.heap.size, 0, none⟩ = some (.int .i64 2) := x6.cell 0
  have y62 : w8.cell? ⟨w6.heap.size, 1, none⟩ = some (.int .i64 (-1001)) := x6.cell 1
  have y71 : w8.cell? ⟨w7.heap.size, 0, none⟩ = some (.int .i64 1) := x7.cell 0
  have y72 : w8.cell? ⟨w7.heap.size, 1, none⟩ = some (.int .i64 0) := x7.cell 1
  have z4 := x4.lt
  have z5 := x5.lt
  have z6 := x6.lt
  have z7 := x7.lt
  clear x4 x5 x6 x7 K1 K2 k3 Q
  go_wp2
  go_ret
  exact ⟨rfl, L.out.alloc hw8 _⟩

#print axioms awake_any
end Go.Proofs.Ytaaocdgbflifhaa
