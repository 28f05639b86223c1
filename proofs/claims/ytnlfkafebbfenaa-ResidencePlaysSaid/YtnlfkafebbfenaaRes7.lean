/- awake: the examples of the chapter. -/
import Derived.Test.YtnlfkafebbfenaaRes6
namespace Go.Proofs.Ytnlfkafebbfenaa
open Go.RowKit Go.Lib Go.Maps
namespace Pl
def awA : PM := ⟨0, 0, 0, 1, 0, 0, 0, 0, 0, 0, 0, 0, 0, 0, 0, 0, 0, 0, 0, 0, 0⟩
def awB : PM := ⟨0, 0, 0, 327681, 0, 0, 0, 0, 0, 0, 0, 0, 0, 0, 0, 0, 0, 0, 0, 0, 0⟩
def awH : PM := ⟨0, 0, 512, 0, 0, 0, 4, 0, 0, 0, 0, 0, 0, 0, 0, 0, 0, 0, 0, 0, 0⟩
def awF : PM := ⟨8, 0, 0, 5, 0, 0, 4, 0, 0, 0, 0, 0, 0, 0, 0, 0, 0, 0, 0, 0, 0⟩
def awR : PM := ⟨8, 0, 0, 655365, 0, 0, 4, 0, 0, 0, 0, 0, 0, 0, 0, 0, 0, 0, 0, 0, 0⟩
end Pl
theorem aw_stay : Pl.stayE 0 1000100000 100000 = 0 ∧ Pl.stayN 0 1000100000 100000 = 1000000000 := by
  constructor <;> decide
theorem aw_add : Pl.addE Pl.awA 2 3 = 0 ∧ Pl.addP Pl.awA 2 3 = Pl.awB := by
  have h : Pl.addE Pl.awA 2 3 = 0 := by decide
  refine ⟨h, ?_⟩
  unfold Pl.addP
  rw [if_pos h]
  rfl
theorem aw_add2 : Pl.addE Pl.pm0 1125899906842624 0 = 4 ∧ Pl.addP Pl.pm0 1125899906842624 0 = Pl.pm0 := by
  have h : Pl.addE Pl.pm0 1125899906842624 0 = 4 := by decide
  refine ⟨h, ?_⟩
  unfold Pl.addP
  rw [h]
  rfl
theorem aw_hold : holdE [] 1 Pl.awH 10 = 0 ∧ holdL [] 1 Pl.awH 10 = [((0, 0, 0, 0, 4), 10)] := by
  have h : holdE [] 1 Pl.awH 10 = 0 := by decide
  refine ⟨h, ?_⟩
  unfold holdL
  rw [if_pos h]
  rfl
theorem aw_rel : relE [((0, 0, 0, 0, 4), 10)] Pl.awF = 0 ∧ relP [((0, 0, 0, 0, 4), 10)] Pl.awF = Pl.awR ∧ relL [((0, 0, 0, 0, 4), 10)] Pl.awF = [] := by
  have h : relE [((0, 0, 0, 0, 4), 10)] Pl.awF = 0 := by decide
  refine ⟨h, ?_, ?_⟩
  · unfold relP
    rw [if_pos h]
    rfl
  · unfold relL
    rw [if_pos h]
    rfl
theorem wf_A : PmWf Pl.awA := ⟨by decide, by decide, by decide, by decide, by decide, by decide, by decide⟩
theorem wf_0 : PmWf Pl.pm0 := ⟨by decide, by decide, by decide, by decide, by decide, by decide, by decide⟩
theorem wf_H : PmWf Pl.awH := ⟨by decide, by decide, by decide, by decide, by decide, by decide, by decide⟩
theorem wf_F : PmWf Pl.awF := ⟨by decide, by decide, by decide, by decide, by decide, by decide, by decide⟩
set_option maxRecDepth 100000 in
theorem raw_1 (W : World) : Calls Try.prog 11 #[.int .i64 0, .int .i64 1000100000, .int .i64 100000] W fun e w' => e = .returned (.tuple #[.int .i64 1000000000, .int .i64 0]) ∧ Below W.heap.size W w' := by
  have := stay_any 0 1000100000 100000 W
  rw [aw_stay.1, aw_stay.2] at this
  exact this
theorem raw_2 (W : World) : Calls Try.prog 14 #[pmV Pl.awA, .int .i64 2, .int .i64 3] W fun e w' => e = .returned (.tuple #[pmV Pl.awB, .int .i64 0]) ∧ Below W.heap.size W w' := by
  have := add_any Pl.awA 2 3 wf_A W
  rw [aw_add.1, aw_add.2] at this
  exact this
theorem raw_3 (W : World) : Calls Try.prog 14 #[pmV Pl.pm0, .int .i64 1125899906842624, .int .i64 0] W fun e w' => e = .returned (.tuple #[pmV Pl.pm0, .int .i64 4]) ∧ Below W.heap.size W w' := by
  have := add_any Pl.pm0 1125899906842624 0 wf_0 W
  rw [aw_add2.1, aw_add2.2] at this
  exact this

theorem raw_5 (b g : Nat) (W : World) (h : Tb W b g 1 []) : Calls Try.prog 19 #[.pointer (some ⟨b, 0, none⟩), pmV Pl.awH, .int .i64 10] W fun e w' => e = .returned (.int .i64 0) ∧ Tb w' b g 1 [((0, 0, 0, 0, 4), 10)] ∧ W.grownBy w' (some g) := by
  have := thold_any b g 1 [] Pl.awH 10 W h wf_H (by decide)
  rw [aw_hold.1, aw_hold.2] at this
  exact this
theorem raw_6 (b g : Nat) (W : World) (h : Tb W b g 1 [((0, 0, 0, 0, 4), 10)]) : Calls Try.prog 21 #[.pointer (some ⟨b, 0, none⟩), pmV Pl.awF] W fun e w' => e = .returned (.tuple #[pmV Pl.awR, .int .i64 0]) ∧ Tb w' b g 1 [] ∧ W.grownBy w' (some g) := by
  have := trel_any b g 1 [((0, 0, 0, 0, 4), 10)] Pl.awF W h wf_F
  rw [aw_rel.1, aw_rel.2.1, aw_rel.2.2] at this
  exact this

set_option maxHeartbeats 4000000 in
set_option maxRecDepth 100000 in
theorem rawake_any (w : World) : Calls Try.prog 13 #[] w fun e w' => e = .returned (.bool true) ∧ Below w.heap.size w w' := by
  have R1 := Lib.hid raw_1
  have R2 := Lib.hid raw_2
  have R3 := Lib.hid raw_3
  have R4 := Lib.hid (fun W => tnew_yes 1 (by omega) (by omega) W)
  go_enter Try.func13, Try.ntmps13
  go_wp2_with fail
  refine (R1.out _).mono ?_
  rintro _ w1 ⟨rfl, l1⟩
  go_wp2_with fail
  refine (R2.out _).mono ?_
  rintro _ w2 ⟨rfl, l2⟩
  have B2 := Lib.hid (bel_on l1 l2)
  clear l1 l2
  go_wp2_with (refine wpList_store_blk rfl 33 _ _ rfl w2.heap.size (pmA Pl.awB) rfl rfl 33 zA (Blk.new _ _ _) (by kernel_rfl) rfl (by kernel_rfl) ?_; intro W3 HP HG3)
  have B3 := Lib.hid (Below.only (B2.out.alloc B2.out.size _) HG3 B2.out.size (by have := B2.out.size; simp; omega))
  clear HG3
  refine (R3.out _).mono ?_
  rintro _ w4 ⟨rfl, l4⟩
  have HP4 := HP.below_ l4
  have B4 := Lib.hid (bel_on B3.out l4)
  clear HP l4
  go_wp2_with (refine wpList_store_blk rfl 33 _ _ rfl w4.heap.size (pmA Pl.pm0) rfl rfl 33 zA (Blk.new _ _ _) (by kernel_rfl) rfl (by kernel_rfl) ?_; intro W5 HQ HG5)
  have B5 := Below.only (B4.out.alloc B4.out.size _) HG5 B4.out.size (by have := B4.out.size; simp; omega)
  have HP5 := (HP4.alloc (.cells zA 33)).grown HG5 (fun e => by injection e with e; have := HP4.lt; omega)
  have hz5 := HP5.lt
  clear HG5 HQ HP4
  refine (R4.out _).mono ?_
  rintro _ w5 ⟨b, g, rfl, hb, hg, T5, l5⟩
  have hg2 : w2.heap.size ≠ g := by omega
  have hwg : w.heap.size ≤ g := Nat.le_trans B5.size hg
  have B6 := Lib.hid (bel_on B5 l5)
  have HP6 := Lib.hid (HP5.below_ l5)
  have R5 := Lib.hid (raw_5 b g)
  have R6 := Lib.hid (raw_6 b g)
  clear B5 HP5 l5 hb hg hz5
  go_wp2_with fail
  refine (R5.out _ T5).mono ?_
  rintro _ w6 ⟨rfl, T6, l6⟩
  have B7 := Lib.hid (Below.only B6.out l6 hwg B6.out.size)
  have HP7 := Lib.hid (HP6.out.grown l6 (fun e => by injection e with e; exact hg2 e))
  clear l6 T5 B6 HP6
  go_wp2_with fail
  refine (tlen_any b g 1 _ _ T6).mono ?_
  rintro _ w7 ⟨rfl, rfl⟩
  go_wp2_with fail
  refine (R6.out _ T6).mono ?_
  rintro _ w8 ⟨rfl, T8, l8⟩
  have B8 := Lib.hid (Below.only B7.out l8 hwg B7.out.size)
  have HP8 := HP7.out.grown l8 (fun e => by injection e with e; exact hg2 e)
  have T8b := T8.lt
  have hz8 := HP8.lt
  clear l8 T6 B7 HP7
  go_wp2_with (refine wpList_store_blk rfl 33 _ _ rfl w8.heap.size (pmA Pl.awR) rfl rfl 33 zA (Blk.new _ _ _) (by kernel_rfl) rfl (by kernel_rfl) ?_; intro W9 HR HG9; have HP9 := (HP8.alloc (.cells zA 33)).grown HG9 (fun e => by injection e with e; omega); have T9 := (T8.on (bel_bx' w8 (.cells zA 33))).far HG9 (by omega) (by omega); have B9 := Lib.hid (Below.only (B8.out.alloc B8.out.size (.cells zA 33)) HG9 B8.out.size (by have := B8.out.size; simp; omega)); have x3 : W9.cell? ⟨w2.heap.size, 3, none⟩ = some (.int .i64 327681) := HP9.cell 3; have y3 : W9.cell? ⟨w8.heap.size, 3, none⟩ = some (.int .i64 655365) := HR.cell 3; have xz := HP9.lt; have yz := HR.lt; clear HG9)
  refine (tlen_any b g 1 _ _ T9).mono ?_
  rintro _ w10 ⟨rfl, rfl⟩
  go_wp2_with fail
  go_ret
  exact ⟨rfl, B9.out⟩
end Go.Proofs.Ytnlfkafebbfenaa
