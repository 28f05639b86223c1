/- The walk of ResidenceAdds. -/
import Derived.Test.YtnlfkafebbfenaaRes7
import Derived.Test.YtnlfkafebbfenaaOpenPtp
namespace Go.Proofs.Ytnlfkafebbfenaa
open Go.RowKit Go.Lib

set_option maxHeartbeats 1000000 in
set_option maxRecDepth 100000 in
theorem residenceAdds_walk (p : Pl.PM) (s l : Int) (w : World) (hw : PmWf p) (_h2 : (Lit.int .i64 s).wf = true) (_h3 : (Lit.int .i64 l).wf = true) :
    Calls Try.prog 4 #[pmV p, .int .i64 s, .int .i64 l] w fun e w' => e = .returned (.bool true) ∧ Below w.heap.size w w' := by
  have S1 := fun W => add_any p s l hw W
  have S2 := fun W => radd40_any p s l hw W
  obtain ⟨N, hN⟩ : ∃ N, Pl.addP p s l = N := ⟨_, rfl⟩
  obtain ⟨E, hE⟩ : ∃ N, Pl.addE p s l = N := ⟨_, rfl⟩
  rw [hN, hE] at S1 S2
  replace S1 := Lib.hid S1
  replace S2 := Lib.hid S2
  clear hN hE hw
  go_enter Try.func4, Try.ntmps4
  go_wp2_with (refine wpList_load_blk rfl 33 _ rfl w.heap.size rfl 33 (pmA p) _ (Blk.new w _ _) Try.underlying33 rfl (by kernel_rfl) ?_)
  refine (S1.out _).mono ?_
  rintro _ w1 ⟨rfl, l1⟩
  have K1 := (one_mk w 33 (pmA p)).on l1
  have K1b := K1.2
  clear l1
  have hz1 : w.heap.size < w1.heap.size := K1.2.lt
  go_wp2_with (first | (refine wpList_store_blk rfl 33 _ _ rfl w1.heap.size (pmA N) rfl rfl 33 zA (Blk.new _ _ _) (by kernel_rfl) rfl (by kernel_rfl) ?_; intro W2 HA HG2; have K2 := Below.only (K1.1.alloc K1.1.size (.cells zA 33)) HG2 K1.1.size (by have := K1.1.size; simp; omega); have HP2 := (K1b.alloc (.cells zA 33)).grown HG2 (fun e => by injection e with e; omega); clear HG2) | (refine wpList_load_blk rfl 33 _ rfl w.heap.size rfl 33 (pmA p) _ HP2 Try.underlying33 rfl (by kernel_rfl) ?_))
  refine (S2.out _).mono ?_
  rintro _ w3 ⟨rfl, l3⟩
  have K3 := bel_on K2 l3
  have HA3 := HA.below_ l3
  have hz3 : w1.heap.size < w3.heap.size := HA3.lt
  clear l3 HP2 K2 HA K1b K1
  go_wp2_with (first | (refine wpList_store_blk rfl 33 _ _ rfl w3.heap.size (pmA N) rfl rfl 33 zA (Blk.new _ _ _) (by kernel_rfl) rfl (by kernel_rfl) ?_; intro W4 HB HG4; have K4 := Below.only (K3.alloc K3.size (.cells zA 33)) HG4 K3.size (by have := K3.size; simp; omega); have HA4 := (HA3.alloc (.cells zA 33)).grown HG4 (fun e => by injection e with e; omega); clear HG4) | (refine wpList_load_blk rfl 33 _ rfl w1.heap.size rfl 33 (pmA N) _ HA4 Try.underlying33 rfl (by kernel_rfl) ?_) | (refine wpList_load_blk rfl 33 _ rfl w3.heap.size rfl 33 (pmA N) _ HB Try.underlying33 rfl (by kernel_rfl) ?_))
  refine (rawake_any _).mono ?_
  rintro _ w5 ⟨rfl, l5⟩
  go_wp2
  go_ret
  exact ⟨rfl, bel_on K4 l5⟩
end Go.Proofs.Ytnlfkafebbfenaa
