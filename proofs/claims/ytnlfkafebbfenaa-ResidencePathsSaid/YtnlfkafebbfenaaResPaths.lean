/- The walk of ResidencePaths. -/
import Derived.Test.YtnlfkafebbfenaaResPath2
import Derived.Test.YtnlfkafebbfenaaRes7
import Derived.Test.YtnlfkafebbfenaaOpenPtp
namespace Go.Proofs.Ytnlfkafebbfenaa
open Go.RowKit Go.Lib

set_option maxHeartbeats 1000000 in
set_option maxRecDepth 100000 in
theorem residencePaths_walk (p : Pl.PM) (a : Option Addr) (len cap : Nat) (z : Nat → Nat → Int) (w : World) (hw : PmWf p) (h : len ≤ cap ∧ cap ≤ maxLen ∧ Fours w a len z) :
    Calls Try.prog 9 #[pmV p, .slice a len cap] w fun e w' => e = .returned (.bool true) ∧ Below w.heap.size w w' := by
  obtain ⟨n, hn⟩ : ∃ n : Nat, n = min len 300 := ⟨_, rfl⟩
  have hmn : min (len : Int) 300 = (n : Int) := by omega
  have hnl : n ≤ len := by omega
  have hcap : len ≤ cap ∧ cap ≤ 9223372036854775807 := ⟨h.1, by simpa [maxLen] using h.2.1⟩
  have hF : ∀ W, Below w.heap.size w W → Fours W a n z := fun W l i hi => by
    obtain ⟨x, hx, hb, hc⟩ := h.2.2 i (by omega)
    exact ⟨x, hx, Nat.lt_of_lt_of_le hb l.size, fun j hj => ⟨(l.cell (p := x.add (i * 4 + j)) (by rw [add_block]; exact hb)).trans (hc j hj).1, (hc j hj).2⟩⟩
  have S1 := fun W (l : Below w.heap.size w W) => path_any p a n cap z W hw (by omega) (hF W l)
  have S2 := fun W (l : Below w.heap.size w W) => rpath_any p a n cap z W hw (by omega) (hF W l)
  have hni : (n : Int) ≤ (cap : Int) := by omega
  have hn0 : (0 : Int) ≤ (n : Int) := by omega
  obtain ⟨RP, hRP⟩ : ∃ RP, Pl.pthR z n 0 p = RP := ⟨_, rfl⟩
  rw [hRP] at S1 S2
  obtain ⟨N, E⟩ := RP
  replace S1 : ∀ W, Below w.heap.size w W → Calls Try.prog 25 #[pmV p, .slice a n cap] W fun e w' => e = .returned (.tuple #[pmV N, .int .i64 E]) ∧ Below W.heap.size W w' := S1
  replace S2 : ∀ W, Below w.heap.size w W → Calls Try.prog 26 #[pmV p, .slice a n cap] W fun e w' => e = .returned (.tuple #[pmV N, .int .i64 E]) ∧ Below W.heap.size W w' := S2
  replace S1 := Lib.hid S1
  replace S2 := Lib.hid S2
  clear hRP hw h hn hF
  go_enter Try.func9, Try.ntmps9
  go_wp2_with (refine wpList_load_blk rfl 33 _ rfl w.heap.size rfl 33 (pmA p) _ (Blk.new w _ _) Try.underlying33 rfl (by kernel_rfl) ?_)
  refine (S1.out _ (bel_bx' _ _)).mono ?_
  rintro _ w1 ⟨rfl, l1⟩
  have K1 := (one_mk w 33 (pmA p)).on l1
  have K1b := K1.2
  clear l1
  have hz1 : w.heap.size < w1.heap.size := K1.2.lt
  go_wp2_with (first | (refine wpList_store_blk rfl 33 _ _ rfl w1.heap.size (pmA N) rfl rfl 33 zA (Blk.new _ _ _) (by kernel_rfl) rfl (by kernel_rfl) ?_; intro W2 HA HG2; have K2 := Below.only (K1.1.alloc K1.1.size (.cells zA 33)) HG2 K1.1.size (by have := K1.1.size; simp; omega); have HP2 := (K1b.alloc (.cells zA 33)).grown HG2 (fun e => by injection e with e; omega); clear HG2) | (refine wpList_load_blk rfl 33 _ rfl w.heap.size rfl 33 (pmA p) _ HP2 Try.underlying33 rfl (by kernel_rfl) ?_))
  refine (S2.out _ K2).mono ?_
  rintro _ w3 ⟨rfl, l3⟩
  have K3 := bel_on K2 l3
  have HA3 := HA.below_ l3
  have hz3 : w1.heap.size < w3.heap.size := HA3.lt
  clear l3 HP2 K2 HA K1b K1
  go_wp2_with (first | (refine wpList_store_blk rfl 33 _ _ rfl w3.heap.size (pmA N) rfl rfl 33 zA (Blk.new _ _ _) (by kernel_rfl) rfl (by kernel_rfl) ?_; intro W4 HB HG4; have K4 := Below.only (K3.alloc K3.size (.cells zA 33)) HG4 K3.size (by have := K3.size; simp; omega); have HA4 := (HA3.alloc (.cells zA 33)).grown HG4 (fun e => by injection e with e; omega); clear HG4) | (refine wpList_load_blk rfl 33 _ rfl w1.heap.size rfl 33 (pmA N) _ HA4 Try.underlying33 rfl (by kernel_rfl) ?_) | (refine wpList_load_blk rfl 33 _ rfl w3.heap.size rfl 33 (pmA N) _ HB Try.underlying33 rfl (by kernel_rfl) ?_))
  refine (rawake_any _).mono ?_
  rintro _ w5 ⟨rfl, l5⟩
  go_wp2
  go_ret
  exact ⟨rfl, bel_on K4 l5⟩
end Go.Proofs.Ytnlfkafebbfenaa
