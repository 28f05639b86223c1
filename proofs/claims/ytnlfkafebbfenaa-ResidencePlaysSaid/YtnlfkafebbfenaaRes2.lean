/- Contracts of correct and Add of layer 40 and of its reference. -/
import Derived.Test.YtnlfkafebbfenaaRes1
import Derived.Test.YtnlfkafebbfenaaRowLaws
namespace Go.Proofs.Ytnlfkafebbfenaa
open Go.RowKit Go.Lib Go.Maps

abbrev zA : Array Value := #[.int .i64 0, .int .i64 0, .int .i64 0, .int .i64 0, .int .u64 0, .int .i64 0, .int .i64 0, .int .i64 0, .int .i64 0, .int .i64 0, .int .u64 0, .int .i64 0, .int .i64 0, .int .i64 0, .int .i64 0, .int .i64 0, .int .i64 0, .int .i64 0, .int .u64 0, .int .i64 0, .int .i64 0]
/-- the message's box and the result's -/
def Rz (w W : World) (p : Pl.PM) (z : Array Value) : Prop := Below w.heap.size w W ∧ Blk W w.heap.size 33 (pmA p) ∧ Blk W (w.heap.size + 1) 33 z
section
variable {w W W' : World} {p : Pl.PM} {z : Array Value}
theorem Rz.mk (w : World) (p : Pl.PM) : Rz w ((w.alloc (.cells (pmA p) 33)).alloc (.cells zA 33)) p zA :=
  ⟨bel_more (bel_bx' w _) _, (Blk.new w _ _).alloc _, by have := Blk.new (w.alloc (.cells (pmA p) 33)) 33 zA; simpa using this⟩
theorem Rz.on (h : Rz w W p z) (l : Below W.heap.size W W') : Rz w W' p z := ⟨bel_on h.1 l, h.2.1.below_ l, h.2.2.below_ l⟩
theorem Rz.out (h : Rz w W p z) {z' : Array Value} (hb : Blk W' (w.heap.size + 1) 33 z') (l : W.grownBy W' (some (w.heap.size + 1))) : Rz w W' p z' :=
  ⟨Below.only h.1 l (by omega) h.1.size, h.2.1.grown l (fun e => by injection e with e; omega), hb⟩
theorem Rz.co (h : Rz w W p z) (n : Int) : Rz w (W.setCell ⟨w.heap.size, 3, none⟩ (.int .i64 n)) (p.wco n) z :=
  ⟨Below.setCell (p := ⟨w.heap.size, 3, none⟩) h.1 (Nat.le_refl _) _, h.2.1.set_ 3 (.int .i64 n), h.2.2.far (p := ⟨w.heap.size, 3, none⟩) (by show w.heap.size + 1 ≠ w.heap.size; omega) _⟩
end
theorem info_pm : ((Try.prog.info? 33).map (·.size)) = some 21 := by kernel_rfl


set_option maxHeartbeats 4000000 in
set_option maxRecDepth 100000 in
theorem correct_any (p : Pl.PM) (n : Int) (hw : (Lit.int .i64 p.co).wf = true) (h1 : -9223372036854775808 ≤ n) (h2 : n ≤ 9223372036854775807) (w : World) :
    Calls Try.prog 32 #[pmV p, .int .i64 n] w fun e w' => e = .returned (.tuple #[pmV (Pl.corP p n), .bool (Pl.corOk p n)]) ∧ Below w.heap.size w w' := by
  obtain ⟨c1, c2⟩ := wf64 hw
  have k := Pl.kept_in (n * 65536)
  have C := fun W => corr_any n h1 h2 W
  cases hf : Pl.fit (n * 65536) with
  | false =>
    have e1 : Pl.corOk p n = false := by unfold Pl.corOk; rw [hf]; rfl
    have e2 : Pl.corP p n = Pl.pm0 := by unfold Pl.corP; rw [e1]; rfl
    rw [e1, e2]
    have eC : Pl.cE n = 3 := by unfold Pl.cE; rw [hf]; rfl
    rw [eC] at C
    clear eC
    obtain ⟨K, hK⟩ : ∃ K, Pl.kept (n * 65536) = K := ⟨_, rfl⟩
    rw [hK] at C
    replace C := Lib.hid C
    clear hf hw e1 e2 k hK
    go_enter Try.func32, Try.ntmps32
    go_wp2_with fail
    refine (C.out _).mono ?_
    rintro _ w1 ⟨rfl, hw1⟩
    have K1 : Rz w w1 p zA := by rw [← hw1]; exact Rz.mk w p
    clear hw1
    go_wp2_with (refine wpList_store_blk rfl 33 _ _ rfl (w.heap.size + 1) zA rfl rfl 33 zA K1.2.2 (by kernel_rfl) rfl (by kernel_rfl) ?_; intro W HW HG)
    exact bodyPost_ret (v := .tuple #[pmV Pl.pm0, .bool false]) (results_cell_tmp rfl _ _ (w.heap.size + 1) 33 zA _ _ rfl rfl HW Try.underlying33 rfl info_pm) rfl ⟨rfl, (K1.out HW HG).1⟩
  | true =>
    have kf := Pl.fit_iff.1 hf
    have D := fun W => addcorr_any p.co (n * 65536) c1 c2 kf.1 kf.2 W
    have eC : Pl.cE n = 0 := by unfold Pl.cE; rw [hf]; rfl
    rw [eC, Pl.kept_yes hf] at C
    clear eC
    cases hs : Pl.fit (p.co + n * 65536) with
    | false =>
      have e1 : Pl.corOk p n = false := by unfold Pl.corOk; rw [hf, hs]; rfl
      have e2 : Pl.corP p n = Pl.pm0 := by unfold Pl.corP; rw [e1]; rfl
      rw [e1, e2]
      obtain ⟨K, hK⟩ : ∃ K, n * 65536 = K := ⟨_, rfl⟩
      rw [hK] at C D hs
      rw [hs] at D
      obtain ⟨Y, hY⟩ : ∃ Y, Pl.sat p.co K = Y := ⟨_, rfl⟩
      rw [hY] at D
      clear hY
      replace C := Lib.hid C
      replace D := Lib.hid D
      clear hf hw e1 e2 k hK hs kf
      go_enter Try.func32, Try.ntmps32
      go_wp2_with fail
      refine (C.out _).mono ?_
      rintro _ w1 ⟨rfl, hw1⟩
      have K1 : Rz w w1 p zA := by rw [← hw1]; exact Rz.mk w p
      have k3 : w1.cell? ⟨w.heap.size, 3, none⟩ = some (.int .i64 p.co) := K1.2.1.cell 3
      have kz := K1.2.1.lt
      clear hw1
      go_wp2_with fail
      refine (D.out _).mono ?_
      rintro _ w2 ⟨rfl, rfl⟩
      go_wp2_with (refine wpList_store_blk rfl 33 _ _ rfl (w.heap.size + 1) zA rfl rfl 33 zA K1.2.2 (by kernel_rfl) rfl (by kernel_rfl) ?_; intro W HW HG)
      exact bodyPost_ret (v := .tuple #[pmV Pl.pm0, .bool false]) (results_cell_tmp rfl _ _ (w.heap.size + 1) 33 zA _ _ rfl rfl HW Try.underlying33 rfl info_pm) rfl ⟨rfl, (K1.out HW HG).1⟩
    | true =>
      have e1 : Pl.corOk p n = true := by unfold Pl.corOk; rw [hf, hs]; rfl
      have e2 : Pl.corP p n = p.wco (p.co + n * 65536) := by unfold Pl.corP; rw [e1]; rfl
      rw [e1, e2]
      obtain ⟨K, hK⟩ : ∃ K, n * 65536 = K := ⟨_, rfl⟩
      have eS : Pl.sat p.co (n * 65536) = p.co + n * 65536 := by unfold Pl.sat; rw [hs]; rfl
      rw [eS, hs] at D
      rw [hK] at C D ⊢
      clear eS
      obtain ⟨X, hX⟩ : ∃ X, p.co + K = X := ⟨_, rfl⟩
      rw [hX] at D ⊢
      replace C := Lib.hid C
      replace D := Lib.hid D
      clear hf hw e1 e2 k hK hs kf hX
      go_enter Try.func32, Try.ntmps32
      go_wp2_with fail
      refine (C.out _).mono ?_
      rintro _ w1 ⟨rfl, hw1⟩
      have K1 : Rz w w1 p zA := by rw [← hw1]; exact Rz.mk w p
      have k3 : w1.cell? ⟨w.heap.size, 3, none⟩ = some (.int .i64 p.co) := K1.2.1.cell 3
      have f3 := K1.2.1.frozen 3
      have kz := K1.2.1.lt
      clear hw1
      go_wp2_with fail
      refine (D.out _).mono ?_
      rintro _ w2 ⟨rfl, rfl⟩
      have K2 := K1.co X
      have K2' := K2.2.1
      have K2'' := K2.2.2
      go_wp2_with (first | (refine wpList_load_blk rfl 33 _ rfl w.heap.size rfl 33 (pmA (p.wco X)) _ K2' Try.underlying33 rfl (by kernel_rfl) ?_) | (refine wpList_store_blk rfl 33 _ _ rfl (w.heap.size + 1) (pmA (p.wco X)) rfl rfl 33 zA K2'' (by kernel_rfl) rfl (by kernel_rfl) ?_; intro W HW HG))
      exact bodyPost_ret (v := .tuple #[pmV (p.wco X), .bool true]) (results_cell_tmp rfl _ _ (w.heap.size + 1) 33 (pmA (p.wco X)) _ _ rfl rfl HW Try.underlying33 rfl info_pm) rfl ⟨rfl, (K2.out HW HG).1⟩

set_option maxHeartbeats 4000000 in
set_option maxRecDepth 100000 in
theorem rcorrect_any (p : Pl.PM) (n : Int) (hw : (Lit.int .i64 p.co).wf = true) (h1 : -9223372036854775808 ≤ n) (h2 : n ≤ 9223372036854775807) (w : World) :
    Calls Try.prog 34 #[pmV p, .int .i64 n] w fun e w' => e = .returned (.tuple #[pmV (Pl.corP p n), .int .i64 (if Pl.corOk p n = true then 0 else 4)]) ∧ Below w.heap.size w w' := by
  obtain ⟨c1, c2⟩ := wf64 hw
  have k := Pl.kept_in (n * 65536)
  have C := fun W => rmul_any n 65536 h1 h2 (by omega) (by omega) W
  cases hf : Pl.fit (n * 65536) with
  | false =>
    have e1 : Pl.corOk p n = false := by unfold Pl.corOk; rw [hf]; rfl
    have e2 : Pl.corP p n = Pl.pm0 := by unfold Pl.corP; rw [e1]; rfl
    rw [e1, e2]
    rw [hf] at C
    rw [if_neg (by simp)]
    obtain ⟨K, hK⟩ : ∃ K, Pl.kept (n * 65536) = K := ⟨_, rfl⟩
    rw [hK] at C
    replace C := Lib.hid C
    clear hf hw e1 e2 k hK
    go_enter Try.func34, Try.ntmps34
    go_wp2_with fail
    refine (C.out _).mono ?_
    rintro _ w1 ⟨rfl, hw1⟩
    have K1 : Rz w w1 p zA := by rw [← hw1]; exact Rz.mk w p
    clear hw1
    go_wp2_with (refine wpList_store_blk rfl 33 _ _ rfl (w.heap.size + 1) zA rfl rfl 33 zA K1.2.2 (by kernel_rfl) rfl (by kernel_rfl) ?_; intro W HW HG)
    exact bodyPost_ret (v := .tuple #[pmV Pl.pm0, .int .i64 4]) (results_cell_tmp rfl _ _ (w.heap.size + 1) 33 zA _ _ rfl rfl HW Try.underlying33 rfl info_pm) rfl ⟨rfl, (K1.out HW HG).1⟩
  | true =>
    have kf := Pl.fit_iff.1 hf
    have D := fun W => radd_any p.co (n * 65536) c1 c2 kf.1 kf.2 W
    rw [hf, Pl.kept_yes hf] at C
    cases hs : Pl.fit (p.co + n * 65536) with
    | false =>
      have e1 : Pl.corOk p n = false := by unfold Pl.corOk; rw [hf, hs]; rfl
      have e2 : Pl.corP p n = Pl.pm0 := by unfold Pl.corP; rw [e1]; rfl
      rw [e1, e2]
      obtain ⟨K, hK⟩ : ∃ K, n * 65536 = K := ⟨_, rfl⟩
      rw [if_neg (by simp)]
      rw [hK] at C D hs
      rw [hs] at D
      obtain ⟨Y, hY⟩ : ∃ Y, Pl.kept (p.co + K) = Y := ⟨_, rfl⟩
      rw [hY] at D
      clear hY
      replace C := Lib.hid C
      replace D := Lib.hid D
      clear hf hw e1 e2 k hK hs kf
      go_enter Try.func34, Try.ntmps34
      go_wp2_with fail
      refine (C.out _).mono ?_
      rintro _ w1 ⟨rfl, hw1⟩
      have K1 : Rz w w1 p zA := by rw [← hw1]; exact Rz.mk w p
      have k3 : w1.cell? ⟨w.heap.size, 3, none⟩ = some (.int .i64 p.co) := K1.2.1.cell 3
      have kz := K1.2.1.lt
      clear hw1
      go_wp2_with fail
      refine (D.out _).mono ?_
      rintro _ w2 ⟨rfl, rfl⟩
      go_wp2_with (refine wpList_store_blk rfl 33 _ _ rfl (w.heap.size + 1) zA rfl rfl 33 zA K1.2.2 (by kernel_rfl) rfl (by kernel_rfl) ?_; intro W HW HG)
      exact bodyPost_ret (v := .tuple #[pmV Pl.pm0, .int .i64 4]) (results_cell_tmp rfl _ _ (w.heap.size + 1) 33 zA _ _ rfl rfl HW Try.underlying33 rfl info_pm) rfl ⟨rfl, (K1.out HW HG).1⟩
    | true =>
      have e1 : Pl.corOk p n = true := by unfold Pl.corOk; rw [hf, hs]; rfl
      have e2 : Pl.corP p n = p.wco (p.co + n * 65536) := by unfold Pl.corP; rw [e1]; rfl
      rw [e1, e2]
      obtain ⟨K, hK⟩ : ∃ K, n * 65536 = K := ⟨_, rfl⟩
      rw [if_pos rfl]
      rw [hs, Pl.kept_yes hs] at D
      rw [hK] at C D ⊢
      obtain ⟨X, hX⟩ : ∃ X, p.co + K = X := ⟨_, rfl⟩
      rw [hX] at D ⊢
      replace C := Lib.hid C
      replace D := Lib.hid D
      clear hf hw e1 e2 k hK hs kf hX
      go_enter Try.func34, Try.ntmps34
      go_wp2_with fail
      refine (C.out _).mono ?_
      rintro _ w1 ⟨rfl, hw1⟩
      have K1 : Rz w w1 p zA := by rw [← hw1]; exact Rz.mk w p
      have k3 : w1.cell? ⟨w.heap.size, 3, none⟩ = some (.int .i64 p.co) := K1.2.1.cell 3
      have f3 := K1.2.1.frozen 3
      have kz := K1.2.1.lt
      clear hw1
      go_wp2_with fail
      refine (D.out _).mono ?_
      rintro _ w2 ⟨rfl, rfl⟩
      have K2 := K1.co X
      have K2' := K2.2.1
      have K2'' := K2.2.2
      go_wp2_with (first | (refine wpList_load_blk rfl 33 _ rfl w.heap.size rfl 33 (pmA (p.wco X)) _ K2' Try.underlying33 rfl (by kernel_rfl) ?_) | (refine wpList_store_blk rfl 33 _ _ rfl (w.heap.size + 1) (pmA (p.wco X)) rfl rfl 33 zA K2'' (by kernel_rfl) rfl (by kernel_rfl) ?_; intro W HW HG))
      exact bodyPost_ret (v := .tuple #[pmV (p.wco X), .int .i64 0]) (results_cell_tmp rfl _ _ (w.heap.size + 1) 33 (pmA (p.wco X)) _ _ rfl rfl HW Try.underlying33 rfl info_pm) rfl ⟨rfl, (K2.out HW HG).1⟩
end Go.Proofs.Ytnlfkafebbfenaa
