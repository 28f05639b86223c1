/- The zero table; the walk of ResidenceNobody. -/
import Derived.Test.YtnlfkafebbfenaaRes7
import Derived.Test.YtnlfkafebbfenaaResOne
import Derived.Test.YtnlfkafebbfenaaOpenPtp
namespace Go.Proofs.Ytnlfkafebbfenaa
open Go.RowKit Go.Lib Go.Maps
abbrev zT : Array Value := #[.map none, .int .i64 0]
set_option maxHeartbeats 4000000 in
set_option maxRecDepth 100000 in
theorem zhold (b : Nat) (p : Pl.PM) (s : Int) (w : World) (h : Blk w b 57 zT) (hw : PmWf p) (hc : Pl.chk p = 0) (hk : p.k = 0) (hf : twoOff p = false) (hs : Pl.inr s 0 1125899906842624 = true) :
    Calls Try.prog 19 #[.pointer (some ⟨b, 0, none⟩), pmV p, .int .i64 s] w fun e w' => e = .returned (.int .i64 13) ∧ Below w.heap.size w w' := by
  have CK := fun W => pmcheck_any p hw.k W
  rw [hc] at CK
  replace CK := Lib.hid CK
  have NO := Lib.hid (fun W => nameOf_any p.k p W)
  have t1 : (p.k != 0) = false := by simp [hk]
  have hs' := Pl.inr_iff.1 hs
  have d1 : decide (s < 0) = false := by simp; omega
  have d2 : decide (1125899906842624 < s) = false := by simp; omega
  have hok := nm_ok hw hw.k
  have T0 := Lib.hid h
  unfold twoOff at hf
  clear hc hk hs h hw
  go_enter Try.func19, Try.ntmps19
  go_wp2_with (refine wpList_load_blk rfl 33 _ rfl w.heap.size rfl 33 (pmA p) _ (Blk.new w _ _) Try.underlying33 rfl (by kernel_rfl) ?_)
  refine (CK.out _).mono ?_
  rintro _ w1 ⟨rfl, l1⟩
  have K1 := (one_mk w 33 (pmA p)).on l1
  have T1 := (T0.out.alloc (.cells (pmA p) 33)).below_ l1
  have K1b := K1.2
  have k0 : w1.cell? ⟨w.heap.size, 0, none⟩ = some (.int .i64 p.k) := K1.2.cell 0
  have k2 : w1.cell? ⟨w.heap.size, 2, none⟩ = some (.int .i64 p.fl) := K1.2.cell 2
  have kz := K1.2.lt
  clear l1
  go_wp2_with (refine wpList_load_blk rfl 33 _ rfl w.heap.size rfl 33 (pmA p) _ K1b Try.underlying33 rfl (by kernel_rfl) ?_)
  refine (NO.out _).mono ?_
  rintro _ w2 ⟨rfl, l2⟩
  have K2 := K1.on l2
  have T2 := T1.below_ l2
  clear l2 K1 K1b k0 k2 kz T1
  go_wp2_with fail
  have T3 := T2.alloc (.cells #[.int .i64 p.k, .int .i64 p.d, .int .u64 p.ck, .int .i64 p.po, .int .i64 p.sq] 76)
  have A3 := Blk.new w2 76 #[.int .i64 p.k, .int .i64 p.d, .int .u64 p.ck, .int .i64 p.po, .int .i64 p.sq]
  have G3 := K2.1.alloc K2.1.size (.cells #[.int .i64 p.k, .int .i64 p.d, .int .u64 p.ck, .int .i64 p.po, .int .i64 p.sq] 76)
  clear T2 K2
  generalize (w2.alloc (.cells #[.int .i64 p.k, .int .i64 p.d, .int .u64 p.ck, .int .i64 p.po, .int .i64 p.sq] 76)) = W3 at T3 A3 G3 ⊢
  have m0 : W3.cell? ⟨b, 0, none⟩ = some (.map none) := T3.cell 0
  have m1 : W3.cell? ⟨b, 1, none⟩ = some (.int .i64 0) := T3.cell 1
  have mz := T3.lt
  have n0 : W3.cell? ⟨w2.heap.size, 0, none⟩ = some (.int .i64 p.k) := A3.cell 0
  have n1 : W3.cell? ⟨w2.heap.size, 1, none⟩ = some (.int .i64 p.d) := A3.cell 1
  have n2 : W3.cell? ⟨w2.heap.size, 2, none⟩ = some (.int .u64 p.ck) := A3.cell 2
  have n3 : W3.cell? ⟨w2.heap.size, 3, none⟩ = some (.int .i64 p.po) := A3.cell 3
  have n4 : W3.cell? ⟨w2.heap.size, 4, none⟩ = some (.int .i64 p.sq) := A3.cell 4
  have nz := A3.lt
  have A3 := Lib.hid A3
  have hlk : ∀ m, (Instr.lookup 53 (.map none) (.agg #[.int .i64 p.k, .int .i64 p.d, .int .u64 p.ck, .int .i64 p.po, .int .i64 p.sq]) true).run Try.prog (W3.drewN m) = .ok (.tuple #[.int .i64 0, .bool false]) (W3.drewN m) := fun m => Maps.look_nil true lawNm Try.underlying53 (zeroI _) (keyOf_nm hok)
  have hlen : ∀ m ty, (Builtin.len_ #[53] ty #[.map none]).run Try.prog (W3.drewN m) = .ok (.int .i64 0) (W3.drewN m) := fun m ty => Maps.len_nil Try.underlying53 ty
  have T3 := Lib.hid T3
  go_quiet (fail)
  go_wp2_with fail
  go_quiet (fail)
  go_wp2_with fail
  go_ret
  exact ⟨rfl, by first | exact below_drewN G3 _ | exact below_drewN (below_drewN G3 _) _⟩
set_option maxHeartbeats 4000000 in
set_option maxRecDepth 100000 in
theorem zrel (b : Nat) (p : Pl.PM) (w : World) (h : Blk w b 57 zT) (hw : PmWf p) (hc : Pl.chk p = 0) (hk : p.k = 8) :
    Calls Try.prog 21 #[.pointer (some ⟨b, 0, none⟩), pmV p] w fun e w' => e = .returned (.tuple #[pmV Pl.pm0, .int .i64 11]) ∧ Below w.heap.size w w' := by
  have CK := fun W => pmcheck_any p hw.k W
  rw [hc] at CK
  replace CK := Lib.hid CK
  have NO := Lib.hid (fun W => nameOf_any 0 p W)
  have hok := nm_ok (k := 0) hw (by decide)
  have t1 : (p.k == 8) = true := by simp [hk]
  have T0 := Lib.hid h
  clear hc hk hw h
  go_enter Try.func21, Try.ntmps21
  go_wp2_with (refine wpList_load_blk rfl 33 _ rfl w.heap.size rfl 33 (pmA p) _ (Rz.mk w p).2.1 Try.underlying33 rfl (by kernel_rfl) ?_)
  refine (CK.out _).mono ?_
  rintro _ w1 ⟨rfl, l1⟩
  have K1 := (Rz.mk w p).on l1
  have K1a := K1.2.1
  have K1b := K1.2.2
  have T1 := ((T0.out.alloc (.cells (pmA p) 33)).alloc (.cells zA 33)).below_ l1
  have k0 : w1.cell? ⟨w.heap.size, 0, none⟩ = some (.int .i64 p.k) := K1.2.1.cell 0
  have kz := K1.2.1.lt
  clear l1
  go_wp2_with (refine wpList_load_blk rfl 33 _ rfl w.heap.size rfl 33 (pmA p) _ K1a Try.underlying33 rfl (by kernel_rfl) ?_)
  refine (NO.out _).mono ?_
  rintro _ w2 ⟨rfl, l2⟩
  have K2 := K1.on l2
  have T2 := T1.below_ l2
  have hrz : w.heap.size + 1 < w2.heap.size := K2.2.2.lt
  clear l2 K1 K1a K1b k0 kz T1
  go_wp2_with fail
  have T3 := T2.alloc (.cells #[.int .i64 0, .int .i64 p.d, .int .u64 p.ck, .int .i64 p.po, .int .i64 p.sq] 76)
  have A3 := Blk.new w2 76 #[.int .i64 0, .int .i64 p.d, .int .u64 p.ck, .int .i64 p.po, .int .i64 p.sq]
  have K3 := K2.alloc (.cells #[.int .i64 0, .int .i64 p.d, .int .u64 p.ck, .int .i64 p.po, .int .i64 p.sq] 76)
  have hz3 : w2.heap.size < (w2.alloc (.cells #[.int .i64 0, .int .i64 p.d, .int .u64 p.ck, .int .i64 p.po, .int .i64 p.sq] 76)).heap.size := A3.lt
  clear T2 K2
  generalize (w2.alloc (.cells #[.int .i64 0, .int .i64 p.d, .int .u64 p.ck, .int .i64 p.po, .int .i64 p.sq] 76)) = W3 at T3 A3 K3 hz3 ⊢
  have m0 : W3.cell? ⟨b, 0, none⟩ = some (.map none) := T3.cell 0
  have m1 : W3.cell? ⟨b, 1, none⟩ = some (.int .i64 0) := T3.cell 1
  have mz := T3.lt
  have n0 : W3.cell? ⟨w2.heap.size, 0, none⟩ = some (.int .i64 0) := A3.cell 0
  have n1 : W3.cell? ⟨w2.heap.size, 1, none⟩ = some (.int .i64 p.d) := A3.cell 1
  have n2 : W3.cell? ⟨w2.heap.size, 2, none⟩ = some (.int .u64 p.ck) := A3.cell 2
  have n3 : W3.cell? ⟨w2.heap.size, 3, none⟩ = some (.int .i64 p.po) := A3.cell 3
  have n4 : W3.cell? ⟨w2.heap.size, 4, none⟩ = some (.int .i64 p.sq) := A3.cell 4
  have hlk : ∀ m, (Instr.lookup 53 (.map none) (.agg #[.int .i64 0, .int .i64 p.d, .int .u64 p.ck, .int .i64 p.po, .int .i64 p.sq]) true).run Try.prog (W3.drewN m) = .ok (.tuple #[.int .i64 0, .bool false]) (W3.drewN m) := fun m => Maps.look_nil true lawNm Try.underlying53 (zeroI _) (keyOf_nm hok)
  have T3 := Lib.hid T3
  have A3 := Lib.hid A3
  have K3 := Lib.hid K3
  go_quiet (fail)
  have K4 := K3.out
  have K5 : Rz w (W3.drewN nq) p zA := ⟨below_drewN K4.1 _, K4.2.1.drewN _, K4.2.2.drewN _⟩
  have K5a := K5.2.1
  have K5b := K5.2.2
  clear K4
  go_wp2_with (refine wpList_store_blk rfl 33 _ _ rfl (w.heap.size + 1) zA rfl rfl 33 zA K5b (by kernel_rfl) rfl (by kernel_rfl) ?_; intro W HW HG)
  exact bodyPost_ret (v := .tuple #[.agg zA, .int .i64 11]) (results_cell_tmp rfl _ _ (w.heap.size + 1) 33 zA _ _ rfl rfl HW Try.underlying33 rfl info_pm) rfl ⟨rfl, (K5.out HW HG).1⟩
theorem zlen (b : Nat) (w : World) (h : Blk w b 57 zT) : Calls Try.prog 23 #[.pointer (some ⟨b, 0, none⟩)] w fun e w' => e = .returned (.int .i64 0) ∧ w = w' := by
  have k0 : w.cell? ⟨b, 0, none⟩ = some (.map none) := h.cell 0
  have kz := h.lt
  have hlen : ∀ ty, (Builtin.len_ #[53] ty #[.map none]).run Try.prog w = .ok (.int .i64 0) w := fun ty => Maps.len_nil Try.underlying53 ty
  clear h
  go_enter Try.func23, Try.ntmps23
  go_wp2_with fail
  go_ret
  exact ⟨rfl, rfl⟩
end Go.Proofs.Ytnlfkafebbfenaa
