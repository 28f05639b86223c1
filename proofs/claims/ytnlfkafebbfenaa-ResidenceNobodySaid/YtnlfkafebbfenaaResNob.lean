/- The walk of ResidenceNobody. -/
import Derived.Test.YtnlfkafebbfenaaResZero
namespace Go.Proofs.Ytnlfkafebbfenaa
open Go.RowKit Go.Lib Go.Maps
def zS : Pl.PM := ⟨0, 0, 512, 0, 0, 0, 0, 0, 0, 0, 0, 0, 0, 0, 0, 0, 0, 0, 0, 0, 0⟩
def zF : Pl.PM := ⟨8, 0, 0, 0, 0, 0, 0, 0, 0, 0, 0, 0, 0, 0, 0, 0, 0, 0, 0, 0, 0⟩
theorem wf_zS : PmWf zS := ⟨by decide, by decide, by decide, by decide, by decide, by decide, by decide⟩
theorem wf_zF : PmWf zF := ⟨by decide, by decide, by decide, by decide, by decide, by decide, by decide⟩
set_option maxHeartbeats 20000000 in
set_option maxRecDepth 100000 in
theorem residenceNobody_walk (p : Pl.PM) (s n : Int) (w : World) (_hw : PmWf p) (_h2 : (Lit.int .i64 s).wf = true) (_h3 : (Lit.int .i64 n).wf = true) :
    Calls Try.prog 8 #[pmV p, .int .i64 s, .int .i64 n] w fun e w' => e = .returned (.bool true) ∧ Below w.heap.size w w' := by
  have RN := Lib.hid (fun W => trel_nil p W)
  have HN := Lib.hid (fun W => thold_nil p s W)
  have ZH := Lib.hid (fun b W h => zhold b zS 0 W h wf_zS (by decide) rfl (by decide) (by decide))
  have ZR := Lib.hid (fun b W h => zrel b zF W h wf_zF (by decide) rfl)
  have K0 := bel_more (bel_bx' w (.cells (pmA p) 33)) (.cells zT 57)
  have K0p := (Blk.new w 33 (pmA p)).alloc (.cells zT 57)
  have K0t : Blk ((w.alloc (.cells (pmA p) 33)).alloc (.cells zT 57)) (w.heap.size + 1) 57 zT := by have := Blk.new (w.alloc (.cells (pmA p) 33)) 57 zT; simpa using this
  go_enter Try.func8, Try.ntmps8
  go_wp2_with (refine wpList_load_blk rfl 33 _ rfl w.heap.size rfl 33 (pmA p) _ K0p Try.underlying33 rfl (by kernel_rfl) ?_)
  refine (RN.out _).mono ?_
  rintro _ w1 ⟨rfl, l1⟩
  have B1 := bel_on K0 l1
  have P1 := K0p.below_ l1
  have T1 := K0t.below_ l1
  clear l1 K0 K0p K0t
  go_wp2_with (first | (refine wpList_store_blk rfl 33 _ _ rfl w1.heap.size (pmA Pl.pm0) rfl rfl 33 zA (Blk.new _ _ _) (by kernel_rfl) rfl (by kernel_rfl) ?_; intro W2 N2 HG2; have B2 := bel_S B1 HG2; have P2 := blk_S P1 HG2; have T2 := blk_S T1 HG2; clear HG2 B1 P1 T1) | (refine wpList_store_blk rfl 33 _ _ rfl W2.heap.size (pmA zS) rfl rfl 33 zA (Blk.new _ _ _) (by kernel_rfl) rfl (by kernel_rfl) ?_; intro W3 N3 HG3; have B3 := Lib.hid (bel_S B2 HG3); have P3 := Lib.hid (blk_S P2 HG3); have T3 := blk_S T2 HG3; have Q3 := Lib.hid (blk_S N2 HG3); clear HG3 B2 P2 T2))
  have N3' := Lib.hid N3
  clear N3 N2
  refine (ZR.out _ _ T3).mono ?_
  rintro _ w4 ⟨rfl, l4⟩
  have B4 := bel_on B3.out l4
  have P4 := P3.out.below_ l4
  have T4 := T3.below_ l4
  have Q4 := Q3.out.below_ l4
  have S4 := N3'.out.below_ l4
  clear l4 B3 P3 T3 Q3 N3'
  go_wp2_with (first | (refine wpList_store_blk rfl 33 _ _ rfl w4.heap.size (pmA Pl.pm0) rfl rfl 33 zA (Blk.new _ _ _) (by kernel_rfl) rfl (by kernel_rfl) ?_; intro W5 N5 HG5; have B5 := Lib.hid (bel_S B4 HG5); have P5 := blk_S P4 HG5; have T5 := Lib.hid (blk_S T4 HG5); have Q5 := Lib.hid (blk_S Q4 HG5); have S5 := Lib.hid (blk_S S4 HG5); clear HG5 B4 P4 T4 Q4 S4 N5) | (refine wpList_load_blk rfl 33 _ rfl w.heap.size rfl 33 (pmA p) _ P5 Try.underlying33 rfl (by kernel_rfl) ?_))
  refine (HN.out _).mono ?_
  rintro _ w6 ⟨rfl, l6⟩
  have B6 := Lib.hid (bel_on B5.out l6)
  have T6 := Lib.hid (T5.out.below_ l6)
  have Q6 := Q5.out.below_ l6
  have S6 := Lib.hid (S5.out.below_ l6)
  clear l6 B5 P5 T5 Q5 S5
  go_wp2_with (refine wpList_load_blk_g rfl 33 _ rfl w1.heap.size rfl 33 (pmA Pl.pm0) _ Q6 Try.underlying33 rfl (by kernel_rfl) ?_)
  refine (tlen_nil _).mono ?_
  rintro _ w7 ⟨rfl, rfl⟩
  have S7 := S6.out
  go_wp2_with (refine wpList_load_blk_g rfl 33 _ rfl W2.heap.size rfl 33 (pmA zS) _ S7 Try.underlying33 rfl (by kernel_rfl) ?_)
  refine (ZH.out _ _ T6.out).mono ?_
  rintro _ w8 ⟨rfl, l8⟩
  have B8 := Lib.hid (bel_on B6.out l8)
  have T8 := T6.out.below_ l8
  clear l8 B6 T6 Q6 S6 S7
  go_wp2_with fail
  refine (zlen _ _ T8).mono ?_
  rintro _ w9 ⟨rfl, rfl⟩
  clear T8
  go_wp2_with fail
  by_cases c : 1 ≤ n ∧ n ≤ 64
  · have NW := Lib.hid (fun W => tnew_yes n c.1 c.2 W)
    have u1 : decide (1 ≤ n) = true := by simp; omega
    have u2 : decide (n ≤ 64) = true := by simp; omega
    clear c
    refine (NW.out _).mono ?_
    rintro _ w10 ⟨b, g, rfl, -, -, -, l10⟩
    have B10 := Lib.hid (bel_on B8.out l10)
    clear l10
    go_wp2_with fail
    refine (rawake_any _).mono ?_
    rintro _ w14 ⟨rfl, l14⟩
    go_wp2
    go_ret
    exact ⟨rfl, bel_on B10.out l14⟩
  · have NW := Lib.hid (fun W => tnew_no n (by omega) W)
    have u : (decide (1 ≤ n) = false) ∨ (decide (1 ≤ n) = true ∧ decide (n ≤ 64) = false) := by
      by_cases q : 1 ≤ n
      · exact .inr ⟨by simp; omega, by simp; omega⟩
      · exact .inl (by simp; omega)
    clear c
    refine (NW.out _).mono ?_
    rintro _ w10 ⟨rfl, rfl⟩
    rcases u with u1 | ⟨u1, u2⟩
    all_goals (
      go_wp2_with fail
      refine (rawake_any _).mono ?_
      rintro _ w14 ⟨rfl, l14⟩
      go_wp2
      go_ret
      exact ⟨rfl, bel_on B8.out l14⟩)
end Go.Proofs.Ytnlfkafebbfenaa
