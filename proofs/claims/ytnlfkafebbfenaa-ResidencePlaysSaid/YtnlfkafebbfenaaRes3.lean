/- Contracts of Add of layer 40 and of its reference. -/
import Derived.Test.YtnlfkafebbfenaaRes2
namespace Go.Proofs.Ytnlfkafebbfenaa
open Go.RowKit Go.Lib Go.Maps

theorem Rz.far {w W W' : World} {p : Pl.PM} {z : Array Value} (h : Rz w W p z) {g : Nat} (l : W.grownBy W' (some g)) (hg : w.heap.size + 1 < g) : Rz w W' p z :=
  ⟨Below.only h.1 l (by omega) h.1.size, h.2.1.grown l (fun e => by injection e with e; omega), h.2.2.grown l (fun e => by injection e with e; omega)⟩
theorem Rz.alloc {w W : World} {p : Pl.PM} {z : Array Value} (h : Rz w W p z) (o : Obj) : Rz w (W.alloc o) p z := h.on (bel_bx' W o)

set_option maxHeartbeats 4000000 in
set_option maxRecDepth 100000 in
theorem add_any (p : Pl.PM) (s l : Int) (hw : PmWf p) (w : World) :
    Calls Try.prog 14 #[pmV p, .int .i64 s, .int .i64 l] w fun e w' => e = .returned (.tuple #[pmV (Pl.addP p s l), .int .i64 (Pl.addE p s l)]) ∧ Below w.heap.size w w' := by
  have CK := fun W => pmcheck_any p hw.k W
  have hv : ∀ E, Pl.addE p s l = E → E ≠ 0 → Pl.addP p s l = Pl.pm0 := fun E h h0 => by
    unfold Pl.addP
    rw [h, if_neg h0]
  by_cases hc : Pl.chk p = 0
  · rw [hc] at CK
    replace CK := Lib.hid CK
    by_cases hk : p.k = 11
    · have e1 : Pl.addE p s l = 8 := by unfold Pl.addE; rw [if_pos hc, if_pos hk]
      rw [hv 8 e1 (by omega), e1]
      have t1 : (p.k == 11) = true := by simp [hk]
      clear hv e1 hc hk hw
      go_enter Try.func14, Try.ntmps14
      go_wp2_with (refine wpList_load_blk rfl 33 _ rfl w.heap.size rfl 33 (pmA p) _ (Rz.mk w p).2.1 Try.underlying33 rfl (by kernel_rfl) ?_)
      refine (CK.out _).mono ?_
      rintro _ w1 ⟨rfl, l1⟩
      have K1 := (Rz.mk w p).on l1
      have K1a := K1.2.1
      have K1b := K1.2.2
      have k0 : w1.cell? ⟨w.heap.size, 0, none⟩ = some (.int .i64 p.k) := K1.2.1.cell 0
      have kz := K1.2.1.lt
      clear l1
      go_wp2_with (refine wpList_store_blk rfl 33 _ _ rfl (w.heap.size + 1) zA rfl rfl 33 zA K1b (by kernel_rfl) rfl (by kernel_rfl) ?_; intro W HW HG)
      exact bodyPost_ret (v := .tuple #[.agg zA, .int .i64 8]) (results_cell_tmp rfl _ _ (w.heap.size + 1) 33 zA _ _ rfl rfl HW Try.underlying33 rfl info_pm) rfl ⟨rfl, (K1.out HW HG).1⟩
    · have t1 : (p.k == 11) = false := by simp [hk]
      by_cases hr : (0 ≤ s ∧ s ≤ 1125899906842624) ∧ (0 ≤ l ∧ l ≤ 1125899906842624)
      · have e1 : Pl.addE p s l = if Pl.corOk p (s + l) = true then 0 else 4 := by
          unfold Pl.addE
          rw [if_pos hc, if_neg hk, if_pos (by simp [Pl.inr_iff]; omega)]
        obtain ⟨⟨s1, s2⟩, ⟨l1, l2⟩⟩ := hr
        have CO := fun W => correct_any p (s + l) hw.co (by omega) (by omega) W
        have d1 : decide (s < 0) = false := by simp; omega
        have d2 : decide (1125899906842624 < s) = false := by simp; omega
        have d3 : decide (l < 0) = false := by simp; omega
        have d4 : decide (1125899906842624 < l) = false := by simp; omega
        have kw : IntKind.i64.wrap (s + l) = s + l := IntWalk.i64_in _ (by omega)
        cases ho : Pl.corOk p (s + l) with
        | false =>
          rw [ho] at e1 CO
          rw [if_neg (by simp)] at e1
          rw [hv 4 e1 (by omega), e1]
          obtain ⟨q, hq⟩ : ∃ q, Pl.corP p (s + l) = q := ⟨_, rfl⟩
          have hq0 : Hid (q = Pl.pm0) := Lib.hid (by rw [← hq]; unfold Pl.corP; rw [ho]; rfl)
          rw [hq] at CO
          replace CO := Lib.hid CO
          clear hv e1 hc hk hw ho hq
          go_enter Try.func14, Try.ntmps14
          go_wp2_with (refine wpList_load_blk rfl 33 _ rfl w.heap.size rfl 33 (pmA p) _ (Rz.mk w p).2.1 Try.underlying33 rfl (by kernel_rfl) ?_)
          refine (CK.out _).mono ?_
          rintro _ w1 ⟨rfl, l1⟩
          have K1 := (Rz.mk w p).on l1
          have K1a := K1.2.1
          have K1b := K1.2.2
          have k0 : w1.cell? ⟨w.heap.size, 0, none⟩ = some (.int .i64 p.k) := K1.2.1.cell 0
          have kz := K1.2.1.lt
          clear l1
          go_wp2_with (refine wpList_load_blk rfl 33 _ rfl w.heap.size rfl 33 (pmA p) _ K1a Try.underlying33 rfl (by kernel_rfl) ?_)
          refine (CO.out _).mono ?_
          rintro _ w2 ⟨rfl, l2⟩
          have K2 := K1.on l2
          have hz2 : w.heap.size + 1 < w2.heap.size := K2.2.2.lt
          have K2b := K2.2.2
          clear l2 K1 K1a K1b k0 kz
          go_wp2_with (first | (refine wpList_store_blk rfl 33 _ _ rfl w2.heap.size (pmA q) rfl rfl 33 zA (Blk.new _ _ _) (by kernel_rfl) rfl (by kernel_rfl) ?_; intro W HW HG; have K3 := (K2.alloc _).far HG hz2; have K3b := K3.2.2; clear K2b) | (refine wpList_store_blk rfl 33 _ _ rfl (w.heap.size + 1) zA rfl rfl 33 zA K3b (by kernel_rfl) rfl (by kernel_rfl) ?_; intro W2 HW2 HG2))
          exact bodyPost_ret (v := .tuple #[.agg zA, .int .i64 4]) (results_cell_tmp rfl _ _ (w.heap.size + 1) 33 zA _ _ rfl rfl HW2 Try.underlying33 rfl info_pm) rfl ⟨rfl, (K3.out HW2 HG2).1⟩
        | true =>
          rw [ho] at e1 CO
          rw [if_pos rfl] at e1
          have e2 : Pl.addP p s l = p.wco (p.co + (s + l) * 65536) := by unfold Pl.addP; rw [if_pos e1]
          have e3 : Pl.corP p (s + l) = p.wco (p.co + (s + l) * 65536) := by unfold Pl.corP; rw [if_pos ho]
          rw [e1, e2]
          rw [e3] at CO
          obtain ⟨q, hq⟩ : ∃ q, p.wco (p.co + (s + l) * 65536) = q := ⟨_, rfl⟩
          rw [hq] at CO ⊢
          replace CO := Lib.hid CO
          clear hv e1 hc hk hw ho hq e2 e3
          go_enter Try.func14, Try.ntmps14
          go_wp2_with (refine wpList_load_blk rfl 33 _ rfl w.heap.size rfl 33 (pmA p) _ (Rz.mk w p).2.1 Try.underlying33 rfl (by kernel_rfl) ?_)
          refine (CK.out _).mono ?_
          rintro _ w1 ⟨rfl, l1⟩
          have K1 := (Rz.mk w p).on l1
          have K1a := K1.2.1
          have K1b := K1.2.2
          have k0 : w1.cell? ⟨w.heap.size, 0, none⟩ = some (.int .i64 p.k) := K1.2.1.cell 0
          have kz := K1.2.1.lt
          clear l1
          go_wp2_with (refine wpList_load_blk rfl 33 _ rfl w.heap.size rfl 33 (pmA p) _ K1a Try.underlying33 rfl (by kernel_rfl) ?_)
          refine (CO.out _).mono ?_
          rintro _ w2 ⟨rfl, l2⟩
          have K2 := K1.on l2
          have hz2 : w.heap.size + 1 < w2.heap.size := K2.2.2.lt
          have K2b := K2.2.2
          clear l2 K1 K1a K1b k0 kz
          go_wp2_with (first | (refine wpList_store_blk rfl 33 _ _ rfl w2.heap.size (pmA q) rfl rfl 33 zA (Blk.new _ _ _) (by kernel_rfl) rfl (by kernel_rfl) ?_; intro W HW HG; have K3 := (K2.alloc _).far HG hz2; have K3b := K3.2.2; clear K2b) | (refine wpList_load_blk rfl 33 _ rfl w2.heap.size rfl 33 (pmA q) _ HW Try.underlying33 rfl (by kernel_rfl) ?_) | (refine wpList_store_blk rfl 33 _ _ rfl (w.heap.size + 1) (pmA q) rfl rfl 33 zA K3b (by kernel_rfl) rfl (by kernel_rfl) ?_; intro W2 HW2 HG2))
          exact bodyPost_ret (v := .tuple #[.agg (pmA q), .int .i64 0]) (results_cell_tmp rfl _ _ (w.heap.size + 1) 33 (pmA q) _ _ rfl rfl HW2 Try.underlying33 rfl info_pm) rfl ⟨rfl, (K3.out HW2 HG2).1⟩
      · have e1 : Pl.addE p s l = 3 := by
          unfold Pl.addE
          rw [if_pos hc, if_neg hk, if_neg (by simp [Pl.inr_iff]; omega)]
        rw [hv 3 e1 (by omega), e1]
        have hb : decide (s < 0) = true ∨ (decide (s < 0) = false ∧ (decide (1125899906842624 < s) = true ∨ (decide (1125899906842624 < s) = false ∧ (decide (l < 0) = true ∨ (decide (l < 0) = false ∧ decide (1125899906842624 < l) = true))))) := by simp; omega
        clear hv e1 hc hk hw hr
        rcases hb with d1 | ⟨d1, d2 | ⟨d2, d3 | ⟨d3, d4⟩⟩⟩
        all_goals (
          go_enter Try.func14, Try.ntmps14
          go_wp2_with (refine wpList_load_blk rfl 33 _ rfl w.heap.size rfl 33 (pmA p) _ (Rz.mk w p).2.1 Try.underlying33 rfl (by kernel_rfl) ?_)
          refine (CK.out _).mono ?_
          rintro _ w1 ⟨rfl, l1⟩
          have K1 := (Rz.mk w p).on l1
          have K1a := K1.2.1
          have K1b := K1.2.2
          have k0 : w1.cell? ⟨w.heap.size, 0, none⟩ = some (.int .i64 p.k) := K1.2.1.cell 0
          have kz := K1.2.1.lt
          clear l1
          go_wp2_with (refine wpList_store_blk rfl 33 _ _ rfl (w.heap.size + 1) zA rfl rfl 33 zA K1b (by kernel_rfl) rfl (by kernel_rfl) ?_; intro W HW HG)
          exact bodyPost_ret (v := .tuple #[.agg zA, .int .i64 3]) (results_cell_tmp rfl _ _ (w.heap.size + 1) 33 zA _ _ rfl rfl HW Try.underlying33 rfl info_pm) rfl ⟨rfl, (K1.out HW HG).1⟩)
  · have e1 : Pl.addE p s l = 2 := by unfold Pl.addE; rw [if_neg hc]
    rw [hv 2 e1 (by omega), e1]
    obtain ⟨C, hC⟩ : ∃ C, Pl.chk p = C := ⟨_, rfl⟩
    rw [hC] at CK hc
    have t0 : (C == 0) = false := by simp [hc]
    have t0' : (C != 0) = true := by simp [hc]
    replace CK := Lib.hid CK
    clear hv e1 hC hc hw
    go_enter Try.func14, Try.ntmps14
    go_wp2_with (refine wpList_load_blk rfl 33 _ rfl w.heap.size rfl 33 (pmA p) _ (Rz.mk w p).2.1 Try.underlying33 rfl (by kernel_rfl) ?_)
    refine (CK.out _).mono ?_
    rintro _ w1 ⟨rfl, l1⟩
    have K1 := (Rz.mk w p).on l1
    have K1a := K1.2.1
    have K1b := K1.2.2
    have k0 : w1.cell? ⟨w.heap.size, 0, none⟩ = some (.int .i64 p.k) := K1.2.1.cell 0
    have kz := K1.2.1.lt
    clear l1
    go_wp2_with (refine wpList_store_blk rfl 33 _ _ rfl (w.heap.size + 1) zA rfl rfl 33 zA K1b (by kernel_rfl) rfl (by kernel_rfl) ?_; intro W HW HG)
    exact bodyPost_ret (v := .tuple #[.agg zA, .int .i64 2]) (results_cell_tmp rfl _ _ (w.heap.size + 1) 33 zA _ _ rfl rfl HW Try.underlying33 rfl info_pm) rfl ⟨rfl, (K1.out HW HG).1⟩

set_option maxHeartbeats 4000000 in
set_option maxRecDepth 100000 in
theorem radd40_any (p : Pl.PM) (s l : Int) (hw : PmWf p) (w : World) :
    Calls Try.prog 15 #[pmV p, .int .i64 s, .int .i64 l] w fun e w' => e = .returned (.tuple #[pmV (Pl.addP p s l), .int .i64 (Pl.addE p s l)]) ∧ Below w.heap.size w w' := by
  have CK := fun W => rpmcheck_any p W
  have hv : ∀ E, Pl.addE p s l = E → E ≠ 0 → Pl.addP p s l = Pl.pm0 := fun E h h0 => by
    unfold Pl.addP
    rw [h, if_neg h0]
  by_cases hc : Pl.chk p = 0
  · rw [hc] at CK
    replace CK := Lib.hid CK
    by_cases hk : p.k = 11
    · have e1 : Pl.addE p s l = 8 := by unfold Pl.addE; rw [if_pos hc, if_pos hk]
      rw [hv 8 e1 (by omega), e1]
      have t1 : (p.k == 11) = true := by simp [hk]
      clear hv e1 hc hk hw
      go_enter Try.func15, Try.ntmps15
      go_wp2_with (refine wpList_load_blk rfl 33 _ rfl w.heap.size rfl 33 (pmA p) _ (Rz.mk w p).2.1 Try.underlying33 rfl (by kernel_rfl) ?_)
      refine (CK.out _).mono ?_
      rintro _ w1 ⟨rfl, l1⟩
      have K1 := (Rz.mk w p).on l1
      have K1a := K1.2.1
      have K1b := K1.2.2
      have k0 : w1.cell? ⟨w.heap.size, 0, none⟩ = some (.int .i64 p.k) := K1.2.1.cell 0
      have kz := K1.2.1.lt
      clear l1
      go_wp2_with (refine wpList_store_blk rfl 33 _ _ rfl (w.heap.size + 1) zA rfl rfl 33 zA K1b (by kernel_rfl) rfl (by kernel_rfl) ?_; intro W HW HG)
      exact bodyPost_ret (v := .tuple #[.agg zA, .int .i64 8]) (results_cell_tmp rfl _ _ (w.heap.size + 1) 33 zA _ _ rfl rfl HW Try.underlying33 rfl info_pm) rfl ⟨rfl, (K1.out HW HG).1⟩
    · have t1 : (p.k == 11) = false := by simp [hk]
      by_cases hr : (0 ≤ s ∧ s ≤ 1125899906842624) ∧ (0 ≤ l ∧ l ≤ 1125899906842624)
      · have e1 : Pl.addE p s l = if Pl.corOk p (s + l) = true then 0 else 4 := by
          unfold Pl.addE
          rw [if_pos hc, if_neg hk, if_pos (by simp [Pl.inr_iff]; omega)]
        obtain ⟨⟨s1, s2⟩, ⟨l1, l2⟩⟩ := hr
        have CO := fun W => rcorrect_any p (s + l) hw.co (by omega) (by omega) W
        have d1 : decide (s < 0) = false := by simp; omega
        have d2 : decide (1125899906842624 < s) = false := by simp; omega
        have d3 : decide (l < 0) = false := by simp; omega
        have d4 : decide (1125899906842624 < l) = false := by simp; omega
        have kw : IntKind.i64.wrap (s + l) = s + l := IntWalk.i64_in _ (by omega)
        cases ho : Pl.corOk p (s + l) with
        | false =>
          rw [ho, if_neg (by simp)] at CO
          rw [ho] at e1
          rw [if_neg (by simp)] at e1
          rw [hv 4 e1 (by omega), e1]
          obtain ⟨q, hq⟩ : ∃ q, Pl.corP p (s + l) = q := ⟨_, rfl⟩
          have hq0 : Hid (q = Pl.pm0) := Lib.hid (by rw [← hq]; unfold Pl.corP; rw [ho]; rfl)
          rw [hq] at CO
          replace CO := Lib.hid CO
          clear hv e1 hc hk hw ho hq
          go_enter Try.func15, Try.ntmps15
          go_wp2_with (refine wpList_load_blk rfl 33 _ rfl w.heap.size rfl 33 (pmA p) _ (Rz.mk w p).2.1 Try.underlying33 rfl (by kernel_rfl) ?_)
          refine (CK.out _).mono ?_
          rintro _ w1 ⟨rfl, l1⟩
          have K1 := (Rz.mk w p).on l1
          have K1a := K1.2.1
          have K1b := K1.2.2
          have k0 : w1.cell? ⟨w.heap.size, 0, none⟩ = some (.int .i64 p.k) := K1.2.1.cell 0
          have kz := K1.2.1.lt
          clear l1
          go_wp2_with (refine wpList_load_blk rfl 33 _ rfl w.heap.size rfl 33 (pmA p) _ K1a Try.underlying33 rfl (by kernel_rfl) ?_)
          refine (CO.out _).mono ?_
          rintro _ w2 ⟨rfl, l2⟩
          have K2 := K1.on l2
          have hz2 : w.heap.size + 1 < w2.heap.size := K2.2.2.lt
          have K2b := K2.2.2
          clear l2 K1 K1a K1b k0 kz
          go_wp2_with (refine wpList_store_blk rfl 33 _ _ rfl (w.heap.size + 1) (pmA q) rfl rfl 33 zA K2b (by kernel_rfl) rfl (by kernel_rfl) ?_; intro W HW HG)
          obtain rfl := hq0.out
          exact bodyPost_ret (v := .tuple #[.agg (pmA Pl.pm0), .int .i64 4]) (results_cell_tmp rfl _ _ (w.heap.size + 1) 33 (pmA Pl.pm0) _ _ rfl rfl HW Try.underlying33 rfl info_pm) rfl ⟨rfl, (K2.out HW HG).1⟩
        | true =>
          rw [ho, if_pos rfl] at CO
          rw [ho] at e1
          rw [if_pos rfl] at e1
          have e2 : Pl.addP p s l = p.wco (p.co + (s + l) * 65536) := by unfold Pl.addP; rw [if_pos e1]
          have e3 : Pl.corP p (s + l) = p.wco (p.co + (s + l) * 65536) := by unfold Pl.corP; rw [if_pos ho]
          rw [e1, e2]
          rw [e3] at CO
          obtain ⟨q, hq⟩ : ∃ q, p.wco (p.co + (s + l) * 65536) = q := ⟨_, rfl⟩
          rw [hq] at CO ⊢
          replace CO := Lib.hid CO
          clear hv e1 hc hk hw ho hq e2 e3
          go_enter Try.func15, Try.ntmps15
          go_wp2_with (refine wpList_load_blk rfl 33 _ rfl w.heap.size rfl 33 (pmA p) _ (Rz.mk w p).2.1 Try.underlying33 rfl (by kernel_rfl) ?_)
          refine (CK.out _).mono ?_
          rintro _ w1 ⟨rfl, l1⟩
          have K1 := (Rz.mk w p).on l1
          have K1a := K1.2.1
          have K1b := K1.2.2
          have k0 : w1.cell? ⟨w.heap.size, 0, none⟩ = some (.int .i64 p.k) := K1.2.1.cell 0
          have kz := K1.2.1.lt
          clear l1
          go_wp2_with (refine wpList_load_blk rfl 33 _ rfl w.heap.size rfl 33 (pmA p) _ K1a Try.underlying33 rfl (by kernel_rfl) ?_)
          refine (CO.out _).mono ?_
          rintro _ w2 ⟨rfl, l2⟩
          have K2 := K1.on l2
          have hz2 : w.heap.size + 1 < w2.heap.size := K2.2.2.lt
          have K2b := K2.2.2
          clear l2 K1 K1a K1b k0 kz
          go_wp2_with (refine wpList_store_blk rfl 33 _ _ rfl (w.heap.size + 1) (pmA q) rfl rfl 33 zA K2b (by kernel_rfl) rfl (by kernel_rfl) ?_; intro W HW HG)
          exact bodyPost_ret (v := .tuple #[.agg (pmA q), .int .i64 0]) (results_cell_tmp rfl _ _ (w.heap.size + 1) 33 (pmA q) _ _ rfl rfl HW Try.underlying33 rfl info_pm) rfl ⟨rfl, (K2.out HW HG).1⟩
      · have e1 : Pl.addE p s l = 3 := by
          unfold Pl.addE
          rw [if_pos hc, if_neg hk, if_neg (by simp [Pl.inr_iff]; omega)]
        rw [hv 3 e1 (by omega), e1]
        have hb : decide (s < 0) = true ∨ (decide (s < 0) = false ∧ (decide (1125899906842624 < s) = true ∨ (decide (1125899906842624 < s) = false ∧ (decide (l < 0) = true ∨ (decide (l < 0) = false ∧ decide (1125899906842624 < l) = true))))) := by simp; omega
        clear hv e1 hc hk hw hr
        rcases hb with d1 | ⟨d1, d2 | ⟨d2, d3 | ⟨d3, d4⟩⟩⟩
        all_goals (
          go_enter Try.func15, Try.ntmps15
          go_wp2_with (refine wpList_load_blk rfl 33 _ rfl w.heap.size rfl 33 (pmA p) _ (Rz.mk w p).2.1 Try.underlying33 rfl (by kernel_rfl) ?_)
          refine (CK.out _).mono ?_
          rintro _ w1 ⟨rfl, l1⟩
          have K1 := (Rz.mk w p).on l1
          have K1a := K1.2.1
          have K1b := K1.2.2
          have k0 : w1.cell? ⟨w.heap.size, 0, none⟩ = some (.int .i64 p.k) := K1.2.1.cell 0
          have kz := K1.2.1.lt
          clear l1
          go_wp2_with (refine wpList_store_blk rfl 33 _ _ rfl (w.heap.size + 1) zA rfl rfl 33 zA K1b (by kernel_rfl) rfl (by kernel_rfl) ?_; intro W HW HG)
          exact bodyPost_ret (v := .tuple #[.agg zA, .int .i64 3]) (results_cell_tmp rfl _ _ (w.heap.size + 1) 33 zA _ _ rfl rfl HW Try.underlying33 rfl info_pm) rfl ⟨rfl, (K1.out HW HG).1⟩)
  · have e1 : Pl.addE p s l = 2 := by unfold Pl.addE; rw [if_neg hc]
    rw [hv 2 e1 (by omega), e1]
    obtain ⟨C, hC⟩ : ∃ C, Pl.chk p = C := ⟨_, rfl⟩
    rw [hC] at CK hc
    have t0 : (C == 0) = false := by simp [hc]
    have t0' : (C != 0) = true := by simp [hc]
    replace CK := Lib.hid CK
    clear hv e1 hC hc hw
    go_enter Try.func15, Try.ntmps15
    go_wp2_with (refine wpList_load_blk rfl 33 _ rfl w.heap.size rfl 33 (pmA p) _ (Rz.mk w p).2.1 Try.underlying33 rfl (by kernel_rfl) ?_)
    refine (CK.out _).mono ?_
    rintro _ w1 ⟨rfl, l1⟩
    have K1 := (Rz.mk w p).on l1
    have K1a := K1.2.1
    have K1b := K1.2.2
    have k0 : w1.cell? ⟨w.heap.size, 0, none⟩ = some (.int .i64 p.k) := K1.2.1.cell 0
    have kz := K1.2.1.lt
    clear l1
    go_wp2_with (refine wpList_store_blk rfl 33 _ _ rfl (w.heap.size + 1) zA rfl rfl 33 zA K1b (by kernel_rfl) rfl (by kernel_rfl) ?_; intro W HW HG)
    exact bodyPost_ret (v := .tuple #[.agg zA, .int .i64 2]) (results_cell_tmp rfl _ _ (w.heap.size + 1) 33 zA _ _ rfl rfl HW Try.underlying33 rfl info_pm) rfl ⟨rfl, (K1.out HW HG).1⟩
end Go.Proofs.Ytnlfkafebbfenaa
