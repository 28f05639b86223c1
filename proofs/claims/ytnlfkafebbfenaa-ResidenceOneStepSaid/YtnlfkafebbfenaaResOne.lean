/- The walk of ResidenceOneStep. -/
import Derived.Test.YtnlfkafebbfenaaRes7
import Derived.Test.YtnlfkafebbfenaaRowGuard
namespace Go.Proofs.Ytnlfkafebbfenaa
open Go.RowKit Go.Lib
namespace Pl
def osS (ck sq n : Int) : PM := ⟨0, 0, 512, n, ck, 1, sq, 0, 0, 0, 0, 0, 0, 0, 0, 0, 0, 0, 0, 0, 0⟩
def osF (ck sq n : Int) : PM := ⟨8, 0, 0, n, ck, 1, sq, 0, 0, 0, 0, 0, 0, 0, 0, 0, 0, 0, 0, 0, 0⟩
section
variable {ck sq st sy fo : Int} (hq : 0 ≤ sq ∧ sq ≤ 65535) (hs : 0 ≤ st ∧ st ≤ 4294967295) (hy : -2147483648 ≤ sy ∧ sy ≤ 2147483647) (ho : -2147483648 ≤ fo ∧ fo ≤ 2147483647)
include hq in
theorem osS_chk (n : Int) : chk (osS ck sq n) = 0 := by simp [chk, szOf, rngs, rows, stOk, inr, answ, annz, osS, hq.1, hq.2]
include hq in
theorem osF_chk (n : Int) : chk (osF ck sq n) = 0 := by simp [chk, szOf, rngs, rows, stOk, inr, answ, annz, osF, hq.1, hq.2]
include hs hy in
theorem osS_cor : corOk (osS ck sq sy) st = true := by
  have a := fit_yes (n := st * 65536) (by omega) (by omega)
  have b := fit_yes (n := sy + st * 65536) (by omega) (by omega)
  simp [corOk, osS, a, b]
include hs ho in
theorem osF_cor : corOk (osF ck sq fo) st = true := by
  have a := fit_yes (n := st * 65536) (by omega) (by omega)
  have b := fit_yes (n := fo + st * 65536) (by omega) (by omega)
  simp [corOk, osF, a, b]
include hq hs hy in
theorem osS_add : addE (osS ck sq sy) st 0 = 0 ∧ addP (osS ck sq sy) st 0 = osS ck sq (sy + st * 65536) := by
  have h : addE (osS ck sq sy) st 0 = 0 := by
    unfold addE
    rw [if_pos (osS_chk hq sy), if_neg (by simp [osS]), if_pos (by simp [inr]; omega), Int.add_zero, if_pos (osS_cor hs hy)]
  refine ⟨h, ?_⟩
  unfold addP
  rw [if_pos h, Int.add_zero]
  rfl
end
end Pl
section
variable {ck sq st sy fo : Int} (hq : 0 ≤ sq ∧ sq ≤ 65535) (hs : 0 ≤ st ∧ st ≤ 4294967295) (hy : -2147483648 ≤ sy ∧ sy ≤ 2147483647) (ho : -2147483648 ≤ fo ∧ fo ≤ 2147483647)
theorem os_two : twoOff (Pl.osS ck sq sy) = false := by
  show (bits BinOp.and IntKind.i64 512 512 == 0) = false
  decide
include hq hs in
theorem os_hold : holdE [] 2 (Pl.osS ck sq sy) st = 0 ∧ holdL [] 2 (Pl.osS ck sq sy) st = [((0, 0, ck, 1, sq), st)] := by
  have h : holdE [] 2 (Pl.osS ck sq sy) st = 0 := by
    unfold holdE
    rw [if_pos (Pl.osS_chk hq sy), if_pos (.inl rfl), if_neg (by simp [os_two]), if_pos (by simp [Pl.inr]; omega)]
    rfl
  refine ⟨h, ?_⟩
  unfold holdL
  rw [if_pos h]
  rfl
include hq in
theorem os_hold2 : holdE [((0, 0, ck, 1, sq), st)] 2 (Pl.osS ck sq sy) 0 = 10 ∧ holdL [((0, 0, ck, 1, sq), st)] 2 (Pl.osS ck sq sy) 0 = [((0, 0, ck, 1, sq), st)] := by
  have h : holdE [((0, 0, ck, 1, sq), st)] 2 (Pl.osS ck sq sy) 0 = 10 := by
    unfold holdE
    rw [if_pos (Pl.osS_chk hq sy), if_pos (.inl rfl), if_neg (by simp [os_two]), if_pos (by simp [Pl.inr])]
    simp [TL.hasN, nmOf, Pl.osS]
  refine ⟨h, ?_⟩
  unfold holdL
  rw [h]
  rfl
include hq hs ho in
theorem os_rel : relE [((0, 0, ck, 1, sq), st)] (Pl.osF ck sq fo) = 0 ∧ relP [((0, 0, ck, 1, sq), st)] (Pl.osF ck sq fo) = Pl.osF ck sq (fo + st * 65536) ∧ relL [((0, 0, ck, 1, sq), st)] (Pl.osF ck sq fo) = [] := by
  have hst : TL.stay [((0, 0, ck, 1, sq), st)] (nmOf (knd (Pl.osF ck sq fo)) (Pl.osF ck sq fo)) = st := by simp [TL.stay, nmOf, knd, Pl.osF]
  have h : relE [((0, 0, ck, 1, sq), st)] (Pl.osF ck sq fo) = 0 := by
    unfold relE
    rw [if_pos (Pl.osF_chk hq fo), if_pos (.inl rfl), if_pos (by simp [TL.hasN, nmOf, knd, Pl.osF]), hst, if_pos (Pl.osF_cor hs ho)]
  refine ⟨h, ?_, ?_⟩
  · unfold relP
    rw [if_pos h, hst]
    rfl
  · unfold relL
    rw [if_pos h]
    simp [nmOf, knd, Pl.osF]
include hq in
theorem os_rel2 : relE [] (Pl.osF ck sq fo) = 11 ∧ relP [] (Pl.osF ck sq fo) = Pl.pm0 ∧ relL [] (Pl.osF ck sq fo) = [] := by
  have h : relE [] (Pl.osF ck sq fo) = 11 := by
    unfold relE
    rw [if_pos (Pl.osF_chk hq fo), if_pos (.inl rfl), if_neg (by simp [TL.hasN])]
  refine ⟨h, ?_, ?_⟩
  · unfold relP
    rw [h]
    rfl
  · unfold relL
    rw [h]
    rfl
end
theorem wfu16 {n : Int} (h : (Lit.int .u16 n).wf = true) : 0 ≤ n ∧ n ≤ 65535 := by
  have hmin : IntKind.u16.min = 0 := rfl
  have hmax : IntKind.u16.max = 65535 := rfl
  simp only [Lit.wf, Bool.and_eq_true, decide_eq_true_eq] at h
  omega
theorem wfi32 {n : Int} (h : (Lit.int .i32 n).wf = true) : -2147483648 ≤ n ∧ n ≤ 2147483647 := by
  have hmin : IntKind.i32.min = -2147483648 := rfl
  have hmax : IntKind.i32.max = 2147483647 := rfl
  simp only [Lit.wf, Bool.and_eq_true, decide_eq_true_eq] at h
  omega
theorem wfu32 {n : Int} (h : (Lit.int .u32 n).wf = true) : 0 ≤ n ∧ n ≤ 4294967295 := by
  have hmin : IntKind.u32.min = 0 := rfl
  have hmax : IntKind.u32.max = 4294967295 := rfl
  simp only [Lit.wf, Bool.and_eq_true, decide_eq_true_eq] at h
  omega
theorem to64 {n : Int} (h1 : -9223372036854775808 ≤ n) (h2 : n ≤ 9223372036854775807) : (Lit.int .i64 n).wf = true := by
  have hmin : IntKind.i64.min = -9223372036854775808 := rfl
  have hmax : IntKind.i64.max = 9223372036854775807 := rfl
  simp only [Lit.wf, Bool.and_eq_true, decide_eq_true_eq]
  omega
theorem wf_os {ck sq sy : Int} (hck : (Lit.int .u64 ck).wf = true) (hq : 0 ≤ sq ∧ sq ≤ 65535) (hy : -2147483648 ≤ sy ∧ sy ≤ 2147483647) : PmWf (Pl.osS ck sq sy) :=
  ⟨rfl, rfl, rfl, to64 (by show _ ≤ sy; omega) (by show sy ≤ _; omega), hck, rfl, to64 (by show _ ≤ sq; omega) (by show sq ≤ _; omega)⟩
theorem wf_of {ck sq sy : Int} (hck : (Lit.int .u64 ck).wf = true) (hq : 0 ≤ sq ∧ sq ≤ 65535) (hy : -2147483648 ≤ sy ∧ sy ≤ 2147483647) : PmWf (Pl.osF ck sq sy) :=
  ⟨rfl, rfl, rfl, to64 (by show _ ≤ sy; omega) (by show sy ≤ _; omega), hck, rfl, to64 (by show _ ≤ sq; omega) (by show sq ≤ _; omega)⟩
section
variable {w W W' : World} {b g : Nat} {t : TypeId} {c : Array Value} {o : Obj} {lim : Int} {l : TL}
theorem blk_S (h : Blk W b t c) (HG : (W.alloc o).grownBy W' (some W.heap.size)) : Blk W' b t c := (h.alloc o).grown HG (fun e => by injection e with e; have := h.lt; omega)
theorem bel_S (B : Below w.heap.size w W) (HG : (W.alloc o).grownBy W' (some W.heap.size)) : Below w.heap.size w W' := Below.only (B.alloc B.size o) HG B.size (by have := B.size; simp; omega)
theorem tb_S (h : Tb W b g lim l) (HG : (W.alloc o).grownBy W' (some W.heap.size)) : Tb W' b g lim l := (h.on (bel_bx' W o)).far HG (by have := h.lt; omega) (by have := h.lt; omega)
end
theorem os_one2 {W : World} {a b : Nat} {ck sq x y sy fo : Int} (h1 : Blk W a 33 (pmA (Pl.osS ck sq x))) (h2 : Blk W b 33 (pmA (Pl.osF ck sq y))) (hab : a ≠ b) :
    Blk ((W.setCell ⟨a, 3, none⟩ (.int .i64 sy)).setCell ⟨b, 3, none⟩ (.int .i64 fo)) a 33 (pmA (Pl.osS ck sq sy)) ∧ Blk ((W.setCell ⟨a, 3, none⟩ (.int .i64 sy)).setCell ⟨b, 3, none⟩ (.int .i64 fo)) b 33 (pmA (Pl.osF ck sq fo)) :=
  ⟨(h1.set_ 3 (.int .i64 sy)).far (p := ⟨b, 3, none⟩) hab _, (h2.far (p := ⟨a, 3, none⟩) (Ne.symm hab) (.int .i64 sy)).set_ 3 (.int .i64 fo)⟩

set_option maxHeartbeats 8000000 in
set_option maxRecDepth 100000 in
theorem residenceOneStep_walk (ck sq st sy fo : Int) (w : World) (h1 : (Lit.int .u64 ck).wf = true) (h2 : (Lit.int .u16 sq).wf = true) (h3 : (Lit.int .u32 st).wf = true) (h4 : (Lit.int .i32 sy).wf = true) (h5 : (Lit.int .i32 fo).wf = true) :
    Calls Try.prog 6 #[.int .u64 ck, .int .u16 sq, .int .u32 st, .int .i32 sy, .int .i32 fo] w fun e w' => e = .returned (.bool true) ∧ Below w.heap.size w w' := by
  have hq := wfu16 h2
  have hs := wfu32 h3
  have hy := wfi32 h4
  have ho := wfi32 h5
  have kwq : IntKind.i64.wrap sq = sq := IntWalk.i64_in _ (by omega)
  have kws : IntKind.i64.wrap st = st := IntWalk.i64_in _ (by omega)
  have kwy : IntKind.i64.wrap sy = sy := IntWalk.i64_in _ (by omega)
  have kwo : IntKind.i64.wrap fo = fo := IntWalk.i64_in _ (by omega)
  have wS := wf_os h1 hq hy
  have wF := wf_of h1 hq ho
  have A1 := fun W => add_any (Pl.osS ck sq sy) st 0 wS W
  rw [(Pl.osS_add hq hs hy).1, (Pl.osS_add hq hs hy).2] at A1
  have H1 := fun b g W h => thold_any b g 2 [] (Pl.osS ck sq sy) st W h wS (by decide)
  rw [(os_hold hq hs).1, (os_hold hq hs).2] at H1
  have H2 := fun b g W h => thold_any b g 2 [((0, 0, ck, 1, sq), st)] (Pl.osS ck sq sy) 0 W h wS (show 1 < maxLen by decide)
  rw [(os_hold2 hq).1, (os_hold2 hq).2] at H2
  have R1 := fun b g W h => trel_any b g 2 [((0, 0, ck, 1, sq), st)] (Pl.osF ck sq fo) W h wF
  rw [(os_rel hq hs ho).1, (os_rel hq hs ho).2.1, (os_rel hq hs ho).2.2] at R1
  have R2 := fun b g W h => trel_any b g 2 [] (Pl.osF ck sq fo) W h wF
  rw [(os_rel2 hq).1, (os_rel2 hq).2.1, (os_rel2 hq).2.2] at R2
  have R4 := Lib.hid (fun W => tnew_yes 2 (by omega) (by omega) W)
  obtain ⟨X, hX⟩ : ∃ X, sy + st * 65536 = X := ⟨_, rfl⟩
  obtain ⟨Y, hY⟩ : ∃ X, fo + st * 65536 = X := ⟨_, rfl⟩
  rw [hX] at A1
  rw [hY] at R1
  have z1 : IntKind.i64.wrap (X + fo) = X + fo := IntWalk.i64_in _ (by omega)
  have z2 : IntKind.i64.wrap (sy + Y) = X + fo := (IntWalk.i64_in _ (by omega)).trans (by omega)
  have z3 : IntKind.i64.wrap (Y - fo) = st * 65536 := (IntWalk.i64_in _ (by omega)).trans (by omega)
  have z4 : IntKind.i64.wrap (65536 * st) = st * 65536 := (IntWalk.i64_in _ (by omega)).trans (by omega)
  obtain ⟨Z, hZ⟩ : ∃ Z, X + fo = Z := ⟨_, rfl⟩
  obtain ⟨D, hD⟩ : ∃ Z, st * 65536 = Z := ⟨_, rfl⟩
  replace z1 := z1.trans hZ
  rw [hZ] at z2
  rw [hD] at z3 z4
  replace A1 := Lib.hid A1
  replace H1 := Lib.hid H1
  replace H2 := Lib.hid H2
  replace R1 := Lib.hid R1
  replace R2 := Lib.hid R2
  clear hX hY hZ hD h1 h2 h3 h4 h5 hq hs hy ho wS wF
  go_enter Try.func6, Try.ntmps6
  go_wp2_with (first | (refine wpList_store_blk rfl 33 _ _ rfl w.heap.size (pmA (Pl.osS ck sq sy)) rfl rfl 33 zA (Blk.new _ _ _) (by kernel_rfl) rfl (by kernel_rfl) ?_; intro W1 N1 HG1; have B1 := bel_S (Below.refl _ _) HG1; clear HG1) | (refine wpList_store_blk rfl 33 _ _ rfl W1.heap.size (pmA (Pl.osF ck sq fo)) rfl rfl 33 zA (Blk.new _ _ _) (by kernel_rfl) rfl (by kernel_rfl) ?_; intro W2 N2 HG2; have N2s := blk_S N1 HG2; have B2 := Lib.hid (bel_S B1 HG2); clear HG2) | (refine wpList_load_blk rfl 33 _ rfl w.heap.size rfl 33 (pmA (Pl.osS ck sq sy)) _ N2s Try.underlying33 rfl (by kernel_rfl) ?_))
  refine (A1.out _).mono ?_
  rintro _ w3 ⟨rfl, l3⟩
  have B3 := bel_on B2.out l3
  have N3s := Lib.hid (N2s.below_ l3)
  have N3f := Lib.hid (N2.below_ l3)
  have q1 : w.heap.size < w3.heap.size := N3s.out.lt
  have q2 : W1.heap.size < w3.heap.size := N3f.out.lt
  clear l3 N1 N2 N2s B1 B2
  go_wp2_with (refine wpList_store_blk rfl 33 _ _ rfl w3.heap.size (pmA (Pl.osS ck sq X)) rfl rfl 33 zA (Blk.new _ _ _) (by kernel_rfl) rfl (by kernel_rfl) ?_; intro W4 N4 HG4; have B4 := bel_S B3 HG4; have N4s := blk_S N3s.out HG4; have N4f := blk_S N3f.out HG4; clear HG4 N3s N3f B3)
  refine (R4.out _).mono ?_
  rintro _ w5 ⟨b, g, rfl, hb, hg, T5, l5⟩
  have hwg : w.heap.size ≤ g := Nat.le_trans B4.size hg
  have hgs : w.heap.size ≠ g := by have := N4s.lt; omega
  have hgf : W1.heap.size ≠ g := by have := N4f.lt; omega
  have hgo : w3.heap.size ≠ g := by have := N4.lt; omega
  have B5 := Lib.hid (bel_on B4 l5)
  have N5s := N4s.below_ l5
  have N5f := Lib.hid (N4f.below_ l5)
  have N5o := Lib.hid (N4.below_ l5)
  clear B4 N4s N4f N4 l5 hb hg
  have T5' := Lib.hid T5
  clear T5
  go_wp2_with (refine wpList_load_blk_g rfl 33 _ rfl w.heap.size rfl 33 (pmA (Pl.osS ck sq sy)) _ N5s Try.underlying33 rfl (by kernel_rfl) ?_)
  refine (H1.out b g _ T5'.out).mono ?_
  rintro _ w6 ⟨rfl, T6, l6⟩
  have B6 := Lib.hid (Below.only B5.out l6 hwg B5.out.size)
  have N6s := N5s.grown l6 (fun e => by injection e with e; exact hgs e)
  have N6f := Lib.hid (N5f.out.grown l6 (fun e => by injection e with e; exact hgf e))
  have N6o := Lib.hid (N5o.out.grown l6 (fun e => by injection e with e; exact hgo e))
  clear B5 N5s N5f N5o l6 T5'
  have T6' := Lib.hid T6
  clear T6
  go_wp2_with (refine wpList_load_blk_g rfl 33 _ rfl w.heap.size rfl 33 (pmA (Pl.osS ck sq sy)) _ N6s Try.underlying33 rfl (by kernel_rfl) ?_)
  refine (H2.out b g _ T6'.out).mono ?_
  rintro _ w7 ⟨rfl, T7, l7⟩
  have B7 := Lib.hid (Below.only B6.out l7 hwg B6.out.size)
  have N7s := Lib.hid (N6s.grown l7 (fun e => by injection e with e; exact hgs e))
  have N7f := N6f.out.grown l7 (fun e => by injection e with e; exact hgf e)
  have N7o := Lib.hid (N6o.out.grown l7 (fun e => by injection e with e; exact hgo e))
  clear B6 N6s N6f N6o l7 T6'
  have T7' := Lib.hid T7
  clear T7
  go_wp2_with (refine wpList_load_blk rfl 33 _ rfl W1.heap.size rfl 33 (pmA (Pl.osF ck sq fo)) _ N7f Try.underlying33 rfl (by kernel_rfl) ?_)
  refine (R1.out b g _ T7'.out).mono ?_
  rintro _ w8 ⟨rfl, T8, l8⟩
  have B8 := Lib.hid (Below.only B7.out l8 hwg B7.out.size)
  have N8s := Lib.hid (N7s.out.grown l8 (fun e => by injection e with e; exact hgs e))
  have N8f := Lib.hid (N7f.grown l8 (fun e => by injection e with e; exact hgf e))
  have N8o := Lib.hid (N7o.out.grown l8 (fun e => by injection e with e; exact hgo e))
  have T8b := T8.lt
  have q3 : w.heap.size < w8.heap.size := N8s.out.lt
  have q4 : W1.heap.size < w8.heap.size := N8f.out.lt
  have q5 : w3.heap.size < w8.heap.size := N8o.out.lt
  clear B7 N7s N7f N7o l8 T7'
  have T8' := Lib.hid T8
  clear T8
  go_wp2_with (first | (refine wpList_store_blk rfl 33 _ _ rfl w8.heap.size (pmA (Pl.osF ck sq Y)) rfl rfl 33 zA (Blk.new _ _ _) (by kernel_rfl) rfl (by kernel_rfl) ?_; intro W9 N9 HG9; have B9 := Lib.hid (bel_S B8.out HG9); have N9s := Lib.hid (blk_S N8s.out HG9); have N9f := blk_S N8f.out HG9; have N9o := Lib.hid (blk_S N8o.out HG9); have T9 := Lib.hid (tb_S T8'.out HG9); clear HG9 B8 N8s N8f N8o T8') | (refine wpList_load_blk rfl 33 _ rfl W1.heap.size rfl 33 (pmA (Pl.osF ck sq fo)) _ N9f Try.underlying33 rfl (by kernel_rfl) ?_))
  have hg2 : w8.heap.size ≠ g := by omega
  refine (R2.out b g _ T9.out).mono ?_
  rintro _ w10 ⟨rfl, T10, l10⟩
  have B10 := Lib.hid (Below.only B9.out l10 hwg B9.out.size)
  have N10s := Lib.hid (N9s.out.grown l10 (fun e => by injection e with e; exact hgs e))
  have N10f := Lib.hid (N9f.grown l10 (fun e => by injection e with e; exact hgf e))
  have N10o := Lib.hid (N9o.out.grown l10 (fun e => by injection e with e; exact hgo e))
  have N10t := Lib.hid (N9.grown l10 (fun e => by injection e with e; exact hg2 e))
  clear B9 N9s N9f N9o N9 l10 T9
  have T10' := Lib.hid T10
  clear T10
  go_wp2_with (refine wpList_store_blk rfl 33 _ _ rfl w10.heap.size (pmA Pl.pm0) rfl rfl 33 zA (Blk.new _ _ _) (by kernel_rfl) rfl (by kernel_rfl) ?_; intro W11 N11 HG11; have B11 := Lib.hid (bel_S B10.out HG11); have N11s := blk_S N10s.out HG11; have N11f := blk_S N10f.out HG11; have N11o := blk_S N10o.out HG11; have N11t := blk_S N10t.out HG11; have T11 := tb_S T10'.out HG11; clear HG11 B10 N10s N10f N10o N10t T10')
  clear N11
  have Z0 := os_one2 (sy := sy) (fo := fo) N11o N11t (by omega)
  have Z1 := Lib.hid Z0.1.drew
  have Z4 := Lib.hid Z0.2.drew
  clear Z0
  have Z2 := Lib.hid ((N11s.far (p := ⟨w3.heap.size, 3, none⟩) (by show w.heap.size ≠ w3.heap.size; omega) (.int .i64 sy)).far (p := ⟨w8.heap.size, 3, none⟩) (by show w.heap.size ≠ w8.heap.size; omega) (.int .i64 fo)).drew
  have Z3 := Lib.hid ((N11f.far (p := ⟨w3.heap.size, 3, none⟩) (by show W1.heap.size ≠ w3.heap.size; omega) (.int .i64 sy)).far (p := ⟨w8.heap.size, 3, none⟩) (by show W1.heap.size ≠ w8.heap.size; omega) (.int .i64 fo)).drew
  have B12 := Lib.hid (Below.setCell (p := ⟨w8.heap.size, 3, none⟩) (Below.setCell (p := ⟨w3.heap.size, 3, none⟩) B11.out (by show w.heap.size ≤ w3.heap.size; omega) (.int .i64 sy)) (by show w.heap.size ≤ w8.heap.size; omega) (.int .i64 fo)).drew
  have xs : W11.cell? ⟨w.heap.size, 3, none⟩ = some (.int .i64 sy) := N11s.cell 3
  have xf : W11.cell? ⟨W1.heap.size, 3, none⟩ = some (.int .i64 fo) := N11f.cell 3
  have xo : W11.cell? ⟨w3.heap.size, 3, none⟩ = some (.int .i64 X) := N11o.cell 3
  have xt : W11.cell? ⟨w8.heap.size, 3, none⟩ = some (.int .i64 Y) := N11t.cell 3
  have fz1 := N11o.frozen 3
  have fz2 := N11t.frozen 3
  have y1 := N11s.lt
  have y2 := N11f.lt
  have y3 := N11o.lt
  have y4 := N11t.lt
  have n1 : w.heap.size ≠ w3.heap.size := by omega
  have n2 : W1.heap.size ≠ w3.heap.size := by omega
  have n3 : w.heap.size ≠ w8.heap.size := by omega
  have n4 : W1.heap.size ≠ w8.heap.size := by omega
  have n5 : w3.heap.size ≠ w8.heap.size := by omega
  clear N11s N11f N11o N11t
  refine (tlen_any b g 2 _ _ T11).mono ?_
  rintro _ w12 ⟨rfl, rfl⟩
  go_wp2_with fail
  go_region_held3 (fun w' => w'.cell? ⟨w.heap.size, 3, none⟩ = some (.int .i64 sy) ∧ w'.cell? ⟨W1.heap.size, 3, none⟩ = some (.int .i64 fo)) (first | exact ⟨xs, xf⟩ | exact ⟨((World.cell?_setCell_far _ _ _ _ (Ne.symm n1)).trans xs), ((World.cell?_setCell_far _ _ _ _ (Ne.symm n2)).trans xf)⟩ | exact ⟨((World.cell?_setCell_far _ _ _ _ (Ne.symm n3)).trans xs), ((World.cell?_setCell_far _ _ _ _ (Ne.symm n4)).trans xf)⟩ | exact ⟨((World.cell?_setCell_far _ _ _ _ (Ne.symm n3)).trans ((World.cell?_setCell_far _ _ _ _ (Ne.symm n1)).trans xs)), ((World.cell?_setCell_far _ _ _ _ (Ne.symm n4)).trans ((World.cell?_setCell_far _ _ _ _ (Ne.symm n2)).trans xf))⟩ | exact ⟨((World.cell?_setCell_far _ _ _ _ (Ne.symm n1)).trans ((World.cell?_setCell_far _ _ _ _ (Ne.symm n3)).trans xs)), ((World.cell?_setCell_far _ _ _ _ (Ne.symm n2)).trans ((World.cell?_setCell_far _ _ _ _ (Ne.symm n4)).trans xf))⟩) ((fail))
  generalize ((W11.setCell ⟨w3.heap.size, 3, none⟩ (.int .i64 sy)).setCell ⟨w8.heap.size, 3, none⟩ (.int .i64 fo)).drew = W12 at Z1 Z2 Z3 Z4 B12 ⊢
  clear xs xf xo xt fz1 fz2 y1 y2 y3 y4 n1 n2 n3 n4 n5
  have V1 := Z1.out
  have V2 := Z2.out
  have V3 := Z3.out
  have V4 := Z4.out
  go_wp2_with (first | (refine wpList_load_blk rfl 33 _ rfl w3.heap.size rfl 33 (pmA (Pl.osS ck sq sy)) _ V1 Try.underlying33 rfl (by kernel_rfl) ?_) | (refine wpList_load_blk rfl 33 _ rfl w.heap.size rfl 33 (pmA (Pl.osS ck sq sy)) _ V2 Try.underlying33 rfl (by kernel_rfl) ?_) | (refine wpList_load_blk_g rfl 33 _ rfl W1.heap.size rfl 33 (pmA (Pl.osF ck sq fo)) _ V3 Try.underlying33 rfl (by kernel_rfl) ?_) | (refine wpList_load_blk_g rfl 33 _ rfl w8.heap.size rfl 33 (pmA (Pl.osF ck sq fo)) _ V4 Try.underlying33 rfl (by kernel_rfl) ?_))
  refine (rawake_any _).mono ?_
  rintro _ w14 ⟨rfl, l14⟩
  go_wp2
  go_ret
  exact ⟨rfl, bel_on B12.out l14⟩
end Go.Proofs.Ytnlfkafebbfenaa
