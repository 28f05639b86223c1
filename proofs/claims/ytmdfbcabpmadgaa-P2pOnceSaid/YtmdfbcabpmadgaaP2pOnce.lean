/- The walk of P2pOnce. -/
import Derived.Test.YtmdfbcabpmadgaaP2p8
namespace Go.Proofs.Ytmdfbcabpmadgaa
namespace Pl
def oR (sq ck po : Int) : PM := ⟨3, 3, 0, 0, 5, 0, sq, 0, atS 2, atN 2, ck, po, 0, 0, 0, 0, 0, 0, 0, 0, 0⟩
def oF (sq ck po : Int) : PM := ⟨10, 3, 0, 0, 5, 0, sq, 0, atS 3, atN 3, ck, po, 0, 0, 0, 0, 0, 0, 0, 0, 0⟩
def oS1 (sq : Int) : XS := (xs0 3).reqd sq 1
def oS2 (sq ck po : Int) : XS := (oS1 sq).resp (oR sq ck po) 4
def oS3 (sq ck po : Int) : XS := (oS2 sq ck po).fol (oF sq ck po)
section
variable {sq ck po ot : Int} (hs : 0 ≤ sq ∧ sq ≤ 65535) (hp : 0 ≤ po ∧ po ≤ 65535)
include hs hp
theorem oR_chk : chk (oR sq ck po) = 0 := by
  have h1 : stOk (atS 2) (atN 2) = true := by decide
  have hr : rngs (oR sq ck po) = true := by simp [rngs, rows, oR, inr, hs.1, hs.2, hp.1, hp.2, h1]
  unfold chk
  rw [if_neg (show szOf (oR sq ck po).k ≠ 0 from (by decide : szOf 3 ≠ 0)), hr, if_neg (by simp), show answ (oR sq ck po).k = true from rfl, if_neg (by simp), if_neg (by simp [annz, oR])]
theorem oF_chk : chk (oF sq ck po) = 0 := by
  have h1 : stOk (atS 3) (atN 3) = true := by decide
  have hr : rngs (oF sq ck po) = true := by simp [rngs, rows, oF, inr, hs.1, hs.2, hp.1, hp.2, h1]
  unfold chk
  rw [if_neg (show szOf (oF sq ck po).k ≠ 0 from (by decide : szOf 10 ≠ 0)), hr, if_neg (by simp), show answ (oF sq ck po).k = true from rfl, if_neg (by simp), if_neg (by simp [annz, oF])]
theorem oR_com : comE (oR sq ck po) 3 3 = 0 := by unfold comE; rw [if_pos (oR_chk hs hp)]; rfl
theorem oF_com : comE (oF sq ck po) 10 3 = 0 := by unfold comE; rw [if_pos (oF_chk hs hp)]; rfl
theorem oR_comF : comE (oR sq ck po) 10 3 = 8 := by unfold comE; rw [if_pos (oR_chk hs hp)]; rfl
theorem oF_comR : comE (oF sq ck po) 3 3 = 8 := by unfold comE; rw [if_pos (oF_chk hs hp)]; rfl
theorem o1 : respE (xs0 3) (oR sq ck po) 4 ck po = 11 := by
  unfold respE
  rw [if_pos (show comE (oR sq ck po) 3 (xs0 3).dom = 0 from oR_com hs hp), if_neg (by simp [mineR, xs0])]
omit hp in
theorem o2 : reqE sq 1 = 0 := by unfold reqE; rw [if_pos (by simp [inr, hs.1, hs.2]; decide)]
theorem o3 : folE (oS1 sq) (oF sq ck po) ck po = 11 := by
  unfold folE
  rw [if_pos (show comE (oF sq ck po) 10 (oS1 sq).dom = 0 from oF_com hs hp), if_neg (by simp [mineF, oS1, XS.reqd, xs0])]
theorem o4 (h : ot ≠ ck) : respE (oS1 sq) (oR sq ck po) 4 ot po = 11 := by
  unfold respE
  rw [if_pos (show comE (oR sq ck po) 3 (oS1 sq).dom = 0 from oR_com hs hp), if_neg (by simp [mineR, oS1, XS.reqd, xs0, oR]; intro e; exact absurd e.symm h)]
theorem o5 : respE (oS1 sq) (oR sq ck po) 4 ck po = 0 := by
  unfold respE
  rw [if_pos (show comE (oR sq ck po) 3 (oS1 sq).dom = 0 from oR_com hs hp), if_pos (by simp [mineR, oS1, XS.reqd, oR]), if_pos (show (insB (oR sq ck po) && rdg 4) = true from (by decide : ((tmOk (atS 2) (atN 2) && rdg (tmT (atS 2) (atN 2) - 3900000000000000000)) && rdg 4) = true))]
theorem o6 : respE (oS2 sq ck po) (oR sq ck po) 4 ck po = 11 := by
  unfold respE
  rw [if_pos (show comE (oR sq ck po) 3 (oS2 sq ck po).dom = 0 from oR_com hs hp), if_neg (by simp [mineR, oS2, XS.resp])]
theorem o7 : respE (oS2 sq ck po) (oF sq ck po) 4 ck po = 8 := by
  unfold respE
  rw [show comE (oF sq ck po) 3 (oS2 sq ck po).dom = 8 from oF_comR hs hp, if_neg (by omega)]
theorem o8 : folE (oS2 sq ck po) (oR sq ck po) ck po = 8 := by
  unfold folE
  rw [show comE (oR sq ck po) 10 (oS2 sq ck po).dom = 8 from oR_comF hs hp, if_neg (by omega)]
theorem o9 : folE (oS2 sq ck po) (oF sq ck po) ck po = 0 := by
  unfold folE
  rw [if_pos (show comE (oF sq ck po) 10 (oS2 sq ck po).dom = 0 from oF_com hs hp), if_pos (by simp [mineF, oS2, XS.resp, oF, oR]), if_pos (show insB (oF sq ck po) = true from (by decide : (tmOk (atS 3) (atN 3) && rdg (tmT (atS 3) (atN 3) - 3900000000000000000)) = true))]
theorem o10 : folE (oS3 sq ck po) (oF sq ck po) ck po = 11 := by
  unfold folE
  rw [if_pos (show comE (oF sq ck po) 10 (oS3 sq ck po).dom = 0 from oF_com hs hp), if_neg (by simp [mineF, oS3, XS.fol, XS.end_, XS.put, XS.clr])]
end
theorem oS1_ok (sq : Int) : XOk (oS1 sq) := (xs0_ok 3).req (by decide)
theorem oS2_ok (sq ck po : Int) : XOk (oS2 sq ck po) := (oS1_ok sq).resp (by show -9223372036854775808 ≤ (0 : Int) ∧ (0 : Int) ≤ 9223372036854775807; omega) (by decide)
theorem oS3_ok (sq ck po : Int) : XOk (oS3 sq ck po) := (oS2_ok sq ck po).fol (by show (0 : Int) < 1000000000000; omega)
end Pl
open Go.RowKit Go.Lib Go.Maps
theorem wfu16 {n : Int} (h : (Lit.int .u16 n).wf = true) : 0 ≤ n ∧ n ≤ 65535 := by
  have hmin : IntKind.u16.min = 0 := rfl
  have hmax : IntKind.u16.max = 65535 := rfl
  simp only [Lit.wf, Bool.and_eq_true, decide_eq_true_eq] at h
  omega

theorem oR_wf {sq ck po : Int} (hs : 0 ≤ sq ∧ sq ≤ 65535) : PmWf (Pl.oR sq ck po) := ⟨rfl, rfl, rfl, rfl, rfl, rfl, WalkArith.wf_i64 (by show -9223372036854775808 ≤ sq ∧ sq ≤ 9223372036854775807; omega)⟩
theorem oF_wf {sq ck po : Int} (hs : 0 ≤ sq ∧ sq ≤ 65535) : PmWf (Pl.oF sq ck po) := ⟨rfl, rfl, rfl, rfl, rfl, rfl, WalkArith.wf_i64 (by show -9223372036854775808 ≤ sq ∧ sq ≤ 9223372036854775807; omega)⟩
theorem o_set {w : World} {g : Nat} {sq ck po : Int} (h : Blk w g 38 (pmA (Pl.oR sq ck po))) :
    Blk (((w.setCell ⟨g, 0, none⟩ (.int .i64 10)).setCell ⟨g, 8, none⟩ (.int .i64 (Pl.atS 3))).setCell ⟨g, 9, none⟩ (.int .i64 (Pl.atN 3))) g 38 (pmA (Pl.oF sq ck po)) := by
  have := ((h.set_ 0 (.int .i64 10)).set_ 8 (.int .i64 (Pl.atS 3))).set_ 9 (.int .i64 (Pl.atN 3))
  refine (congrArg (Blk _ g 38) ?_).mp this
  kernel_rfl
theorem o_far {w : World} {b g : Nat} {t : TypeId} {cs : Array Value} (h : Blk w b t cs) (hn : b ≠ g) (v1 v2 v3 : Value) :
    Blk (((w.setCell ⟨g, 0, none⟩ v1).setCell ⟨g, 8, none⟩ v2).setCell ⟨g, 9, none⟩ v3) b t cs :=
  ((h.far (p := ⟨g, 0, none⟩) hn _).far (p := ⟨g, 8, none⟩) hn _).far (p := ⟨g, 9, none⟩) hn _
theorem o_own {w W : World} {g : Nat} (h : Below w.heap.size w W) (hn : w.heap.size ≤ g) (v1 v2 v3 : Value) :
    Below w.heap.size w (((W.setCell ⟨g, 0, none⟩ v1).setCell ⟨g, 8, none⟩ v2).setCell ⟨g, 9, none⟩ v3) :=
  Below.setCell (p := ⟨g, 9, none⟩) (Below.setCell (p := ⟨g, 8, none⟩) (Below.setCell (p := ⟨g, 0, none⟩) h hn _) hn _) hn _

set_option maxHeartbeats 20000000 in
set_option maxRecDepth 100000 in
theorem p2pOnce_walk (sq ck po ot : Int) (w : World) (h1 : (Lit.int .u16 sq).wf = true) (_h2 : (Lit.int .u64 ck).wf = true) (h3 : (Lit.int .u16 po).wf = true) (_h4 : (Lit.int .u64 ot).wf = true) :
    Calls Try.prog 6 #[.int .u16 sq, .int .u64 ck, .int .u16 po, .int .u64 ot] w fun e w' => e = .returned (.bool true) ∧ Below w.heap.size w w' := by
  have hs := wfu16 h1
  have hp := wfu16 h3
  have kw1 : IntKind.i64.wrap sq = sq := IntWalk.i64_in _ (by omega)
  have kw2 : IntKind.i64.wrap po = po := IntWalk.i64_in _ (by omega)
  have NW := Lib.hid (fun W => pnew_yes 3 (by omega) (by omega) W)
  have A2 := Lib.hid (fun W => at_any 2 rfl W)
  have A3 := Lib.hid (fun W => at_any 3 rfl W)
  have C1 : Hid (∀ b W, Blk W b 65 (xA (Pl.xs0 3)) → Calls Try.prog 12 #[.pointer (some ⟨b, 0, none⟩), pmV (Pl.oR sq ck po), .int .i64 4, .int .u64 ck, .int .i64 po] W fun e w' => e = .returned (.int .i64 11) ∧ Blk w' b 65 (xA (Pl.xs0 3)) ∧ W.grownBy w' (some b)) := Lib.hid (fun b W h => by have := presp_any b (Pl.xs0 3) (Pl.oR sq ck po) 4 ck po W h (oR_wf hs).k; rw [Pl.respX, Pl.o1 hs hp, if_neg (by omega)] at this; exact this)
  have C2 : Hid (∀ b W, Blk W b 65 (xA (Pl.xs0 3)) → Calls Try.prog 11 #[.pointer (some ⟨b, 0, none⟩), .int .i64 sq, .int .i64 1] W fun e w' => e = .returned (.int .i64 0) ∧ Blk w' b 65 (xA (Pl.oS1 sq)) ∧ W.grownBy w' (some b)) := Lib.hid (fun b W h => by have := preq_any b (Pl.xs0 3) sq 1 W h; rw [Pl.reqX, Pl.o2 hs, if_pos rfl] at this; exact this)
  have C3 : Hid (∀ b W, Blk W b 65 (xA (Pl.oS1 sq)) → Calls Try.prog 14 #[.pointer (some ⟨b, 0, none⟩), pmV (Pl.oF sq ck po), .int .u64 ck, .int .i64 po] W fun e w' => e = .returned (.int .i64 11) ∧ Blk w' b 65 (xA (Pl.oS1 sq)) ∧ W.grownBy w' (some b)) := Lib.hid (fun b W h => by have := pfol_any b (Pl.oS1 sq) (Pl.oF sq ck po) ck po W h (oF_wf hs) (Pl.oS1_ok sq); rw [Pl.folX, Pl.o3 hs hp, if_neg (by omega)] at this; exact this)
  have C5 : Hid (∀ b W, Blk W b 65 (xA (Pl.oS1 sq)) → Calls Try.prog 12 #[.pointer (some ⟨b, 0, none⟩), pmV (Pl.oR sq ck po), .int .i64 4, .int .u64 ck, .int .i64 po] W fun e w' => e = .returned (.int .i64 0) ∧ Blk w' b 65 (xA (Pl.oS2 sq ck po)) ∧ W.grownBy w' (some b)) := Lib.hid (fun b W h => by have := presp_any b (Pl.oS1 sq) (Pl.oR sq ck po) 4 ck po W h (oR_wf hs).k; rw [Pl.respX, Pl.o5 hs hp, if_pos rfl] at this; exact this)
  have C6 : Hid (∀ b W, Blk W b 65 (xA (Pl.oS2 sq ck po)) → Calls Try.prog 12 #[.pointer (some ⟨b, 0, none⟩), pmV (Pl.oR sq ck po), .int .i64 4, .int .u64 ck, .int .i64 po] W fun e w' => e = .returned (.int .i64 11) ∧ Blk w' b 65 (xA (Pl.oS2 sq ck po)) ∧ W.grownBy w' (some b)) := Lib.hid (fun b W h => by have := presp_any b (Pl.oS2 sq ck po) (Pl.oR sq ck po) 4 ck po W h (oR_wf hs).k; rw [Pl.respX, Pl.o6 hs hp, if_neg (by omega)] at this; exact this)
  have C7 : Hid (∀ b W, Blk W b 65 (xA (Pl.oS2 sq ck po)) → Calls Try.prog 12 #[.pointer (some ⟨b, 0, none⟩), pmV (Pl.oF sq ck po), .int .i64 4, .int .u64 ck, .int .i64 po] W fun e w' => e = .returned (.int .i64 8) ∧ Blk w' b 65 (xA (Pl.oS2 sq ck po)) ∧ W.grownBy w' (some b)) := Lib.hid (fun b W h => by have := presp_any b (Pl.oS2 sq ck po) (Pl.oF sq ck po) 4 ck po W h (oF_wf hs).k; rw [Pl.respX, Pl.o7 hs hp, if_neg (by omega)] at this; exact this)
  have C8 : Hid (∀ b W, Blk W b 65 (xA (Pl.oS2 sq ck po)) → Calls Try.prog 14 #[.pointer (some ⟨b, 0, none⟩), pmV (Pl.oR sq ck po), .int .u64 ck, .int .i64 po] W fun e w' => e = .returned (.int .i64 8) ∧ Blk w' b 65 (xA (Pl.oS2 sq ck po)) ∧ W.grownBy w' (some b)) := Lib.hid (fun b W h => by have := pfol_any b (Pl.oS2 sq ck po) (Pl.oR sq ck po) ck po W h (oR_wf hs) (Pl.oS2_ok sq ck po); rw [Pl.folX, Pl.o8 hs hp, if_neg (by omega)] at this; exact this)
  have C9 : Hid (∀ b W, Blk W b 65 (xA (Pl.oS2 sq ck po)) → Calls Try.prog 14 #[.pointer (some ⟨b, 0, none⟩), pmV (Pl.oF sq ck po), .int .u64 ck, .int .i64 po] W fun e w' => e = .returned (.int .i64 0) ∧ Blk w' b 65 (xA (Pl.oS3 sq ck po)) ∧ W.grownBy w' (some b)) := Lib.hid (fun b W h => by have := pfol_any b (Pl.oS2 sq ck po) (Pl.oF sq ck po) ck po W h (oF_wf hs) (Pl.oS2_ok sq ck po); rw [Pl.folX, Pl.o9 hs hp, if_pos rfl] at this; exact this)
  have C10 : Hid (∀ b W, Blk W b 65 (xA (Pl.oS3 sq ck po)) → Calls Try.prog 14 #[.pointer (some ⟨b, 0, none⟩), pmV (Pl.oF sq ck po), .int .u64 ck, .int .i64 po] W fun e w' => e = .returned (.int .i64 11) ∧ Blk w' b 65 (xA (Pl.oS3 sq ck po)) ∧ W.grownBy w' (some b)) := Lib.hid (fun b W h => by have := pfol_any b (Pl.oS3 sq ck po) (Pl.oF sq ck po) ck po W h (oF_wf hs) (Pl.oS3_ok sq ck po); rw [Pl.folX, Pl.o10 hs hp, if_neg (by omega)] at this; exact this)
  have C4 : ot = ck ∨ ((ot != ck) = true ∧ Hid (∀ b W, Blk W b 65 (xA (Pl.oS1 sq)) → Calls Try.prog 12 #[.pointer (some ⟨b, 0, none⟩), pmV (Pl.oR sq ck po), .int .i64 4, .int .u64 ot, .int .i64 po] W fun e w' => e = .returned (.int .i64 11) ∧ Blk w' b 65 (xA (Pl.oS1 sq)) ∧ W.grownBy w' (some b))) := by
    by_cases q : ot = ck
    · exact .inl q
    · exact .inr ⟨by simp [q], Lib.hid (fun b W h => by have := presp_any b (Pl.oS1 sq) (Pl.oR sq ck po) 4 ot po W h (oR_wf hs).k; rw [Pl.respX, Pl.o4 hs hp q, if_neg (by omega)] at this; exact this)⟩
  clear h1 _h2 h3 _h4 hs hp
  go_enter Try.func6, Try.ntmps6
  go_wp2_with fail
  refine (NW.out _).mono ?_
  rintro _ w1 ⟨rfl, X1, l1⟩
  have B1 := Lib.hid l1
  have X1' := Lib.hid X1
  have hz1 : w.heap.size < w1.heap.size := X1.lt
  clear l1 X1
  go_wp2_with fail
  refine (A2.out _).mono ?_
  rintro _ W2 ⟨rfl, l2⟩
  have B2 := bel_on B1.out l2
  have X2 := X1'.out.below_ l2
  have hz2 : w.heap.size < W2.heap.size := X2.lt
  have hr : W2.heap.size ≠ w.heap.size := by omega
  clear l2 B1 X1'
  go_wp2_with (first | (refine wpList_store_blk rfl 38 _ _ rfl W2.heap.size (pmA (Pl.oR sq ck po)) rfl rfl 38 zA (Blk.new _ _ _) (by kernel_rfl) rfl (by kernel_rfl) ?_; intro W3 R3 HG3; have B3 := bel_S B2 HG3; have X3 := blk_S X2 HG3; have hz3 : W2.heap.size < W3.heap.size := R3.lt; clear HG3 B2 X2) | (refine wpList_load_blk rfl 38 _ rfl W2.heap.size rfl 38 (pmA (Pl.oR sq ck po)) _ R3 Try.underlying38 rfl (by kernel_rfl) ?_) | (refine wpList_store_blk rfl 38 _ _ rfl W3.heap.size (pmA (Pl.oR sq ck po)) rfl rfl 38 zA (Blk.new _ _ _) (by kernel_rfl) rfl (by kernel_rfl) ?_; intro W4 F4 HG4; have B4 := Lib.hid (bel_S B3 HG4); have X4 := Lib.hid (blk_S X3 HG4); have R4 := Lib.hid (blk_S R3 HG4); clear HG4 B3 X3 R3))
  have F4' := Lib.hid F4
  clear F4
  refine (A3.out _).mono ?_
  rintro _ w5 ⟨rfl, l5⟩
  have B5 := Lib.hid (bel_on B4.out l5)
  have X5 := Lib.hid (X4.out.below_ l5)
  have R5 := Lib.hid (R4.out.below_ l5)
  have F5 := F4'.out.below_ l5
  clear l5 B4 X4 R4 F4'
  have n0 : w5.cell? ⟨W3.heap.size, 0, none⟩ = some (.int .i64 3) := F5.cell 0
  have n8 : w5.cell? ⟨W3.heap.size, 8, none⟩ = some (.int .i64 (Pl.atS 2)) := F5.cell 8
  have n9 : w5.cell? ⟨W3.heap.size, 9, none⟩ = some (.int .i64 (Pl.atN 2)) := F5.cell 9
  have g0 := F5.frozen 0
  have g8 := F5.frozen 8
  have g9 := F5.frozen 9
  have nz := F5.lt
  have hf : W3.heap.size ≠ w.heap.size := by omega
  have hrf : W2.heap.size ≠ W3.heap.size := by omega
  replace F5 := Lib.hid F5
  have Z : Hid (Blk (((w5.setCell ⟨W3.heap.size, 0, none⟩ (.int .i64 10)).setCell ⟨W3.heap.size, 8, none⟩ (.int .i64 (Pl.atS 3))).setCell ⟨W3.heap.size, 9, none⟩ (.int .i64 (Pl.atN 3))) w.heap.size 65 (xA (Pl.xs0 3)) ∧ Blk (((w5.setCell ⟨W3.heap.size, 0, none⟩ (.int .i64 10)).setCell ⟨W3.heap.size, 8, none⟩ (.int .i64 (Pl.atS 3))).setCell ⟨W3.heap.size, 9, none⟩ (.int .i64 (Pl.atN 3))) W2.heap.size 38 (pmA (Pl.oR sq ck po)) ∧ Blk (((w5.setCell ⟨W3.heap.size, 0, none⟩ (.int .i64 10)).setCell ⟨W3.heap.size, 8, none⟩ (.int .i64 (Pl.atS 3))).setCell ⟨W3.heap.size, 9, none⟩ (.int .i64 (Pl.atN 3))) W3.heap.size 38 (pmA (Pl.oF sq ck po)) ∧ Below w.heap.size w (((w5.setCell ⟨W3.heap.size, 0, none⟩ (.int .i64 10)).setCell ⟨W3.heap.size, 8, none⟩ (.int .i64 (Pl.atS 3))).setCell ⟨W3.heap.size, 9, none⟩ (.int .i64 (Pl.atN 3)))) :=
    Lib.hid ⟨o_far X5.out (Ne.symm hf) _ _ _, o_far R5.out hrf _ _ _, o_set F5.out, o_own B5.out (by omega) _ _ _⟩
  have ZR := Z.out.2.1
  go_wp2_with (refine wpList_load_blk rfl 38 _ rfl W2.heap.size rfl 38 (pmA (Pl.oR sq ck po)) _ ZR Try.underlying38 rfl (by kernel_rfl) ?_)
  clear n0 n8 n9 g0 g8 g9 nz B5 X5 R5 F5 ZR
  generalize (((w5.setCell ⟨W3.heap.size, 0, none⟩ (.int .i64 10)).setCell ⟨W3.heap.size, 8, none⟩ (.int .i64 (Pl.atS 3))).setCell ⟨W3.heap.size, 9, none⟩ (.int .i64 (Pl.atN 3))) = w6 at Z ⊢
  obtain ⟨X6, R6, F6, B6⟩ := Z.out
  replace X6 := Lib.hid X6
  replace R6 := Lib.hid R6
  replace F6 := Lib.hid F6
  replace B6 := Lib.hid B6
  clear Z
  refine (C1.out _ _ X6.out).mono ?_
  rintro _ w7 ⟨rfl, X7', l7⟩
  have B7 := Lib.hid (Below.only B6.out l7 (Nat.le_refl _) B6.out.size)
  have R7 := Lib.hid (R6.out.grown l7 (fun e => by injection e with e; exact hr e))
  have F7 := Lib.hid (F6.out.grown l7 (fun e => by injection e with e; exact hf e))
  have X7 := Lib.hid X7'
  clear l7 B6 R6 F6 X6 X7'
  go_wp2_with fail
  refine (C2.out _ _ X7.out).mono ?_
  rintro _ w8 ⟨rfl, X8', l8⟩
  have B8 := Lib.hid (Below.only B7.out l8 (Nat.le_refl _) B7.out.size)
  have R8 := Lib.hid (R7.out.grown l8 (fun e => by injection e with e; exact hr e))
  have F8 := Lib.hid (F7.out.grown l8 (fun e => by injection e with e; exact hf e))
  have X8 := Lib.hid X8'
  clear l8 B7 R7 F7 X7 X8'
  have F8l := F8.out
  go_wp2_with (refine wpList_load_blk_g rfl 38 _ rfl W3.heap.size rfl 38 (pmA (Pl.oF sq ck po)) _ F8l Try.underlying38 rfl (by kernel_rfl) ?_)
  clear F8l
  refine (C3.out _ _ X8.out).mono ?_
  rintro _ w9 ⟨rfl, X9', l9⟩
  have B9 := Lib.hid (Below.only B8.out l9 (Nat.le_refl _) B8.out.size)
  have R9 := Lib.hid (R8.out.grown l9 (fun e => by injection e with e; exact hr e))
  have F9 := Lib.hid (F8.out.grown l9 (fun e => by injection e with e; exact hf e))
  have X9 := Lib.hid X9'
  clear l9 B8 R8 F8 X8 X9'
  rcases C4 with rfl | ⟨t4, C4⟩
  rotate_left
  · skip
    have R9l := R9.out
    go_wp2_with (refine wpList_load_blk_g rfl 38 _ rfl W2.heap.size rfl 38 (pmA (Pl.oR sq ck po)) _ R9l Try.underlying38 rfl (by kernel_rfl) ?_)
    clear R9l
    refine (C4.out _ _ X9.out).mono ?_
    rintro _ w10 ⟨rfl, X10', l10⟩
    have B10 := Lib.hid (Below.only B9.out l10 (Nat.le_refl _) B9.out.size)
    have R10 := Lib.hid (R9.out.grown l10 (fun e => by injection e with e; exact hr e))
    have F10 := Lib.hid (F9.out.grown l10 (fun e => by injection e with e; exact hf e))
    have X10 := Lib.hid X10'
    clear l10 B9 R9 F9 X9 X10'
    have R10l := R10.out
    go_wp2_with (refine wpList_load_blk_g rfl 38 _ rfl W2.heap.size rfl 38 (pmA (Pl.oR sq ck po)) _ R10l Try.underlying38 rfl (by kernel_rfl) ?_)
    clear R10l
    refine (C5.out _ _ X10.out).mono ?_
    rintro _ w11 ⟨rfl, X11', l11⟩
    have B11 := Lib.hid (Below.only B10.out l11 (Nat.le_refl _) B10.out.size)
    have R11 := Lib.hid (R10.out.grown l11 (fun e => by injection e with e; exact hr e))
    have F11 := Lib.hid (F10.out.grown l11 (fun e => by injection e with e; exact hf e))
    have X11 := Lib.hid X11'
    clear l11 B10 R10 F10 X10 X11'
    have R11l := R11.out
    go_wp2_with (refine wpList_load_blk_g rfl 38 _ rfl W2.heap.size rfl 38 (pmA (Pl.oR sq ck po)) _ R11l Try.underlying38 rfl (by kernel_rfl) ?_)
    clear R11l
    refine (C6.out _ _ X11.out).mono ?_
    rintro _ w12 ⟨rfl, X12', l12⟩
    have B12 := Lib.hid (Below.only B11.out l12 (Nat.le_refl _) B11.out.size)
    have R12 := Lib.hid (R11.out.grown l12 (fun e => by injection e with e; exact hr e))
    have F12 := Lib.hid (F11.out.grown l12 (fun e => by injection e with e; exact hf e))
    have X12 := Lib.hid X12'
    clear l12 B11 R11 F11 X11 X12'
    have F12l := F12.out
    go_wp2_with (refine wpList_load_blk_g rfl 38 _ rfl W3.heap.size rfl 38 (pmA (Pl.oF sq ck po)) _ F12l Try.underlying38 rfl (by kernel_rfl) ?_)
    clear F12l
    refine (C7.out _ _ X12.out).mono ?_
    rintro _ w13 ⟨rfl, X13', l13⟩
    have B13 := Lib.hid (Below.only B12.out l13 (Nat.le_refl _) B12.out.size)
    have R13 := Lib.hid (R12.out.grown l13 (fun e => by injection e with e; exact hr e))
    have F13 := Lib.hid (F12.out.grown l13 (fun e => by injection e with e; exact hf e))
    have X13 := Lib.hid X13'
    clear l13 B12 R12 F12 X12 X13'
    have R13l := R13.out
    go_wp2_with (refine wpList_load_blk_g rfl 38 _ rfl W2.heap.size rfl 38 (pmA (Pl.oR sq ck po)) _ R13l Try.underlying38 rfl (by kernel_rfl) ?_)
    clear R13l
    refine (C8.out _ _ X13.out).mono ?_
    rintro _ w14 ⟨rfl, X14', l14⟩
    have B14 := Lib.hid (Below.only B13.out l14 (Nat.le_refl _) B13.out.size)
    have R14 := Lib.hid (R13.out.grown l14 (fun e => by injection e with e; exact hr e))
    have F14 := Lib.hid (F13.out.grown l14 (fun e => by injection e with e; exact hf e))
    have X14 := Lib.hid X14'
    clear l14 B13 R13 F13 X13 X14'
    have F14l := F14.out
    go_wp2_with (refine wpList_load_blk_g rfl 38 _ rfl W3.heap.size rfl 38 (pmA (Pl.oF sq ck po)) _ F14l Try.underlying38 rfl (by kernel_rfl) ?_)
    clear F14l
    refine (C9.out _ _ X14.out).mono ?_
    rintro _ w15 ⟨rfl, X15', l15⟩
    have B15 := Lib.hid (Below.only B14.out l15 (Nat.le_refl _) B14.out.size)
    have R15 := Lib.hid (R14.out.grown l15 (fun e => by injection e with e; exact hr e))
    have F15 := Lib.hid (F14.out.grown l15 (fun e => by injection e with e; exact hf e))
    have X15 := Lib.hid X15'
    clear l15 B14 R14 F14 X14 X15'
    have F15l := F15.out
    go_wp2_with (refine wpList_load_blk_g rfl 38 _ rfl W3.heap.size rfl 38 (pmA (Pl.oF sq ck po)) _ F15l Try.underlying38 rfl (by kernel_rfl) ?_)
    clear F15l
    refine (C10.out _ _ X15.out).mono ?_
    rintro _ w16 ⟨rfl, X16', l16⟩
    have B16 := Lib.hid (Below.only B15.out l16 (Nat.le_refl _) B15.out.size)
    have R16 := Lib.hid (R15.out.grown l16 (fun e => by injection e with e; exact hr e))
    have F16 := Lib.hid (F15.out.grown l16 (fun e => by injection e with e; exact hf e))
    have X16 := Lib.hid X16'
    clear l16 B15 R15 F15 X15 X16'
    go_wp2_with fail
    refine (pawake_any _).mono ?_
    rintro _ w17 ⟨rfl, l17⟩
    go_wp2
    go_ret
    exact ⟨rfl, bel_on B16.out l17⟩
  · have X10 := X9
    have R10 := R9
    have F10 := F9
    have B10 := B9
    clear X9 R9 F9 B9
    have R10l := R10.out
    go_wp2_with (refine wpList_load_blk_g rfl 38 _ rfl W2.heap.size rfl 38 (pmA (Pl.oR sq ot po)) _ R10l Try.underlying38 rfl (by kernel_rfl) ?_)
    clear R10l
    refine (C5.out _ _ X10.out).mono ?_
    rintro _ w11 ⟨rfl, X11', l11⟩
    have B11 := Lib.hid (Below.only B10.out l11 (Nat.le_refl _) B10.out.size)
    have R11 := Lib.hid (R10.out.grown l11 (fun e => by injection e with e; exact hr e))
    have F11 := Lib.hid (F10.out.grown l11 (fun e => by injection e with e; exact hf e))
    have X11 := Lib.hid X11'
    clear l11 B10 R10 F10 X10 X11'
    have R11l := R11.out
    go_wp2_with (refine wpList_load_blk_g rfl 38 _ rfl W2.heap.size rfl 38 (pmA (Pl.oR sq ot po)) _ R11l Try.underlying38 rfl (by kernel_rfl) ?_)
    clear R11l
    refine (C6.out _ _ X11.out).mono ?_
    rintro _ w12 ⟨rfl, X12', l12⟩
    have B12 := Lib.hid (Below.only B11.out l12 (Nat.le_refl _) B11.out.size)
    have R12 := Lib.hid (R11.out.grown l12 (fun e => by injection e with e; exact hr e))
    have F12 := Lib.hid (F11.out.grown l12 (fun e => by injection e with e; exact hf e))
    have X12 := Lib.hid X12'
    clear l12 B11 R11 F11 X11 X12'
    have F12l := F12.out
    go_wp2_with (refine wpList_load_blk_g rfl 38 _ rfl W3.heap.size rfl 38 (pmA (Pl.oF sq ot po)) _ F12l Try.underlying38 rfl (by kernel_rfl) ?_)
    clear F12l
    refine (C7.out _ _ X12.out).mono ?_
    rintro _ w13 ⟨rfl, X13', l13⟩
    have B13 := Lib.hid (Below.only B12.out l13 (Nat.le_refl _) B12.out.size)
    have R13 := Lib.hid (R12.out.grown l13 (fun e => by injection e with e; exact hr e))
    have F13 := Lib.hid (F12.out.grown l13 (fun e => by injection e with e; exact hf e))
    have X13 := Lib.hid X13'
    clear l13 B12 R12 F12 X12 X13'
    have R13l := R13.out
    go_wp2_with (refine wpList_load_blk_g rfl 38 _ rfl W2.heap.size rfl 38 (pmA (Pl.oR sq ot po)) _ R13l Try.underlying38 rfl (by kernel_rfl) ?_)
    clear R13l
    refine (C8.out _ _ X13.out).mono ?_
    rintro _ w14 ⟨rfl, X14', l14⟩
    have B14 := Lib.hid (Below.only B13.out l14 (Nat.le_refl _) B13.out.size)
    have R14 := Lib.hid (R13.out.grown l14 (fun e => by injection e with e; exact hr e))
    have F14 := Lib.hid (F13.out.grown l14 (fun e => by injection e with e; exact hf e))
    have X14 := Lib.hid X14'
    clear l14 B13 R13 F13 X13 X14'
    have F14l := F14.out
    go_wp2_with (refine wpList_load_blk_g rfl 38 _ rfl W3.heap.size rfl 38 (pmA (Pl.oF sq ot po)) _ F14l Try.underlying38 rfl (by kernel_rfl) ?_)
    clear F14l
    refine (C9.out _ _ X14.out).mono ?_
    rintro _ w15 ⟨rfl, X15', l15⟩
    have B15 := Lib.hid (Below.only B14.out l15 (Nat.le_refl _) B14.out.size)
    have R15 := Lib.hid (R14.out.grown l15 (fun e => by injection e with e; exact hr e))
    have F15 := Lib.hid (F14.out.grown l15 (fun e => by injection e with e; exact hf e))
    have X15 := Lib.hid X15'
    clear l15 B14 R14 F14 X14 X15'
    have F15l := F15.out
    go_wp2_with (refine wpList_load_blk_g rfl 38 _ rfl W3.heap.size rfl 38 (pmA (Pl.oF sq ot po)) _ F15l Try.underlying38 rfl (by kernel_rfl) ?_)
    clear F15l
    refine (C10.out _ _ X15.out).mono ?_
    rintro _ w16 ⟨rfl, X16', l16⟩
    have B16 := Lib.hid (Below.only B15.out l16 (Nat.le_refl _) B15.out.size)
    have R16 := Lib.hid (R15.out.grown l16 (fun e => by injection e with e; exact hr e))
    have F16 := Lib.hid (F15.out.grown l16 (fun e => by injection e with e; exact hf e))
    have X16 := Lib.hid X16'
    clear l16 B15 R15 F15 X15 X16'
    go_wp2_with fail
    refine (pawake_any _).mono ?_
    rintro _ w17 ⟨rfl, l17⟩
    go_wp2
    go_ret
    exact ⟨rfl, bel_on B16.out l17⟩
end Go.Proofs.Ytmdfbcabpmadgaa
