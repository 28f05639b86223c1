/- The walk of P2pDomains. -/
import Derived.Test.YtmdfbcabpmadgaaP2p8
namespace Go.Proofs.Ytmdfbcabpmadgaa
namespace Pl
def dP (D : Int) : PM := ⟨3, D, 0, 0, 0, 0, 0, 0, atS 0, atN 0, 0, 0, 0, 0, 0, 0, 0, 0, 0, 0, 0⟩
def d4 : PM := ⟨4, 0, 0, 0, 0, 0, 0, 0, 0, 0, 0, 0, 0, 0, 0, 0, 0, 0, 0, 0, 0⟩
def dm0 : PM := ⟨0, 0, 0, 0, 0, 0, 0, 0, 0, 0, 0, 0, 0, 0, 0, 0, 0, 0, 0, 0, 0⟩
theorem dP_chk {D : Int} (h : 0 ≤ D ∧ D ≤ 255) : chk (dP D) = 0 := by
  have h1 : stOk (atS 0) (atN 0) = true := by decide
  have hr : rngs (dP D) = true := by simp [rngs, rows, dP, inr, h.1, h.2, h1]
  unfold chk
  rw [if_neg (show szOf (dP D).k ≠ 0 from (by decide : szOf 3 ≠ 0)), hr, if_neg (by simp), show answ (dP D).k = true from rfl, if_neg (by simp), if_neg (by simp [annz, dP])]
theorem dP_resp {x : XS} {D : Int} (h : 0 ≤ D ∧ D ≤ 255) (hd : D ≠ x.dom) : respE x (dP D) 0 0 0 = 9 := by
  have e : comE (dP D) 3 x.dom = 9 := by
    unfold comE
    rw [if_pos (dP_chk h), if_pos (show (dP D).k = 3 from rfl), if_neg (show (dP D).d ≠ x.dom from hd)]
  unfold respE
  rw [e, if_neg (by omega)]
theorem d4_resp (x : XS) : respE x d4 0 0 0 = 2 := by
  have e : comE d4 3 x.dom = 2 := by
    unfold comE
    rw [if_neg (show ¬ chk d4 = 0 by decide)]
  unfold respE
  rw [e, if_neg (by omega)]
theorem reqX_dom (x : XS) (s t : Int) : (reqX x s t).dom = x.dom := by unfold reqX; split <;> rfl
end Pl
open Go.RowKit Go.Lib Go.Maps
set_option maxHeartbeats 20000000 in
set_option maxRecDepth 100000 in
theorem p2pDomains_walk (d s : Int) (w : World) (_h1 : (Lit.int .i64 d).wf = true) (_h2 : (Lit.int .i64 s).wf = true) :
    Calls Try.prog 7 #[.int .i64 d, .int .i64 s] w fun e w' => e = .returned (.bool true) ∧ Below w.heap.size w w' := by
  by_cases c : 0 ≤ d ∧ d ≤ 255
  · have NW := Lib.hid (fun W => pnew_yes d c.1 c.2 W)
    have A0 := Lib.hid (fun W => at_any 0 rfl W)
    have u1 : decide (0 ≤ d) = true := by simp; omega
    have u2 : decide (d ≤ 255) = true := by simp; omega
    have kw : IntKind.i64.wrap (d + 1) = d + 1 := IntWalk.i64_in _ (by omega)
    obtain ⟨D, hD⟩ : ∃ D, (d + 1).tmod 256 = D := ⟨_, rfl⟩
    have hD2 : D = (d + 1) % 256 := by rw [← hD]; exact Int.tmod_eq_emod_of_nonneg (by omega)
    have hDb : 0 ≤ D ∧ D ≤ 255 := by omega
    have hDd : D ≠ d := by omega
    have RQ : Hid (∀ b W, Blk W b 65 (xA (Pl.xs0 d)) → Calls Try.prog 11 #[.pointer (some ⟨b, 0, none⟩), .int .i64 s, .int .i64 0] W fun e w' => e = .returned (.int .i64 (Pl.reqE s 0)) ∧ Blk w' b 65 (xA (Pl.reqX (Pl.xs0 d) s 0)) ∧ W.grownBy w' (some b)) := Lib.hid (fun b W h => preq_any b (Pl.xs0 d) s 0 W h)
    have hx : (Pl.reqX (Pl.xs0 d) s 0).dom = d := Pl.reqX_dom _ _ _
    obtain ⟨x1, hx1⟩ : ∃ x1, Pl.reqX (Pl.xs0 d) s 0 = x1 := ⟨_, rfl⟩
    rw [hx1] at hx RQ
    have R1 : Hid (∀ b W, Blk W b 65 (xA x1) → Calls Try.prog 12 #[.pointer (some ⟨b, 0, none⟩), pmV (Pl.dP D), .int .i64 0, .int .u64 0, .int .i64 0] W fun e w' => e = .returned (.int .i64 9) ∧ Blk w' b 65 (xA x1) ∧ W.grownBy w' (some b)) := Lib.hid (fun b W h => by have := presp_any b x1 (Pl.dP D) 0 0 0 W h rfl; rw [Pl.respX, Pl.dP_resp hDb (by rw [hx]; exact hDd), if_neg (by omega)] at this; exact this)
    have R2 : Hid (∀ b W, Blk W b 65 (xA x1) → Calls Try.prog 12 #[.pointer (some ⟨b, 0, none⟩), pmV Pl.d4, .int .i64 0, .int .u64 0, .int .i64 0] W fun e w' => e = .returned (.int .i64 2) ∧ Blk w' b 65 (xA x1) ∧ W.grownBy w' (some b)) := Lib.hid (fun b W h => by have := presp_any b x1 Pl.d4 0 0 0 W h rfl; rw [Pl.respX, Pl.d4_resp, if_neg (by omega)] at this; exact this)
    by_cases q : 0 ≤ s ∧ s ≤ 65535
    · have e : Pl.reqE s 0 = 0 := by unfold Pl.reqE; rw [if_pos (by simp [Pl.inr, q.1, q.2]; decide)]
      rw [e] at RQ
      have v1 : decide (0 ≤ s) = true := by simp; omega
      have v2 : decide (s ≤ 65535) = true := by simp; omega
      clear e q hx hx1 hD2 hDb hDd c _h1 _h2
      go_enter Try.func7, Try.ntmps7
      go_wp2_with fail
      refine (NW.out _).mono ?_
      rintro _ w1 ⟨rfl, X1, l1⟩
      have B1 := Lib.hid l1
      have X1' := Lib.hid X1
      clear l1 X1
      go_wp2_with fail
      refine (A0.out _).mono ?_
      rintro _ w2 ⟨rfl, l2⟩
      have B2 := bel_on B1.out l2
      have X2 := X1'.out.below_ l2
      have hz2 : w.heap.size < w2.heap.size := X2.lt
      have hp : w2.heap.size ≠ w.heap.size := by omega
      clear l2 B1 X1'
      go_wp2_with (refine wpList_store_blk rfl 38 _ _ rfl w2.heap.size (pmA (Pl.dP D)) rfl rfl 38 zA (Blk.new _ _ _) (by kernel_rfl) rfl (by kernel_rfl) ?_; intro W3 P3 HG3; have B3 := Lib.hid (bel_S B2 HG3); have X3 := Lib.hid (blk_S X2 HG3); clear HG3 B2 X2)
      have P3' := Lib.hid P3
      clear P3
      refine (RQ.out _ _ X3.out).mono ?_
      rintro _ w4 ⟨rfl, X4, l4⟩
      have B4 := Lib.hid (Below.only B3.out l4 (Nat.le_refl _) B3.out.size)
      have P4 := P3'.out.grown l4 (fun e => by injection e with e; exact hp e)
      have X4' := Lib.hid X4
      clear l4 B3 X3 P3' X4
      go_wp2_with (refine wpList_load_blk_g rfl 38 _ rfl w2.heap.size rfl 38 (pmA (Pl.dP D)) _ P4 Try.underlying38 rfl (by kernel_rfl) ?_)
      refine (R1.out _ _ X4'.out).mono ?_
      rintro _ w5 ⟨rfl, X5, l5⟩
      have B5 := Lib.hid (Below.only B4.out l5 (Nat.le_refl _) B4.out.size)
      have X5' := Lib.hid X5
      clear l5 B4 P4 X4' X5
      go_wp2_with fail
      refine (R2.out _ _ X5'.out).mono ?_
      rintro _ w6 ⟨rfl, X6, l6⟩
      have B6 := Lib.hid (Below.only B5.out l6 (Nat.le_refl _) B5.out.size)
      clear l6 B5 X5' X6
      go_wp2_with fail
      refine (pawake_any _).mono ?_
      rintro _ w7 ⟨rfl, l7⟩
      go_wp2
      go_ret
      exact ⟨rfl, bel_on B6.out l7⟩
    · have e : Pl.reqE s 0 = 3 := by unfold Pl.reqE; rw [if_neg (by simp [Pl.inr]; omega)]
      rw [e] at RQ
      have v : decide (0 ≤ s) = false ∨ (decide (0 ≤ s) = true ∧ decide (s ≤ 65535) = false) := by
        by_cases r : 0 ≤ s
        · exact .inr ⟨by simp; omega, by simp; omega⟩
        · exact .inl (by simp; omega)
      clear e q hx hx1 hD2 hDb hDd c _h1 _h2
      rcases v with v1 | ⟨v1, v2⟩
      all_goals (
        go_enter Try.func7, Try.ntmps7
        go_wp2_with fail
        refine (NW.out _).mono ?_
        rintro _ w1 ⟨rfl, X1, l1⟩
        have B1 := Lib.hid l1
        have X1' := Lib.hid X1
        clear l1 X1
        go_wp2_with fail
        refine (A0.out _).mono ?_
        rintro _ w2 ⟨rfl, l2⟩
        have B2 := bel_on B1.out l2
        have X2 := X1'.out.below_ l2
        have hz2 : w.heap.size < w2.heap.size := X2.lt
        have hp : w2.heap.size ≠ w.heap.size := by omega
        clear l2 B1 X1'
        go_wp2_with (refine wpList_store_blk rfl 38 _ _ rfl w2.heap.size (pmA (Pl.dP D)) rfl rfl 38 zA (Blk.new _ _ _) (by kernel_rfl) rfl (by kernel_rfl) ?_; intro W3 P3 HG3; have B3 := Lib.hid (bel_S B2 HG3); have X3 := Lib.hid (blk_S X2 HG3); clear HG3 B2 X2)
        have P3' := Lib.hid P3
        clear P3
        refine (RQ.out _ _ X3.out).mono ?_
        rintro _ w4 ⟨rfl, X4, l4⟩
        have B4 := Lib.hid (Below.only B3.out l4 (Nat.le_refl _) B3.out.size)
        have P4 := P3'.out.grown l4 (fun e => by injection e with e; exact hp e)
        have X4' := Lib.hid X4
        clear l4 B3 X3 P3' X4
        go_wp2_with (refine wpList_load_blk_g rfl 38 _ rfl w2.heap.size rfl 38 (pmA (Pl.dP D)) _ P4 Try.underlying38 rfl (by kernel_rfl) ?_)
        refine (R1.out _ _ X4'.out).mono ?_
        rintro _ w5 ⟨rfl, X5, l5⟩
        have B5 := Lib.hid (Below.only B4.out l5 (Nat.le_refl _) B4.out.size)
        have X5' := Lib.hid X5
        clear l5 B4 P4 X4' X5
        go_wp2_with fail
        refine (R2.out _ _ X5'.out).mono ?_
        rintro _ w6 ⟨rfl, X6, l6⟩
        have B6 := Lib.hid (Below.only B5.out l6 (Nat.le_refl _) B5.out.size)
        clear l6 B5 X5' X6
        go_wp2_with fail
        refine (pawake_any _).mono ?_
        rintro _ w7 ⟨rfl, l7⟩
        go_wp2
        go_ret
        exact ⟨rfl, bel_on B6.out l7⟩)
  · have NW := Lib.hid (fun W => pnew_no d (by omega) W)
    have RN := Lib.hid (fun W => presp_nil Pl.dm0 0 0 0 W)
    have FN := Lib.hid (fun W => pfol_nil Pl.dm0 0 0 W)
    have u : decide (0 ≤ d) = false ∨ (decide (0 ≤ d) = true ∧ decide (d ≤ 255) = false) := by
      by_cases r : 0 ≤ d
      · exact .inr ⟨by simp; omega, by simp; omega⟩
      · exact .inl (by simp; omega)
    clear c _h1 _h2
    rcases u with u1 | ⟨u1, u2⟩
    all_goals (
      go_enter Try.func7, Try.ntmps7
      go_wp2_with fail
      refine (NW.out _).mono ?_
      rintro _ w1 ⟨rfl, rfl⟩
      go_wp2_with fail
      refine (pdel_nil _).mono ?_
      rintro _ w2 ⟨rfl, rfl⟩
      go_wp2_with fail
      refine (preq_nil _ _ _).mono ?_
      rintro _ w3 ⟨rfl, rfl⟩
      go_wp2_with fail
      refine (RN.out _).mono ?_
      rintro _ w4 ⟨rfl, l4⟩
      have B4 := l4
      go_wp2_with fail
      refine (FN.out _).mono ?_
      rintro _ w5 ⟨rfl, l5⟩
      have B5 := Lib.hid (bel_on B4 l5)
      clear l4 l5 B4
      go_wp2_with fail
      refine (pawake_any _).mono ?_
      rintro _ w6 ⟨rfl, l6⟩
      go_wp2
      go_ret
      exact ⟨rfl, bel_on B5.out l6⟩)
end Go.Proofs.Ytmdfbcabpmadgaa
