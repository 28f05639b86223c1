/- Plain law and walk of TopPeer. -/
import Derived.Test.YtmdfbcabpmadgaaP2p7
import Derived.Test.YtmdfbcabpmadgaaOpenIn
namespace Go.Proofs.Ytmdfbcabpmadgaa
namespace Pl
/-- the messages of the exchange -/
def tR (k t : Int) : PM := ⟨k, 0, 0, 0, 3, 1, 4, 0, atS t, atN t, 2, 1, 0, 0, 0, 0, 0, 0, 0, 0, 0⟩
theorem tR_ins {k t : Int} (h : rdg t = true) : insB (tR k t) = true ∧ insN (tR k t) = t := by
  obtain ⟨_, h2, h3⟩ := at_ok h
  have e : 3900000000000000000 + t - 3900000000000000000 = t := by omega
  have hb : insB (tR k t) = true := by
    show (tmOk (atS t) (atN t) && rdg (tmT (atS t) (atN t) - 3900000000000000000)) = true
    rw [h3, h2, e, h]
    rfl
  refine ⟨hb, ?_⟩
  unfold insN
  rw [if_pos hb]
  show tmT (atS t) (atN t) - 3900000000000000000 = t
  rw [h2, e]
theorem tR_chk {k t : Int} (hk : k = 3 ∨ k = 10) (h : rdg t = true) : chk (tR k t) = 0 := by
  obtain ⟨h1, _, _⟩ := at_ok h
  have hr : rngs (tR k t) = true := by simp [rngs, rows, tR, inr, h1]
  unfold chk
  have h0 : szOf (tR k t).k ≠ 0 := by show szOf k ≠ 0; rcases hk with rfl | rfl <;> decide
  have ha : answ (tR k t).k = true := by show answ k = true; rcases hk with rfl | rfl <;> decide
  rw [if_neg h0, hr, if_neg (by simp), ha, if_neg (by simp), if_neg (by simp [annz, tR])]
def tX1 (a : Int) : XS := (xs0 0).reqd 4 a
def tX2 (a t2 t4 : Int) : XS := (tX1 a).resp (tR 3 t2) t4
def tX3 (a t2 t3 t4 : Int) : XS := (tX2 a t2 t4).fol (tR 10 t3)
section
variable {a t2 t3 t4 : Int}
theorem tq (h1 : rdg a = true) : reqE 4 a = 0 := by unfold reqE; rw [if_pos (by rw [h1]; decide)]
theorem ts (h2 : rdg t2 = true) (h4 : rdg t4 = true) : respE (tX1 a) (tR 3 t2) t4 2 1 = 0 := by
  have hc : comE (tR 3 t2) 3 (tX1 a).dom = 0 := by
    unfold comE
    rw [if_pos (tR_chk (.inl rfl) h2), if_pos (show (tR 3 t2).k = 3 from rfl), if_pos (show (tR 3 t2).d = (tX1 a).dom from rfl)]
  unfold respE
  rw [if_pos hc, if_pos (by simp [mineR, tX1, XS.reqd, tR]), if_pos (by rw [(tR_ins (k := 3) h2).1, h4]; rfl)]
theorem tf (h3 : rdg t3 = true) : folE (tX2 a t2 t4) (tR 10 t3) 2 1 = 0 := by
  have hc : comE (tR 10 t3) 10 (tX2 a t2 t4).dom = 0 := by
    unfold comE
    rw [if_pos (tR_chk (.inr rfl) h3), if_pos (show (tR 10 t3).k = 10 from rfl), if_pos (show (tR 10 t3).d = (tX2 a t2 t4).dom from rfl)]
  unfold folE
  rw [if_pos hc, if_pos (by simp [mineF, tX2, tX1, XS.reqd, XS.resp, tR]), if_pos (tR_ins (k := 10) h3).1]
theorem tX1_ok (h1 : rdg a = true) : XOk (tX1 a) := (xs0_ok 0).req h1
theorem tX2_ok (h1 : rdg a = true) (h4 : rdg t4 = true) : XOk (tX2 a t2 t4) := (tX1_ok h1).resp (by show -9223372036854775808 ≤ (0 : Int) ∧ (0 : Int) ≤ 9223372036854775807; omega) h4
theorem tX3_ok (h1 : rdg a = true) (h4 : rdg t4 = true) : XOk (tX3 a t2 t3 t4) := (tX2_ok h1 h4).fol (by show (0 : Int) < 1000000000000; omega)
theorem tX3_del (h2 : rdg t2 = true) (h3 : rdg t3 = true) : delN (tX3 a t2 t3 t4) = max 0 (((t4 - a) - (t3 - t2)) / 2) ∧ delB (tX3 a t2 t3 t4) = true := by
  have hc : (tX3 a t2 t3 t4).cnt = 1 := rfl
  have hd : (tX3 a t2 t3 t4).dl 0 = max 0 (((t4 - a) - (insN (tR 10 t3) - insN (tR 3 t2)) - sat 0 0 / 65536) / 2) := rfl
  have hs : sat 0 0 / 65536 = 0 := by decide
  rw [(tR_ins h2).2, (tR_ins h3).2, hs, Int.sub_zero] at hd
  refine ⟨?_, by unfold delB; rw [hc]; rfl⟩
  unfold delN
  have hn : nD (tX3 a t2 t3 t4) = 1 := by unfold nD; rw [hc]; rfl
  rw [hc, if_neg (by omega), hn]
  show (0 + (tX3 a t2 t3 t4).dl 0) / ((1 : Nat) : Int) = _
  rw [hd]
  simp
end
/-- are all stays within the limits? -/
def allB (z : Nat → Int) : Nat → Bool
  | 0 => true
  | n + 1 => allB z n && inr (z n) 0 34359738368
theorem allB_no {z : Nat → Int} {j : Nat} (h : inr (z j) 0 34359738368 = false) : ∀ n, j < n → allB z n = false
  | 0, hj => by omega
  | n + 1, hj => by
    unfold allB
    by_cases c : j = n
    · subst c
      rw [h, Bool.and_false]
    · rw [allB_no h n (by omega), Bool.false_and]
def wIn (a0 a1 a2 a3 : Int) (len : Nat) : Prop := (0 ≤ a0 ∧ a0 ≤ 35184372088832) ∧ (-35184372088832 ≤ a1 ∧ a1 ≤ 35184372088832) ∧ (0 ≤ a2 ∧ a2 ≤ 1099511627776) ∧ (0 ≤ a3 ∧ a3 ≤ 1099511627776) ∧ len ≤ 20
end Pl
open Go.RowKit Go.Lib Go.Maps
abbrev wyA (a0 a1 a2 a3 : Int) (x : Option Addr) (len cap : Nat) : Array Value := #[.int .i64 a0, .int .i64 a1, .int .i64 a2, .int .i64 a3, .slice x len cap]
set_option maxRecDepth 100000 in
theorem stamped_any (t : Int) (h : Pl.rdg t = true) (w : World) : Calls Try.prog 13 #[.int .i64 t] w fun e w' => e = .returned (.agg #[.int .i64 (Pl.atS t), .int .i64 (Pl.atN t)]) ∧ Below w.heap.size w w' := by
  have hr := Pl.rdg_iff.1 h
  have OF := fun W => pof_any (3900000000000000000 + t) (by omega) (by omega) W
  have kw : IntKind.i64.wrap (3900000000000000000 + t) = 3900000000000000000 + t := IntWalk.i64_in _ (by omega)
  replace OF : ∀ W, Calls Try.prog 29 #[.int .i64 (3900000000000000000 + t)] W fun e w' => e = .returned (.tuple #[.agg #[.int .i64 (Pl.atS t), .int .i64 (Pl.atN t)], .int .i64 0]) ∧ Below W.heap.size W w' := OF
  generalize Pl.atS t = P at OF ⊢
  generalize Pl.atN t = Q at OF ⊢
  replace OF := Lib.hid OF
  have K0 := one_mk w 33 #[.int .i64 0, .int .i64 0]
  clear hr h
  go_enter Try.func13, Try.ntmps13
  go_wp2_with fail
  refine (OF.out _).mono ?_
  rintro _ w1 ⟨rfl, l1⟩
  have K1 := K0.on l1
  clear l1 K0
  have hz : w.heap.size < w1.heap.size := K1.2.lt
  go_wp2_with (first | (refine wpList_store_blk rfl 33 _ _ rfl w1.heap.size #[.int .i64 P, .int .i64 Q] rfl rfl 33 #[.int .i64 0, .int .i64 0] (Blk.new _ _ _) (by kernel_rfl) rfl (by kernel_rfl) ?_; intro W2 N2 HG2; have R2 := blk_S K1.2 HG2; have B2 := bel_S K1.1 HG2; clear HG2) | (refine wpList_load_blk rfl 33 _ rfl w1.heap.size rfl 33 #[.int .i64 P, .int .i64 Q] _ N2 Try.underlying33 rfl (by kernel_rfl) ?_) | (refine wpList_store_blk rfl 33 _ _ rfl w.heap.size #[.int .i64 P, .int .i64 Q] rfl rfl 33 #[.int .i64 0, .int .i64 0] R2 (by kernel_rfl) rfl (by kernel_rfl) ?_; intro W3 N3 HG3))
  exact bodyPost_ret (v := .agg #[.int .i64 P, .int .i64 Q]) (results_cell_row rfl _ _ w.heap.size 33 #[.int .i64 P, .int .i64 Q] (0, 0) _ rfl N3 Try.underlying33 rfl (by kernel_rfl)) rfl ⟨rfl, Below.only B2 HG3 (Nat.le_refl _) B2.size⟩

set_option maxHeartbeats 1000000 in
theorem within_no (a0 a1 a2 a3 : Int) (x : Option Addr) (len cap : Nat) (w : World) (h : ¬ Pl.wIn a0 a1 a2 a3 len) :
    Calls Try.prog 9 #[.agg (wyA a0 a1 a2 a3 x len cap)] w fun e w' => e = .returned (.bool false) ∧ Below w.heap.size w w' := by
  unfold Pl.wIn at h
  go_enter Try.func9, Try.ntmps9
  go_wp2_with fail
  all_goals first
    | (go_ret; exact ⟨rfl, bel_bx' _ _⟩)
    | (exfalso; omega)
set_option maxHeartbeats 2000000 in
theorem within_yes (a0 a1 a2 a3 : Int) (x : Option Addr) (len cap : Nat) (z : Nat → Int) (w : World) (h : Pl.wIn a0 a1 a2 a3 len) (hz : Ints w x len z) :
    Calls Try.prog 9 #[.agg (wyA a0 a1 a2 a3 x len cap)] w fun e w' => e = .returned (.bool (Pl.allB z len)) ∧ Below w.heap.size w w' := by
  obtain ⟨⟨b1, b2⟩, ⟨b3, b4⟩, ⟨b5, b6⟩, ⟨b7, b8⟩, b9⟩ := h
  have d1 : decide (a0 < 0) = false := by simp; omega
  have d2 : decide (35184372088832 < a0) = false := by simp; omega
  have d3 : decide (a1 < -35184372088832) = false := by simp; omega
  have d4 : decide (35184372088832 < a1) = false := by simp; omega
  have d5 : decide (a2 < 0) = false := by simp; omega
  have d6 : decide (1099511627776 < a2) = false := by simp; omega
  have d7 : decide (a3 < 0) = false := by simp; omega
  have d8 : decide (1099511627776 < a3) = false := by simp; omega
  have d9 : decide (20 < (len : Int)) = false := by simp; omega
  have HZ := Lib.hid hz
  obtain ⟨R, hR⟩ : ∃ R, Pl.allB z len = R := ⟨_, rfl⟩
  rw [hR]
  have HR := Lib.hid hR
  have A0 : Hid (Pl.allB z 0 = true) := Lib.hid rfl
  clear hz hR
  go_enter Try.func9, Try.ntmps9
  go_wp2_with fail
  go_loop [52] (fun i => ∃ j : Nat, i = .int .i64 j ∧ j ≤ len ∧ Hid (Pl.allB z j = true)) (fun i => len - (RowKit.intOf i).toNat)
  case atStart => exact ⟨0, rfl, by omega, A0⟩
  case round =>
    obtain ⟨j, rfl, hj, hA⟩ := hrel
    by_cases hlt : j < len
    · obtain ⟨bx, ox, rfl, hb0, hb1, c0⟩ := ints_at HZ.out (bel_bx' w (.cells (wyA a0 a1 a2 a3 x len cap) 24)) hlt
      have t1 : decide ((j : Int) < (len : Int)) = true := by simp [hlt]
      by_cases q : 0 ≤ z j ∧ z j ≤ 34359738368
      · have t2 : decide (z j < 0) = false := by simp; omega
        have t3 : decide (34359738368 < z j) = false := by simp; omega
        have A1 : Hid (Pl.allB z (j + 1) = true) := Lib.hid (by unfold Pl.allB; rw [hA.out, Pl.inr_iff.2 q]; rfl)
        go_wp2_with fail
        go_round
        case rel => exact ⟨j + 1, by go_num, by omega, A1⟩
        case measure => simp [RowKit.intOf]; omega
      · have hf : R = false := by
          rw [← HR.out]
          refine Pl.allB_no ?_ len hlt
          cases h : Pl.inr (z j) 0 34359738368
          · rfl
          · exact absurd (Pl.inr_iff.1 h) q
        subst hf
        by_cases q1 : z j < 0
        · have t2 : decide (z j < 0) = true := by simp [q1]
          go_wp2_with fail
          go_ret
          exact ⟨rfl, bel_bx' _ _⟩
        · have t2 : decide (z j < 0) = false := by simp; omega
          have t3 : decide (34359738368 < z j) = true := by simp; omega
          go_wp2_with fail
          go_ret
          exact ⟨rfl, bel_bx' _ _⟩
    · obtain rfl : j = len := by omega
      have hf : R = true := by rw [← HR.out, hA.out]
      subst hf
      have t1 : decide ((j : Int) < (j : Int)) = false := by simp
      go_wp2_with fail
      go_ret
      exact ⟨rfl, bel_bx' _ _⟩
set_option maxHeartbeats 4000000 in
theorem topPeer_yes (a0 a1 a2 a3 : Int) (x : Option Addr) (len cap : Nat) (z : Nat → Int) (hd : Int) (w : World) (h : Pl.wIn a0 a1 a2 a3 len) (hz : Ints w x len z) (hB : Pl.allB z len = true) (h1 : 0 ≤ hd) (h2 : hd ≤ 1099511627776) :
    Calls Try.prog 3 #[.agg (wyA a0 a1 a2 a3 x len cap), .int .i64 hd] w fun e w' => e = .returned (.bool true) ∧ Below w.heap.size w w' := by
  have WI := within_yes a0 a1 a2 a3 x len cap z (w.alloc (.cells (wyA a0 a1 a2 a3 x len cap) 24)) h (fun i hi => by
    obtain ⟨y, e1, e2, e3, e4⟩ := hz i hi
    have l := bel_bx' w (.cells (wyA a0 a1 a2 a3 x len cap) 24)
    exact ⟨y, e1, Nat.lt_of_lt_of_le e2 l.size, (l.cell (p := y.add i) (by rw [add_block]; exact e2)).trans e3, e4⟩)
  rw [hB] at WI
  obtain ⟨⟨b1, b2⟩, ⟨b3, b4⟩, ⟨b5, b6⟩, ⟨b7, b8⟩, b9⟩ := h
  have ra : Pl.rdg a0 = true := Pl.rdg_iff.2 (by omega)
  have rb : Pl.rdg (a0 + a2 + a1) = true := Pl.rdg_iff.2 (by omega)
  have rc : Pl.rdg (a0 + a2 + a1 + hd) = true := Pl.rdg_iff.2 (by omega)
  have rd : Pl.rdg (a0 + a2 + hd + a3) = true := Pl.rdg_iff.2 (by omega)
  have NW := Lib.hid (fun W => pnew_yes 0 (by omega) (by omega) W)
  have A2 := Lib.hid (fun W => stamped_any (a0 + a2 + a1) rb W)
  have A3 := Lib.hid (fun W => stamped_any (a0 + a2 + a1 + hd) rc W)
  have RQ : Hid (∀ b W, Blk W b 65 (xA (Pl.xs0 0)) → Calls Try.prog 11 #[.pointer (some ⟨b, 0, none⟩), .int .i64 4, .int .i64 a0] W fun e w' => e = .returned (.int .i64 0) ∧ Blk w' b 65 (xA (Pl.tX1 a0)) ∧ W.grownBy w' (some b)) := Lib.hid (fun b W h => by have := preq_any b (Pl.xs0 0) 4 a0 W h; rw [Pl.reqX, Pl.tq ra, if_pos rfl] at this; exact this)
  have RS : Hid (∀ b W, Blk W b 65 (xA (Pl.tX1 a0)) → Calls Try.prog 12 #[.pointer (some ⟨b, 0, none⟩), pmV (Pl.tR 3 (a0 + a2 + a1)), .int .i64 (a0 + a2 + hd + a3), .int .u64 2, .int .i64 1] W fun e w' => e = .returned (.int .i64 0) ∧ Blk w' b 65 (xA (Pl.tX2 a0 (a0 + a2 + a1) (a0 + a2 + hd + a3))) ∧ W.grownBy w' (some b)) := Lib.hid (fun b W h => by have := presp_any b (Pl.tX1 a0) (Pl.tR 3 (a0 + a2 + a1)) (a0 + a2 + hd + a3) 2 1 W h (by show (Lit.int .i64 3).wf = true; decide); rw [Pl.respX, Pl.ts rb rd, if_pos rfl] at this; exact this)
  have FO : Hid (∀ b W, Blk W b 65 (xA (Pl.tX2 a0 (a0 + a2 + a1) (a0 + a2 + hd + a3))) → Calls Try.prog 14 #[.pointer (some ⟨b, 0, none⟩), pmV (Pl.tR 10 (a0 + a2 + a1 + hd)), .int .u64 2, .int .i64 1] W fun e w' => e = .returned (.int .i64 0) ∧ Blk w' b 65 (xA (Pl.tX3 a0 (a0 + a2 + a1) (a0 + a2 + a1 + hd) (a0 + a2 + hd + a3))) ∧ W.grownBy w' (some b)) := Lib.hid (fun b W h => by have := pfol_any b (Pl.tX2 a0 (a0 + a2 + a1) (a0 + a2 + hd + a3)) (Pl.tR 10 (a0 + a2 + a1 + hd)) 2 1 W h ⟨by show (Lit.int .i64 10).wf = true; decide, rfl, rfl, rfl, rfl, rfl, rfl⟩ (Pl.tX2_ok ra rd); rw [Pl.folX, Pl.tf rc, if_pos rfl] at this; exact this)
  have DL : Hid (∀ b W, Blk W b 65 (xA (Pl.tX3 a0 (a0 + a2 + a1) (a0 + a2 + a1 + hd) (a0 + a2 + hd + a3))) → Calls Try.prog 15 #[.pointer (some ⟨b, 0, none⟩)] W fun e w' => e = .returned (.tuple #[.int .i64 ((a2 + a3) / 2), .bool true]) ∧ ∃ n, w' = W.drewN n) := Lib.hid (fun b W h => by
    have := pdel_any b _ W h (Pl.tX3_ok ra rd)
    rw [(Pl.tX3_del rb rc).1, (Pl.tX3_del rb rc).2, show max 0 (((a0 + a2 + hd + a3 - a0) - (a0 + a2 + a1 + hd - (a0 + a2 + a1))) / 2) = (a2 + a3) / 2 by omega] at this
    exact this)
  generalize (Pl.tX3 a0 (a0 + a2 + a1) (a0 + a2 + a1 + hd) (a0 + a2 + hd + a3)) = x3 at FO DL
  generalize (Pl.tX2 a0 (a0 + a2 + a1) (a0 + a2 + hd + a3)) = x2 at RS FO
  generalize Pl.tX1 a0 = x1 at RQ RS
  generalize Pl.xs0 0 = x0 at NW RQ
  replace WI := Lib.hid WI
  have kq : (a2 + a3).tdiv 2 = (a2 + a3) / 2 := Int.tdiv_eq_ediv_of_nonneg (by omega)
  have kqb : 0 ≤ (a2 + a3) / 2 ∧ (a2 + a3) / 2 ≤ 1099511627776 := by omega
  obtain ⟨V, hV⟩ : ∃ V, (a2 + a3) / 2 = V := ⟨_, rfl⟩
  rw [hV] at kq kqb DL
  have t1 : decide (hd < 0) = false := by simp; omega
  have t2 : decide (1099511627776 < hd) = false := by simp; omega
  have kw1 : IntKind.i64.wrap (a0 + a2) = a0 + a2 := IntWalk.i64_in _ (by omega)
  have kw2 : IntKind.i64.wrap (a0 + a2 + a1) = a0 + a2 + a1 := IntWalk.i64_in _ (by omega)
  have kw3 : IntKind.i64.wrap (a0 + a2 + hd) = a0 + a2 + hd := IntWalk.i64_in _ (by omega)
  have kw4 : IntKind.i64.wrap (a0 + a2 + hd + a3) = a0 + a2 + hd + a3 := IntWalk.i64_in _ (by omega)
  have kw5 : IntKind.i64.wrap (a0 + a2 + a1 + hd) = a0 + a2 + a1 + hd := IntWalk.i64_in _ (by omega)
  have kw6 : IntKind.i64.wrap (a2 + a3) = a2 + a3 := IntWalk.i64_in _ (by omega)
  clear hB hz ra rb rc rd hV b1 b2 b3 b4 b5 b6 b7 b8 b9
  have K0 := one_mk w 24 (wyA a0 a1 a2 a3 x len cap)
  go_enter Try.func3, Try.ntmps3
  go_wp2_with fail
  refine WI.out.mono ?_
  rintro _ w1 ⟨rfl, l1⟩
  have K1 := K0.on l1
  clear l1 K0 WI
  have K1' := Lib.hid K1
  clear K1
  go_wp2_with fail
  refine (NW.out _).mono ?_
  rintro _ w2 ⟨rfl, X2, l2⟩
  have K2 := K1'.out.on l2
  have hz2 : w.heap.size < w1.heap.size := K1'.out.2.lt
  have c0 : w2.cell? ⟨w.heap.size, 0, none⟩ = some (.int .i64 a0) := K2.2.cell 0
  have cz := K2.2.lt
  have X2' := Lib.hid X2
  have K2' := Lib.hid K2
  clear l2 X2 K1' K2
  go_wp2_with fail
  refine (RQ.out _ _ X2'.out).mono ?_
  rintro _ w3 ⟨rfl, X3, l3⟩
  have hne : w.heap.size ≠ w1.heap.size := by omega
  have K3 : One w w3 24 (wyA a0 a1 a2 a3 x len cap) := ⟨Below.only K2'.out.1 l3 (Nat.le_of_lt hz2) K2'.out.1.size, K2'.out.2.grown l3 (fun e => by injection e with e; exact hne e)⟩
  clear c0 cz
  have c0 : w3.cell? ⟨w.heap.size, 0, none⟩ = some (.int .i64 a0) := K3.2.cell 0
  have c1 : w3.cell? ⟨w.heap.size, 1, none⟩ = some (.int .i64 a1) := K3.2.cell 1
  have c2 : w3.cell? ⟨w.heap.size, 2, none⟩ = some (.int .i64 a2) := K3.2.cell 2
  have c3 : w3.cell? ⟨w.heap.size, 3, none⟩ = some (.int .i64 a3) := K3.2.cell 3
  have cz := K3.2.lt
  have X3' := Lib.hid X3
  have K3' := Lib.hid K3
  clear l3 X3 K3 K2' X2'
  go_wp2_with fail
  refine (A2.out _).mono ?_
  rintro _ w4 ⟨rfl, l4⟩
  have K4 := Lib.hid (K3'.out.on l4)
  have X4 := Lib.hid (X3'.out.below_ l4)
  clear l4 c0 c1 c2 c3 cz K3' X3'
  go_wp2_with fail
  refine (RS.out _ _ X4.out).mono ?_
  rintro _ w5 ⟨rfl, X5, l5⟩
  have K5 : Hid (One w w5 24 (wyA a0 a1 a2 a3 x len cap)) := Lib.hid ⟨Below.only K4.out.1 l5 (Nat.le_of_lt hz2) K4.out.1.size, K4.out.2.grown l5 (fun e => by injection e with e; exact hne e)⟩
  have X5' := Lib.hid X5
  clear l5 X5 K4 X4
  go_wp2_with fail
  refine (A3.out _).mono ?_
  rintro _ w6 ⟨rfl, l6⟩
  have K6 := Lib.hid (K5.out.on l6)
  have X6 := Lib.hid (X5'.out.below_ l6)
  clear l6 K5 X5'
  go_wp2_with fail
  refine (FO.out _ _ X6.out).mono ?_
  rintro _ w7 ⟨rfl, X7, l7⟩
  have K7 : Hid (One w w7 24 (wyA a0 a1 a2 a3 x len cap)) := Lib.hid ⟨Below.only K6.out.1 l7 (Nat.le_of_lt hz2) K6.out.1.size, K6.out.2.grown l7 (fun e => by injection e with e; exact hne e)⟩
  have X7' := Lib.hid X7
  clear l7 X7 K6 X6
  go_wp2_with fail
  refine (DL.out _ _ X7'.out).mono ?_
  rintro _ w8 ⟨rfl, n8, rfl⟩
  have c2 : (w7.drewN n8).cell? ⟨w.heap.size, 2, none⟩ = some (.int .i64 a2) := K7.out.2.cell 2
  have c3 : (w7.drewN n8).cell? ⟨w.heap.size, 3, none⟩ = some (.int .i64 a3) := K7.out.2.cell 3
  have cz : w.heap.size < (w7.drewN n8).heap.size := K7.out.2.lt
  go_wp2_with fail
  go_ret
  exact ⟨rfl, below_drewN K7.out.1 n8⟩
theorem topPeer_walk (a0 a1 a2 a3 : Int) (x : Option Addr) (len cap : Nat) (z : Nat → Int) (hd : Int) (w : World) (h : len ≤ cap ∧ cap ≤ maxLen ∧ Ints w x len z) (_h2 : (Lit.int .i64 hd).wf = true) :
    Calls Try.prog 3 #[.agg (wyA a0 a1 a2 a3 x len cap), .int .i64 hd] w fun e w' => e = .returned (.bool true) ∧ Below w.heap.size w w' := by
  have hz2 := h.2.2
  have l0 := bel_bx' w (.cells (wyA a0 a1 a2 a3 x len cap) 24)
  have hz3 : Ints (w.alloc (.cells (wyA a0 a1 a2 a3 x len cap) 24)) x len z := fun i hi => by
    obtain ⟨y, e1, e2, e3, e4⟩ := hz2 i hi
    exact ⟨y, e1, Nat.lt_of_lt_of_le e2 l0.size, (l0.cell (p := y.add i) (by rw [add_block]; exact e2)).trans e3, e4⟩
  by_cases hw : Pl.wIn a0 a1 a2 a3 len
  · by_cases hB : Pl.allB z len = true
    · by_cases h1 : 0 ≤ hd ∧ hd ≤ 1099511627776
      · exact topPeer_yes a0 a1 a2 a3 x len cap z hd w hw hz2 hB h1.1 h1.2
      · have WI := within_yes a0 a1 a2 a3 x len cap z _ hw hz3
        rw [hB] at WI
        replace WI := Lib.hid WI
        clear h hz2 hz3 hB hw
        by_cases h3 : hd < 0
        · have t1 : decide (hd < 0) = true := by simp [h3]
          go_enter Try.func3, Try.ntmps3
          go_wp2_with fail
          refine WI.out.mono ?_
          rintro _ w1 ⟨rfl, l1⟩
          go_wp2_with fail
          go_ret
          exact ⟨rfl, bel_on l0 l1⟩
        · have t1 : decide (hd < 0) = false := by simp; omega
          have t2 : decide (1099511627776 < hd) = true := by simp; omega
          go_enter Try.func3, Try.ntmps3
          go_wp2_with fail
          refine WI.out.mono ?_
          rintro _ w1 ⟨rfl, l1⟩
          go_wp2_with fail
          go_ret
          exact ⟨rfl, bel_on l0 l1⟩
    · have WI := within_yes a0 a1 a2 a3 x len cap z _ hw hz3
      rw [show Pl.allB z len = false by simpa using hB] at WI
      replace WI := Lib.hid WI
      clear h hz2 hz3 hB hw
      go_enter Try.func3, Try.ntmps3
      go_wp2_with fail
      refine WI.out.mono ?_
      rintro _ w1 ⟨rfl, l1⟩
      go_wp2_with fail
      go_ret
      exact ⟨rfl, bel_on l0 l1⟩
  · have WI := within_no a0 a1 a2 a3 x len cap (w.alloc (.cells (wyA a0 a1 a2 a3 x len cap) 24)) hw
    replace WI := Lib.hid WI
    clear h hz2 hz3 hw
    go_enter Try.func3, Try.ntmps3
    go_wp2_with fail
    refine WI.out.mono ?_
    rintro _ w1 ⟨rfl, l1⟩
    go_wp2_with fail
    go_ret
    exact ⟨rfl, bel_on l0 l1⟩
end Go.Proofs.Ytmdfbcabpmadgaa
