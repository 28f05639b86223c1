/- Path of layer 40. -/
import Derived.Test.YtnlfkafebbfenaaRes7
import Derived.Test.YtnlfkafebbfenaaOpenInts
namespace Go.Proofs.Ytnlfkafebbfenaa
namespace Pl
def pthR (z : Nat → Nat → Int) : Nat → Nat → PM → PM × Int
  | 0, _, q => (q, 0)
  | n + 1, k, q => if stayE (z k 0) (z k 1) (z k 2) = 0 then (if addE q (stayN (z k 0) (z k 1) (z k 2)) (z k 3) = 0 then pthR z n (k + 1) (addP q (stayN (z k 0) (z k 1) (z k 2)) (z k 3)) else (pm0, addE q (stayN (z k 0) (z k 1) (z k 2)) (z k 3))) else (pm0, stayE (z k 0) (z k 1) (z k 2))
theorem addE_cor {p : PM} {s l : Int} (h : addE p s l = 0) : corOk p (s + l) = true := by
  unfold addE at h
  split at h
  · split at h
    · omega
    · split at h
      · split at h
        · assumption
        · omega
      · omega
  · omega
end Pl
open Go.RowKit Go.Lib
theorem wf_add {p : Pl.PM} {s l : Int} (h : PmWf p) (he : Pl.addE p s l = 0) : PmWf (Pl.addP p s l) := by
  have hc := Pl.addE_cor he
  unfold Pl.corOk at hc
  simp only [Bool.and_eq_true] at hc
  unfold Pl.addP
  rw [if_pos he]
  exact ⟨h.k, h.d, h.fl, WalkArith.wf_i64 (Pl.fit_iff.1 hc.2), h.ck, h.po, h.sq⟩
theorem Rz.first {w W W' : World} {p p' : Pl.PM} {z : Array Value} (h : Rz w W p z) (hb : Blk W' w.heap.size 33 (pmA p')) (l : W.grownBy W' (some w.heap.size)) : Rz w W' p' z :=
  ⟨Below.only h.1 l (Nat.le_refl _) h.1.size, hb, h.2.2.grown l (fun e => by injection e with e; omega)⟩

set_option maxHeartbeats 8000000 in
set_option maxRecDepth 100000 in
theorem path_any (p : Pl.PM) (a : Option Addr) (len cap : Nat) (z : Nat → Nat → Int) (w : World) (hw : PmWf p) (hl : len ≤ 300) (hz : Fours w a len z) :
    Calls Try.prog 25 #[pmV p, .slice a len cap] w fun e w' => e = .returned (.tuple #[pmV (Pl.pthR z len 0 p).1, .int .i64 (Pl.pthR z len 0 p).2]) ∧ Below w.heap.size w w' := by
  obtain ⟨RP, hRP⟩ : ∃ RP, Pl.pthR z len 0 p = RP := ⟨_, rfl⟩
  rw [hRP]
  have R0 : Hid (Pl.pthR z (len - 0) 0 p = RP) := Lib.hid hRP
  have W0 := Lib.hid hw
  have HZ := Lib.hid hz
  clear hRP hw hz
  go_enter Try.func25, Try.ntmps25
  go_wp2_with fail
  go_loopw [12] (fun i wr => ∃ (k : Nat) (q : Pl.PM), i = .int .i64 k ∧ k ≤ len ∧ Hid (PmWf q) ∧ Hid (Rz w wr q zA) ∧ Hid (Pl.pthR z (len - k) k q = RP)) (fun i _ => len - (RowKit.intOf i).toNat)
  case atStart => exact ⟨0, p, rfl, by omega, W0, Lib.hid (Rz.mk w p), R0⟩
  case round =>
    obtain ⟨k, q, rfl, hk, hW, hR, hP⟩ := hrel
    by_cases hlt : k < len
    · obtain ⟨bx, ox, rfl, hb1, hb2, d0, d1, d2, d3⟩ := fours_at HZ.out hR.out.1 hlt
      have hP' := hP.out
      rw [show len - k = (len - (k + 1)) + 1 by omega, Pl.pthR] at hP'
      obtain ⟨r0, h0⟩ : ∃ r, z k 0 = r := ⟨_, rfl⟩
      obtain ⟨r1, h1⟩ : ∃ r, z k 1 = r := ⟨_, rfl⟩
      obtain ⟨r2, h2⟩ : ∃ r, z k 2 = r := ⟨_, rfl⟩
      obtain ⟨r3, h3⟩ : ∃ r, z k 3 = r := ⟨_, rfl⟩
      rw [h0] at d0 hP'
      rw [h1] at d1 hP'
      rw [h2] at d2 hP'
      rw [h3] at d3 hP'
      have SY := fun W => stay_any r0 r1 r2 W
      have t2 : decide ((k : Int) < (len : Int)) = true := by simp [hlt]
      have hk0 : (0 : Int) ≤ (k : Int) := by omega
      have hk8 : (k : Int) < (len : Int) := by omega
      obtain ⟨sn, hsn⟩ : ∃ n, Pl.stayN r0 r1 r2 = n := ⟨_, rfl⟩
      obtain ⟨se, hse⟩ : ∃ n, Pl.stayE r0 r1 r2 = n := ⟨_, rfl⟩
      rw [hsn, hse] at SY hP'
      have kw2 : IntKind.i64.wrap ((k : Int) + 1) = (k : Int) + 1 := IntWalk.i64_in _ (by omega)
      clear h0 h1 h2 h3 hsn hse hP
      by_cases c : se = 0
      · rw [if_pos c] at hP'
        have AD := fun W => add_any q sn r3 hW.out W
        have hwf := fun h => wf_add (s := sn) (l := r3) hW.out h
        obtain ⟨an, han⟩ : ∃ n, Pl.addP q sn r3 = n := ⟨_, rfl⟩
        obtain ⟨ae, hae⟩ : ∃ n, Pl.addE q sn r3 = n := ⟨_, rfl⟩
        rw [han, hae] at AD hP' hwf
        have t0 : (se != 0) = false := by simp [c]
        replace SY := Lib.hid SY
        replace AD := Lib.hid AD
        by_cases d : ae = 0
        · rw [if_pos d] at hP'
          have t1 : (ae != 0) = false := by simp [d]
          have hwf := Lib.hid (hwf d)
          have hP := Lib.hid hP'
          have ha0 := d
          clear hP' c d han hae ha0
          go_wp2_with fail
          refine (SY.out _).mono ?_
          rintro _ w2 ⟨rfl, l2⟩
          have K2 := (hR.out.alloc (.cells #[.int .i64 r0, .int .i64 r1, .int .i64 r2, .int .i64 r3] 63)).on l2
          have Q2 := (Blk.new wr 63 #[.int .i64 r0, .int .i64 r1, .int .i64 r2, .int .i64 r3]).below_ l2
          have K2a := K2.2.1
          have e3 : w2.cell? ⟨wr.heap.size, 3, none⟩ = some (.int .i64 r3) := Q2.cell 3
          have ez := Q2.lt
          clear l2
          go_wp2_with (refine wpList_load_blk rfl 33 _ rfl w.heap.size rfl 33 (pmA q) _ K2a Try.underlying33 rfl (by kernel_rfl) ?_)
          refine (AD.out _).mono ?_
          rintro _ w3 ⟨rfl, l3⟩
          have K3 := K2.on l3
          have K3a := K3.2.1
          clear l3 K2 K2a Q2 e3 ez
          go_wp2_with (refine wpList_store_blk rfl 33 _ _ rfl w.heap.size (pmA an) rfl rfl 33 (pmA q) K3a (by kernel_rfl) rfl (by kernel_rfl) ?_; intro W4 H4 G4)
          have K4 := Lib.hid (K3.first H4 G4)
          exact ⟨⟨k + 1, an, by go_num, by omega, hwf, K4, hP⟩, by simp [RowKit.intOf]; omega⟩
        · rw [if_neg d] at hP'
          have t1 : (ae != 0) = true := by simp [d]
          have HE : Hid (Ending.returned (.tuple #[.agg zA, .int .i64 ae]) = .returned (.tuple #[pmV RP.1, .int .i64 RP.2])) := Lib.hid (by rw [← hP']; rfl)
          clear hP' c d han hae hwf
          go_wp2_with fail
          refine (SY.out _).mono ?_
          rintro _ w2 ⟨rfl, l2⟩
          have K2 := (hR.out.alloc (.cells #[.int .i64 r0, .int .i64 r1, .int .i64 r2, .int .i64 r3] 63)).on l2
          have Q2 := (Blk.new wr 63 #[.int .i64 r0, .int .i64 r1, .int .i64 r2, .int .i64 r3]).below_ l2
          have K2a := K2.2.1
          have e3 : w2.cell? ⟨wr.heap.size, 3, none⟩ = some (.int .i64 r3) := Q2.cell 3
          have ez := Q2.lt
          clear l2
          go_wp2_with (refine wpList_load_blk rfl 33 _ rfl w.heap.size rfl 33 (pmA q) _ K2a Try.underlying33 rfl (by kernel_rfl) ?_)
          refine (AD.out _).mono ?_
          rintro _ w3 ⟨rfl, l3⟩
          have K3 := K2.on l3
          have K3a := K3.2.1
          clear l3 K2 K2a Q2 e3 ez
          go_wp2_with (first | (refine wpList_store_blk rfl 33 _ _ rfl w.heap.size (pmA an) rfl rfl 33 (pmA q) K3a (by kernel_rfl) rfl (by kernel_rfl) ?_; intro W4 H4 G4; have K4 := K3.first H4 G4; have K4b := K4.2.2) | (refine wpList_store_blk rfl 33 _ _ rfl (w.heap.size + 1) zA rfl rfl 33 zA K4b (by kernel_rfl) rfl (by kernel_rfl) ?_; intro W5 H5 G5))
          exact bodyPost_ret (v := .tuple #[.agg zA, .int .i64 ae]) (results_cell_tmp rfl _ _ (w.heap.size + 1) 33 zA _ _ rfl rfl H5 Try.underlying33 rfl info_pm) rfl ⟨HE.out, (K4.out H5 G5).1⟩
      · rw [if_neg c] at hP'
        have t0 : (se != 0) = true := by simp [c]
        have HE : Hid (Ending.returned (.tuple #[.agg zA, .int .i64 se]) = .returned (.tuple #[pmV RP.1, .int .i64 RP.2])) := Lib.hid (by rw [← hP']; rfl)
        replace SY := Lib.hid SY
        clear hP' c
        go_wp2_with fail
        refine (SY.out _).mono ?_
        rintro _ w2 ⟨rfl, l2⟩
        have K2 := (hR.out.alloc (.cells #[.int .i64 r0, .int .i64 r1, .int .i64 r2, .int .i64 r3] 63)).on l2
        have K2b := K2.2.2
        clear l2
        go_wp2_with (refine wpList_store_blk rfl 33 _ _ rfl (w.heap.size + 1) zA rfl rfl 33 zA K2b (by kernel_rfl) rfl (by kernel_rfl) ?_; intro W5 H5 G5)
        exact bodyPost_ret (v := .tuple #[.agg zA, .int .i64 se]) (results_cell_tmp rfl _ _ (w.heap.size + 1) 33 zA _ _ rfl rfl H5 Try.underlying33 rfl info_pm) rfl ⟨HE.out, (K2.out H5 G5).1⟩
    · obtain rfl : k = len := by omega
      have hP' := hP.out
      rw [show k - k = 0 by omega, Pl.pthR] at hP'
      have HE : Hid (Ending.returned (.tuple #[.agg (pmA q), .int .i64 0]) = .returned (.tuple #[pmV RP.1, .int .i64 RP.2])) := Lib.hid (by rw [← hP'])
      have t2 : decide ((k : Int) < (k : Int)) = false := by simp
      have K2a := hR.out.2.1
      have K2b := hR.out.2.2
      clear hP' hP
      go_wp2_with (first | (refine wpList_load_blk rfl 33 _ rfl w.heap.size rfl 33 (pmA q) _ K2a Try.underlying33 rfl (by kernel_rfl) ?_) | (refine wpList_store_blk rfl 33 _ _ rfl (w.heap.size + 1) (pmA q) rfl rfl 33 zA K2b (by kernel_rfl) rfl (by kernel_rfl) ?_; intro W5 H5 G5))
      exact bodyPost_ret (v := .tuple #[.agg (pmA q), .int .i64 0]) (results_cell_tmp rfl _ _ (w.heap.size + 1) 33 (pmA q) _ _ rfl rfl H5 Try.underlying33 rfl info_pm) rfl ⟨HE.out, (hR.out.out H5 G5).1⟩
end Go.Proofs.Ytnlfkafebbfenaa
