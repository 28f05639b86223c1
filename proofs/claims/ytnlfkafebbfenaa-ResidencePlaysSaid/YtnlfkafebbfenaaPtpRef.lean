/- The contract of the reference's check of messages. -/
import Derived.Test.YtnlfkafebbfenaaPtpCheck
namespace Go.Proofs.Ytnlfkafebbfenaa
open Go.RowKit Go.Lib Go.Maps

theorem rsz_any (k : Int) (w : World) : Calls Try.prog 44 #[.int .i64 k] w fun e w' => e = .returned (.int .i64 (Pl.szOf k)) ∧ w = w' := by
  by_cases h : k = 0 ∨ k = 1 ∨ k = 8
  · have e : Pl.szOf k = 44 := by unfold Pl.szOf; rw [if_pos h]
    rw [e]
    rcases h with rfl | rfl | rfl
    all_goals (
      go_enter Try.func44, Try.ntmps44
      go_wp2
      go_ret
      exact ⟨rfl, rfl⟩)
  · by_cases h2 : k = 2 ∨ k = 3 ∨ k = 9 ∨ k = 10
    · have e : Pl.szOf k = 54 := by unfold Pl.szOf; rw [if_neg h, if_pos h2]
      rw [e]
      rcases h2 with rfl | rfl | rfl | rfl
      all_goals (
        go_enter Try.func44, Try.ntmps44
        go_wp2
        go_ret
        exact ⟨rfl, rfl⟩)
    · by_cases h3 : k = 11
      · subst h3
        go_enter Try.func44, Try.ntmps44
        go_wp2
        go_ret
        exact ⟨rfl, rfl⟩
      · have e : Pl.szOf k = 0 := by unfold Pl.szOf; rw [if_neg h, if_neg h2, if_neg h3]
        rw [e]
        have t0 : (k == 0) = false := by simp; omega
        have t1 : (k == 1) = false := by simp; omega
        have t2 : (k == 2) = false := by simp; omega
        have t3 : (k == 3) = false := by simp; omega
        have t8 : (k == 8) = false := by simp; omega
        have t9 : (k == 9) = false := by simp; omega
        have t10 : (k == 10) = false := by simp; omega
        have t11 : (k == 11) = false := by simp; omega
        clear h h2 h3 e
        go_enter Try.func44, Try.ntmps44
        go_wp2
        go_ret
        exact ⟨rfl, rfl⟩
theorem rin33_any (n lo hi : Int) (w : World) : Calls Try.prog 45 #[.int .i64 n, .int .i64 lo, .int .i64 hi] w fun e w' => e = .returned (.bool (Pl.inr n lo hi)) ∧ w = w' := by
  go_enter Try.func45, Try.ntmps45
  go_wp2
  all_goals (go_ret; exact ⟨congrArg Ending.returned (congrArg Value.bool (by simp [Pl.inr] <;> omega)), rfl⟩)
theorem rreq_any (k : Int) (w : World) : Calls Try.prog 47 #[.int .i64 k] w fun e w' => e = .returned (.bool (Pl.answ k)) ∧ w = w' := by
  go_enter Try.func47, Try.ntmps47
  go_wp2
  all_goals (go_ret; exact ⟨congrArg Ending.returned (congrArg Value.bool (by first | (simp_all [Pl.answ]; done) | (rw [Bool.eq_iff_iff]; simp [Pl.answ] <;> omega))), rfl⟩)
theorem rst_any (s n : Int) (w : World) : Calls Try.prog 46 #[.agg #[.int .i64 s, .int .i64 n]] w fun e w' => e = .returned (.int .i64 (Pl.stE s n)) ∧ Below w.heap.size w w' := by
  go_enter Try.func46, Try.ntmps46
  go_wp2
  all_goals (go_ret; exact ⟨congrArg Ending.returned (congrArg (Value.int .i64) (by unfold Pl.stE; first | (rw [if_pos (Pl.stOk_iff.2 (by omega))]) | (rw [if_neg (fun q => by have := Pl.stOk_iff.1 q; omega)]))), (Below.refl _ _).alloc (Nat.le_refl _) _⟩)

/-- the reference's boxes -/
abbrev anA (p : Pl.PM) : Array Value := #[.int .i64 p.ut, .int .i64 p.p1, .int .i64 p.cl, .int .i64 p.ac, .int .i64 p.va, .int .i64 p.p2, .int .u64 p.gm, .int .i64 p.st, .int .i64 p.so]
def Rb (w W : World) (p : Pl.PM) : Prop := Below w.heap.size w W ∧ Blk W w.heap.size 33 (pmA p) ∧ Blk W (w.heap.size + 1) 31 (anA p)
theorem Rb.on {w W W' : World} {p : Pl.PM} (h : Rb w W p) (l : Below W.heap.size W W') : Rb w W' p := ⟨bel_on h.1 l, h.2.1.below_ l, h.2.2.below_ l⟩
theorem Rb.mk (w : World) (p : Pl.PM) : Rb w ((w.alloc (.cells (pmA p) 33)).alloc (.cells (anA p) 31)) p :=
  ⟨bel_more (bel_bx' w _) _, (Blk.new w _ _).alloc _, by have := Blk.new (w.alloc (.cells (pmA p) 33)) 31 (anA p); simpa using this⟩
theorem Rb.an {w W : World} {p : Pl.PM} (h : Rb w W p) : W.cell? ⟨w.heap.size + 1, 0, none⟩ = some (.int .i64 p.ut) ∧ W.cell? ⟨w.heap.size + 1, 1, none⟩ = some (.int .i64 p.p1) ∧ W.cell? ⟨w.heap.size + 1, 2, none⟩ = some (.int .i64 p.cl) ∧ W.cell? ⟨w.heap.size + 1, 3, none⟩ = some (.int .i64 p.ac) ∧ W.cell? ⟨w.heap.size + 1, 4, none⟩ = some (.int .i64 p.va) ∧ W.cell? ⟨w.heap.size + 1, 5, none⟩ = some (.int .i64 p.p2) ∧ W.cell? ⟨w.heap.size + 1, 6, none⟩ = some (.int .u64 p.gm) ∧ W.cell? ⟨w.heap.size + 1, 7, none⟩ = some (.int .i64 p.st) ∧ W.cell? ⟨w.heap.size + 1, 8, none⟩ = some (.int .i64 p.so) :=
  ⟨h.2.2.cell 0, h.2.2.cell 1, h.2.2.cell 2, h.2.2.cell 3, h.2.2.cell 4, h.2.2.cell 5, h.2.2.cell 6, h.2.2.cell 7, h.2.2.cell 8⟩

set_option maxRecDepth 100000 in
set_option maxHeartbeats 4000000 in
theorem rpmcheck_any (p : Pl.PM) (w : World) : Calls Try.prog 33 #[pmV p] w fun e w' => e = .returned (.int .i64 (Pl.chk p)) ∧ Below w.heap.size w w' := by
  have SZ := fun W => rsz_any p.k W
  have IN := Lib.hid rin33_any
  have RQ := fun W => rreq_any p.k W
  have ST := fun W => rst_any p.se p.na W
  have R0 := Rb.mk w p
  have LD := bel_bx' w (.cells (pmA p) 33)
  by_cases s0 : Pl.szOf p.k = 0
  · have e : Pl.chk p = 8 := by unfold Pl.chk; rw [if_pos s0]
    rw [e]
    rw [s0] at SZ
    replace SZ := Lib.hid SZ
    replace R0 := Lib.hid R0
    clear s0 e RQ ST LD
    go_enter Try.func33, Try.ntmps33
    go_wp2_with fail
    refine (SZ.out _).mono ?_
    rintro _ w1 ⟨rfl, rfl⟩
    go_wp2_with fail
    go_ret
    exact ⟨rfl, R0.out.1⟩
  obtain ⟨S, hS⟩ : ∃ S, Pl.szOf p.k = S := ⟨_, rfl⟩
  rw [hS] at SZ
  have ts : (S == 0) = false := by simp; omega
  replace SZ := Lib.hid SZ
  have H3 : Pl.rngs p = false → Pl.chk p = 3 := fun h => by unfold Pl.chk; rw [if_neg s0, if_pos h]
  have HR : Hid (Pl.rngs p = true → Pl.chk p = if Pl.answ p.k = false ∧ ¬ (p.rc = 0 ∧ p.rp = 0) then 7 else if p.k ≠ 11 ∧ Pl.annz p = false then 7 else 0) := Lib.hid (fun hr => by
    unfold Pl.chk
    rw [if_neg s0, if_neg (by rw [hr]; simp)])
  clear s0 hS LD
  cases h0 : Pl.inr p.d 0 255 with
  | false =>
    rw [H3 (by unfold Pl.rngs Pl.rows; rw [h0]; simp)]
    replace R0 := Lib.hid R0
    clear RQ H3 HR
    go_enter Try.func33, Try.ntmps33
    go_wp2_with fail
    refine (SZ.out _).mono ?_
    rintro _ w1 ⟨rfl, rfl⟩
    go_wp2_with (go_at_call 45; refine (IN.out _ _ _ _).mono ?_; rintro _ _ ⟨rfl, rfl⟩)
    go_ret
    exact ⟨rfl, R0.out.1⟩
  | true =>
  cases h1 : Pl.inr p.fl 0 65535 with
  | false =>
    rw [H3 (by unfold Pl.rngs Pl.rows; rw [h1]; simp)]
    replace R0 := Lib.hid R0
    clear RQ H3 HR
    go_enter Try.func33, Try.ntmps33
    go_wp2_with fail
    refine (SZ.out _).mono ?_
    rintro _ w1 ⟨rfl, rfl⟩
    go_wp2_with (go_at_call 45; refine (IN.out _ _ _ _).mono ?_; rintro _ _ ⟨rfl, rfl⟩)
    go_ret
    exact ⟨rfl, R0.out.1⟩
  | true =>
  cases h2 : Pl.inr p.po 0 65535 with
  | false =>
    rw [H3 (by unfold Pl.rngs Pl.rows; rw [h2]; simp)]
    replace R0 := Lib.hid R0
    clear RQ H3 HR
    go_enter Try.func33, Try.ntmps33
    go_wp2_with fail
    refine (SZ.out _).mono ?_
    rintro _ w1 ⟨rfl, rfl⟩
    go_wp2_with (go_at_call 45; refine (IN.out _ _ _ _).mono ?_; rintro _ _ ⟨rfl, rfl⟩)
    go_ret
    exact ⟨rfl, R0.out.1⟩
  | true =>
  cases h3 : Pl.inr p.sq 0 65535 with
  | false =>
    rw [H3 (by unfold Pl.rngs Pl.rows; rw [h3]; simp)]
    replace R0 := Lib.hid R0
    clear RQ H3 HR
    go_enter Try.func33, Try.ntmps33
    go_wp2_with fail
    refine (SZ.out _).mono ?_
    rintro _ w1 ⟨rfl, rfl⟩
    go_wp2_with (go_at_call 45; refine (IN.out _ _ _ _).mono ?_; rintro _ _ ⟨rfl, rfl⟩)
    go_ret
    exact ⟨rfl, R0.out.1⟩
  | true =>
  cases h4 : Pl.inr p.lg (-128) 127 with
  | false =>
    rw [H3 (by unfold Pl.rngs Pl.rows; rw [h4]; simp)]
    replace R0 := Lib.hid R0
    clear RQ H3 HR
    go_enter Try.func33, Try.ntmps33
    go_wp2_with fail
    refine (SZ.out _).mono ?_
    rintro _ w1 ⟨rfl, rfl⟩
    go_wp2_with (go_at_call 45; refine (IN.out _ _ _ _).mono ?_; rintro _ _ ⟨rfl, rfl⟩)
    go_ret
    exact ⟨rfl, R0.out.1⟩
  | true =>
  cases hst : Pl.stOk p.se p.na with
  | false =>
    rw [H3 (by unfold Pl.rngs; rw [hst]; simp)]
    replace ST : ∀ W, Calls Try.prog 46 #[.agg #[.int .i64 p.se, .int .i64 p.na]] W fun e w' => e = .returned (.int .i64 3) ∧ Below W.heap.size W w' := fun W => by
      have := ST W
      unfold Pl.stE at this
      rw [if_neg (by rw [hst]; simp)] at this
      exact this
    replace ST := Lib.hid ST
    replace R0 := Lib.hid R0
    clear RQ H3 HR hst
    go_enter Try.func33, Try.ntmps33
    go_wp2_with fail
    refine (SZ.out _).mono ?_
    rintro _ w1 ⟨rfl, rfl⟩
    go_wp2_with (go_at_call 45; refine (IN.out _ _ _ _).mono ?_; rintro _ _ ⟨rfl, rfl⟩)
    refine (ST.out _).mono ?_
    rintro _ w2 ⟨rfl, l2⟩
    replace R0 := R0.out.on l2
    have k11 : w2.cell? ⟨w.heap.size, 11, none⟩ = some (.int .i64 p.rp) := R0.2.1.cell 11
    have k10 : w2.cell? ⟨w.heap.size, 10, none⟩ = some (.int .u64 p.rc) := R0.2.1.cell 10
    have k0 : w2.cell? ⟨w.heap.size, 0, none⟩ = some (.int .i64 p.k) := R0.2.1.cell 0
    obtain ⟨y0, y1, y2, y3, y4, y5, y6, y7, y8⟩ := R0.an
    have kz := R0.2.1.lt
    have kz2 := R0.2.2.lt
    replace R0 := Lib.hid R0
    clear l2
    go_wp2_with (go_at_call 45; refine (IN.out _ _ _ _).mono ?_; rintro _ _ ⟨rfl, rfl⟩)
    go_ret
    exact ⟨rfl, R0.out.1⟩
  | true =>
  replace ST : ∀ W, Calls Try.prog 46 #[.agg #[.int .i64 p.se, .int .i64 p.na]] W fun e w' => e = .returned (.int .i64 0) ∧ Below W.heap.size W w' := fun W => by
    have := ST W
    unfold Pl.stE at this
    rw [if_pos hst] at this
    exact this
  replace ST := Lib.hid ST
  cases h6 : Pl.inr p.rp 0 65535 with
  | false =>
    rw [H3 (by unfold Pl.rngs Pl.rows; rw [h6]; simp)]
    replace R0 := Lib.hid R0
    clear RQ H3 HR
    go_enter Try.func33, Try.ntmps33
    go_wp2_with fail
    refine (SZ.out _).mono ?_
    rintro _ w1 ⟨rfl, rfl⟩
    go_wp2_with (go_at_call 45; refine (IN.out _ _ _ _).mono ?_; rintro _ _ ⟨rfl, rfl⟩)
    refine (ST.out _).mono ?_
    rintro _ w2 ⟨rfl, l2⟩
    replace R0 := R0.out.on l2
    have k11 : w2.cell? ⟨w.heap.size, 11, none⟩ = some (.int .i64 p.rp) := R0.2.1.cell 11
    have k10 : w2.cell? ⟨w.heap.size, 10, none⟩ = some (.int .u64 p.rc) := R0.2.1.cell 10
    have k0 : w2.cell? ⟨w.heap.size, 0, none⟩ = some (.int .i64 p.k) := R0.2.1.cell 0
    obtain ⟨y0, y1, y2, y3, y4, y5, y6, y7, y8⟩ := R0.an
    have kz := R0.2.1.lt
    have kz2 := R0.2.2.lt
    replace R0 := Lib.hid R0
    clear l2
    go_wp2_with (go_at_call 45; refine (IN.out _ _ _ _).mono ?_; rintro _ _ ⟨rfl, rfl⟩)
    go_ret
    exact ⟨rfl, R0.out.1⟩
  | true =>
  cases h7 : Pl.inr p.ut (-32768) 32767 with
  | false =>
    rw [H3 (by unfold Pl.rngs Pl.rows; rw [h7]; simp)]
    replace R0 := Lib.hid R0
    clear RQ H3 HR
    go_enter Try.func33, Try.ntmps33
    go_wp2_with fail
    refine (SZ.out _).mono ?_
    rintro _ w1 ⟨rfl, rfl⟩
    go_wp2_with (go_at_call 45; refine (IN.out _ _ _ _).mono ?_; rintro _ _ ⟨rfl, rfl⟩)
    refine (ST.out _).mono ?_
    rintro _ w2 ⟨rfl, l2⟩
    replace R0 := R0.out.on l2
    have k11 : w2.cell? ⟨w.heap.size, 11, none⟩ = some (.int .i64 p.rp) := R0.2.1.cell 11
    have k10 : w2.cell? ⟨w.heap.size, 10, none⟩ = some (.int .u64 p.rc) := R0.2.1.cell 10
    have k0 : w2.cell? ⟨w.heap.size, 0, none⟩ = some (.int .i64 p.k) := R0.2.1.cell 0
    obtain ⟨y0, y1, y2, y3, y4, y5, y6, y7, y8⟩ := R0.an
    have kz := R0.2.1.lt
    have kz2 := R0.2.2.lt
    replace R0 := Lib.hid R0
    clear l2
    go_wp2_with (go_at_call 45; refine (IN.out _ _ _ _).mono ?_; rintro _ _ ⟨rfl, rfl⟩)
    go_ret
    exact ⟨rfl, R0.out.1⟩
  | true =>
  cases h8 : Pl.inr p.p1 0 255 with
  | false =>
    rw [H3 (by unfold Pl.rngs Pl.rows; rw [h8]; simp)]
    replace R0 := Lib.hid R0
    clear RQ H3 HR
    go_enter Try.func33, Try.ntmps33
    go_wp2_with fail
    refine (SZ.out _).mono ?_
    rintro _ w1 ⟨rfl, rfl⟩
    go_wp2_with (go_at_call 45; refine (IN.out _ _ _ _).mono ?_; rintro _ _ ⟨rfl, rfl⟩)
    refine (ST.out _).mono ?_
    rintro _ w2 ⟨rfl, l2⟩
    replace R0 := R0.out.on l2
    have k11 : w2.cell? ⟨w.heap.size, 11, none⟩ = some (.int .i64 p.rp) := R0.2.1.cell 11
    have k10 : w2.cell? ⟨w.heap.size, 10, none⟩ = some (.int .u64 p.rc) := R0.2.1.cell 10
    have k0 : w2.cell? ⟨w.heap.size, 0, none⟩ = some (.int .i64 p.k) := R0.2.1.cell 0
    obtain ⟨y0, y1, y2, y3, y4, y5, y6, y7, y8⟩ := R0.an
    have kz := R0.2.1.lt
    have kz2 := R0.2.2.lt
    replace R0 := Lib.hid R0
    clear l2
    go_wp2_with (go_at_call 45; refine (IN.out _ _ _ _).mono ?_; rintro _ _ ⟨rfl, rfl⟩)
    go_ret
    exact ⟨rfl, R0.out.1⟩
  | true =>
  cases h9 : Pl.inr p.cl 0 255 with
  | false =>
    rw [H3 (by unfold Pl.rngs Pl.rows; rw [h9]; simp)]
    replace R0 := Lib.hid R0
    clear RQ H3 HR
    go_enter Try.func33, Try.ntmps33
    go_wp2_with fail
    refine (SZ.out _).mono ?_
    rintro _ w1 ⟨rfl, rfl⟩
    go_wp2_with (go_at_call 45; refine (IN.out _ _ _ _).mono ?_; rintro _ _ ⟨rfl, rfl⟩)
    refine (ST.out _).mono ?_
    rintro _ w2 ⟨rfl, l2⟩
    replace R0 := R0.out.on l2
    have k11 : w2.cell? ⟨w.heap.size, 11, none⟩ = some (.int .i64 p.rp) := R0.2.1.cell 11
    have k10 : w2.cell? ⟨w.heap.size, 10, none⟩ = some (.int .u64 p.rc) := R0.2.1.cell 10
    have k0 : w2.cell? ⟨w.heap.size, 0, none⟩ = some (.int .i64 p.k) := R0.2.1.cell 0
    obtain ⟨y0, y1, y2, y3, y4, y5, y6, y7, y8⟩ := R0.an
    have kz := R0.2.1.lt
    have kz2 := R0.2.2.lt
    replace R0 := Lib.hid R0
    clear l2
    go_wp2_with (go_at_call 45; refine (IN.out _ _ _ _).mono ?_; rintro _ _ ⟨rfl, rfl⟩)
    go_ret
    exact ⟨rfl, R0.out.1⟩
  | true =>
  cases h10 : Pl.inr p.ac 0 255 with
  | false =>
    rw [H3 (by unfold Pl.rngs Pl.rows; rw [h10]; simp)]
    replace R0 := Lib.hid R0
    clear RQ H3 HR
    go_enter Try.func33, Try.ntmps33
    go_wp2_with fail
    refine (SZ.out _).mono ?_
    rintro _ w1 ⟨rfl, rfl⟩
    go_wp2_with (go_at_call 45; refine (IN.out _ _ _ _).mono ?_; rintro _ _ ⟨rfl, rfl⟩)
    refine (ST.out _).mono ?_
    rintro _ w2 ⟨rfl, l2⟩
    replace R0 := R0.out.on l2
    have k11 : w2.cell? ⟨w.heap.size, 11, none⟩ = some (.int .i64 p.rp) := R0.2.1.cell 11
    have k10 : w2.cell? ⟨w.heap.size, 10, none⟩ = some (.int .u64 p.rc) := R0.2.1.cell 10
    have k0 : w2.cell? ⟨w.heap.size, 0, none⟩ = some (.int .i64 p.k) := R0.2.1.cell 0
    obtain ⟨y0, y1, y2, y3, y4, y5, y6, y7, y8⟩ := R0.an
    have kz := R0.2.1.lt
    have kz2 := R0.2.2.lt
    replace R0 := Lib.hid R0
    clear l2
    go_wp2_with (go_at_call 45; refine (IN.out _ _ _ _).mono ?_; rintro _ _ ⟨rfl, rfl⟩)
    go_ret
    exact ⟨rfl, R0.out.1⟩
  | true =>
  cases h11 : Pl.inr p.va 0 65535 with
  | false =>
    rw [H3 (by unfold Pl.rngs Pl.rows; rw [h11]; simp)]
    replace R0 := Lib.hid R0
    clear RQ H3 HR
    go_enter Try.func33, Try.ntmps33
    go_wp2_with fail
    refine (SZ.out _).mono ?_
    rintro _ w1 ⟨rfl, rfl⟩
    go_wp2_with (go_at_call 45; refine (IN.out _ _ _ _).mono ?_; rintro _ _ ⟨rfl, rfl⟩)
    refine (ST.out _).mono ?_
    rintro _ w2 ⟨rfl, l2⟩
    replace R0 := R0.out.on l2
    have k11 : w2.cell? ⟨w.heap.size, 11, none⟩ = some (.int .i64 p.rp) := R0.2.1.cell 11
    have k10 : w2.cell? ⟨w.heap.size, 10, none⟩ = some (.int .u64 p.rc) := R0.2.1.cell 10
    have k0 : w2.cell? ⟨w.heap.size, 0, none⟩ = some (.int .i64 p.k) := R0.2.1.cell 0
    obtain ⟨y0, y1, y2, y3, y4, y5, y6, y7, y8⟩ := R0.an
    have kz := R0.2.1.lt
    have kz2 := R0.2.2.lt
    replace R0 := Lib.hid R0
    clear l2
    go_wp2_with (go_at_call 45; refine (IN.out _ _ _ _).mono ?_; rintro _ _ ⟨rfl, rfl⟩)
    go_ret
    exact ⟨rfl, R0.out.1⟩
  | true =>
  cases h12 : Pl.inr p.p2 0 255 with
  | false =>
    rw [H3 (by unfold Pl.rngs Pl.rows; rw [h12]; simp)]
    replace R0 := Lib.hid R0
    clear RQ H3 HR
    go_enter Try.func33, Try.ntmps33
    go_wp2_with fail
    refine (SZ.out _).mono ?_
    rintro _ w1 ⟨rfl, rfl⟩
    go_wp2_with (go_at_call 45; refine (IN.out _ _ _ _).mono ?_; rintro _ _ ⟨rfl, rfl⟩)
    refine (ST.out _).mono ?_
    rintro _ w2 ⟨rfl, l2⟩
    replace R0 := R0.out.on l2
    have k11 : w2.cell? ⟨w.heap.size, 11, none⟩ = some (.int .i64 p.rp) := R0.2.1.cell 11
    have k10 : w2.cell? ⟨w.heap.size, 10, none⟩ = some (.int .u64 p.rc) := R0.2.1.cell 10
    have k0 : w2.cell? ⟨w.heap.size, 0, none⟩ = some (.int .i64 p.k) := R0.2.1.cell 0
    obtain ⟨y0, y1, y2, y3, y4, y5, y6, y7, y8⟩ := R0.an
    have kz := R0.2.1.lt
    have kz2 := R0.2.2.lt
    replace R0 := Lib.hid R0
    clear l2
    go_wp2_with (go_at_call 45; refine (IN.out _ _ _ _).mono ?_; rintro _ _ ⟨rfl, rfl⟩)
    go_ret
    exact ⟨rfl, R0.out.1⟩
  | true =>
  cases h13 : Pl.inr p.st 0 65535 with
  | false =>
    rw [H3 (by unfold Pl.rngs Pl.rows; rw [h13]; simp)]
    replace R0 := Lib.hid R0
    clear RQ H3 HR
    go_enter Try.func33, Try.ntmps33
    go_wp2_with fail
    refine (SZ.out _).mono ?_
    rintro _ w1 ⟨rfl, rfl⟩
    go_wp2_with (go_at_call 45; refine (IN.out _ _ _ _).mono ?_; rintro _ _ ⟨rfl, rfl⟩)
    refine (ST.out _).mono ?_
    rintro _ w2 ⟨rfl, l2⟩
    replace R0 := R0.out.on l2
    have k11 : w2.cell? ⟨w.heap.size, 11, none⟩ = some (.int .i64 p.rp) := R0.2.1.cell 11
    have k10 : w2.cell? ⟨w.heap.size, 10, none⟩ = some (.int .u64 p.rc) := R0.2.1.cell 10
    have k0 : w2.cell? ⟨w.heap.size, 0, none⟩ = some (.int .i64 p.k) := R0.2.1.cell 0
    obtain ⟨y0, y1, y2, y3, y4, y5, y6, y7, y8⟩ := R0.an
    have kz := R0.2.1.lt
    have kz2 := R0.2.2.lt
    replace R0 := Lib.hid R0
    clear l2
    go_wp2_with (go_at_call 45; refine (IN.out _ _ _ _).mono ?_; rintro _ _ ⟨rfl, rfl⟩)
    go_ret
    exact ⟨rfl, R0.out.1⟩
  | true =>
  cases h14 : Pl.inr p.so 0 255 with
  | false =>
    rw [H3 (by unfold Pl.rngs Pl.rows; rw [h14]; simp)]
    replace R0 := Lib.hid R0
    clear RQ H3 HR
    go_enter Try.func33, Try.ntmps33
    go_wp2_with fail
    refine (SZ.out _).mono ?_
    rintro _ w1 ⟨rfl, rfl⟩
    go_wp2_with (go_at_call 45; refine (IN.out _ _ _ _).mono ?_; rintro _ _ ⟨rfl, rfl⟩)
    refine (ST.out _).mono ?_
    rintro _ w2 ⟨rfl, l2⟩
    replace R0 := R0.out.on l2
    have k11 : w2.cell? ⟨w.heap.size, 11, none⟩ = some (.int .i64 p.rp) := R0.2.1.cell 11
    have k10 : w2.cell? ⟨w.heap.size, 10, none⟩ = some (.int .u64 p.rc) := R0.2.1.cell 10
    have k0 : w2.cell? ⟨w.heap.size, 0, none⟩ = some (.int .i64 p.k) := R0.2.1.cell 0
    obtain ⟨y0, y1, y2, y3, y4, y5, y6, y7, y8⟩ := R0.an
    have kz := R0.2.1.lt
    have kz2 := R0.2.2.lt
    replace R0 := Lib.hid R0
    clear l2
    go_wp2_with (go_at_call 45; refine (IN.out _ _ _ _).mono ?_; rintro _ _ ⟨rfl, rfl⟩)
    go_ret
    exact ⟨rfl, R0.out.1⟩
  | true =>
  have hr : Pl.rngs p = true := by
    unfold Pl.rngs Pl.rows
    rw [h0, h1, h2, h3, h4, hst, h6, h7, h8, h9, h10, h11, h12, h13, h14]
    rfl
  replace HR := Lib.hid (HR.out hr)
  clear H3 hr hst
  cases ha : Pl.answ p.k with
  | true =>
    replace HR : Hid (Pl.chk p = if p.k ≠ 11 ∧ Pl.annz p = false then 7 else 0) := Lib.hid (by rw [HR.out, ha]; simp)
    rw [ha] at RQ
    replace RQ := Lib.hid RQ
    replace R0 := Lib.hid R0
    clear ha
    go_enter Try.func33, Try.ntmps33
    go_wp2_with fail
    refine (SZ.out _).mono ?_
    rintro _ w1 ⟨rfl, rfl⟩
    go_wp2_with (go_at_call 45; refine (IN.out _ _ _ _).mono ?_; rintro _ _ ⟨rfl, rfl⟩)
    refine (ST.out _).mono ?_
    rintro _ w2 ⟨rfl, l2⟩
    replace R0 := R0.out.on l2
    have k11 : w2.cell? ⟨w.heap.size, 11, none⟩ = some (.int .i64 p.rp) := R0.2.1.cell 11
    have k10 : w2.cell? ⟨w.heap.size, 10, none⟩ = some (.int .u64 p.rc) := R0.2.1.cell 10
    have k0 : w2.cell? ⟨w.heap.size, 0, none⟩ = some (.int .i64 p.k) := R0.2.1.cell 0
    obtain ⟨y0, y1, y2, y3, y4, y5, y6, y7, y8⟩ := R0.an
    have kz := R0.2.1.lt
    have kz2 := R0.2.2.lt
    replace R0 := Lib.hid R0
    clear l2
    go_wp2_with (go_at_call 45; refine (IN.out _ _ _ _).mono ?_; rintro _ _ ⟨rfl, rfl⟩)
    refine (RQ.out _).mono ?_
    rintro _ w3 ⟨rfl, rfl⟩
    go_wp2_with fail
    all_goals (go_ret; exact ⟨congrArg Ending.returned (congrArg (Value.int .i64) (by go_light; rw [HR.out]; first | (simp [Pl.annz, *]; done) | (simp_all [Pl.annz]; done))), R0.out.1⟩)
  | false =>
    replace HR : Hid (Pl.chk p = if ¬ (p.rc = 0 ∧ p.rp = 0) then 7 else if p.k ≠ 11 ∧ Pl.annz p = false then 7 else 0) := Lib.hid (by rw [HR.out, ha]; simp)
    rw [ha] at RQ
    replace RQ := Lib.hid RQ
    replace R0 := Lib.hid R0
    clear ha
    go_enter Try.func33, Try.ntmps33
    go_wp2_with fail
    refine (SZ.out _).mono ?_
    rintro _ w1 ⟨rfl, rfl⟩
    go_wp2_with (go_at_call 45; refine (IN.out _ _ _ _).mono ?_; rintro _ _ ⟨rfl, rfl⟩)
    refine (ST.out _).mono ?_
    rintro _ w2 ⟨rfl, l2⟩
    replace R0 := R0.out.on l2
    have k11 : w2.cell? ⟨w.heap.size, 11, none⟩ = some (.int .i64 p.rp) := R0.2.1.cell 11
    have k10 : w2.cell? ⟨w.heap.size, 10, none⟩ = some (.int .u64 p.rc) := R0.2.1.cell 10
    have k0 : w2.cell? ⟨w.heap.size, 0, none⟩ = some (.int .i64 p.k) := R0.2.1.cell 0
    obtain ⟨y0, y1, y2, y3, y4, y5, y6, y7, y8⟩ := R0.an
    have kz := R0.2.1.lt
    have kz2 := R0.2.2.lt
    replace R0 := Lib.hid R0
    clear l2
    go_wp2_with (go_at_call 45; refine (IN.out _ _ _ _).mono ?_; rintro _ _ ⟨rfl, rfl⟩)
    refine (RQ.out _).mono ?_
    rintro _ w3 ⟨rfl, rfl⟩
    go_wp2_with fail
    all_goals (go_ret; exact ⟨congrArg Ending.returned (congrArg (Value.int .i64) (by go_light; rw [HR.out]; first | (simp [Pl.annz, *]; done) | (simp_all [Pl.annz]; done))), R0.out.1⟩)
end Go.Proofs.Ytnlfkafebbfenaa
