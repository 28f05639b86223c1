/- The reference's Follow at whatever message. -/
import Derived.Test.YtmdfbcabpmadgaaP2pR6
namespace Go.Proofs.Ytmdfbcabpmadgaa
open Go.RowKit Go.Lib Go.Maps
set_option maxHeartbeats 4000000 in
set_option maxRecDepth 100000 in
theorem yfol_any (B b : Nat) (y : Pl.YS) (a : Option Addr) (n c : Nat) (ds : List Int) (p : Pl.PM) (ck po : Int) (w : World) (hy : Blk w b 74 (yA y (.slice a n c))) (hB : B ≤ w.heap.size) (hown : w.ownsRow B 3 1 (.slice a n c) n (ds.map (Value.int .i64))) (hpc : -9223372036854775808 ≤ p.co ∧ p.co ≤ 9223372036854775807) (hok : Pl.YOk y) (hn : n ≤ 8) :
    Calls Try.prog 20 #[.pointer (some ⟨b, 0, none⟩), pmV p, .int .u64 ck, .int .i64 po] w fun e w' => e = .returned (.int .i64 (Pl.folEY y p ck po)) ∧ ∃ (a' : Option Addr) (n' c' : Nat), Blk w' b 74 (yA (Pl.folY y p ck po) (.slice a' n' c')) ∧ w'.ownsRow B 3 1 (.slice a' n' c') n' ((Pl.folD y p ck po ds).map (Value.int .i64)) ∧ Gr2 w w' b (Value.slice a n c).ownBlock := by
  have hlen : ds.length = n := by
    have := hown.1
    simpa using this
  unfold Pl.folY Pl.folD
  by_cases hc : Pl.comE p 10 y.dom = 0
  · by_cases hm : Pl.mineFY y p ck po = true
    · cases hi : Pl.insB p with
      | true =>
        have e : Pl.folEY y p ck po = 0 := by unfold Pl.folEY; rw [if_pos hc, if_pos hm, if_pos hi]
        rw [e, if_pos rfl, if_pos rfl]
        unfold Pl.newD
        by_cases h8 : n < 8
        · rw [if_pos (by omega)]
          refine (yfol_short B b y a n c ds p ck po w hy hB hown hpc hok hc hm hi h8).mono ?_
          rintro _ w' ⟨rfl, a', c', k1, k2, k3⟩
          exact ⟨rfl, a', _, c', k1, k2, k3⟩
        · obtain rfl : n = 8 := by omega
          rw [if_neg (by omega)]
          refine (yfol_long B b y a c ds p ck po w hy hB hown hpc hok hc hm hi).mono ?_
          rintro _ w' ⟨rfl, a', c', k1, k2, k3⟩
          exact ⟨rfl, a', _, c', k1, k2, k3⟩
      | false =>
        have e : Pl.folEY y p ck po = 3 := by unfold Pl.folEY; rw [if_pos hc, if_pos hm, if_neg (by simp [hi])]
        rw [e, if_neg (by decide), if_neg (by decide)]
        have CM := rsuits_any b y (.slice a n c) p 10 (w.alloc (.cells (pmA p) 38)) (hy.alloc _)
        rw [hc] at CM
        replace CM : Hid (∀ W, W = w.alloc (.cells (pmA p) 38) → Calls Try.prog 34 #[.pointer (some ⟨b, 0, none⟩), pmV p, .int .i64 10] W fun e w' => e = .returned (.int .i64 0) ∧ Below W.heap.size W w') := Lib.hid (by rintro _ rfl; exact CM)
        have IN := fun W => rinstant_any p W
        rw [hi] at IN
        obtain ⟨V, hV⟩ : ∃ V, Pl.tmN p.se p.na - 3900000000000000000 = V := ⟨_, rfl⟩
        rw [hV] at IN
        replace IN := Lib.hid IN
        have hm' := hm
        unfold Pl.mineFY at hm'
        simp only [Bool.and_eq_true, beq_iff_eq] at hm'
        obtain ⟨⟨⟨⟨⟨m1, m2⟩, m3⟩, m4⟩, m5⟩, m6⟩ := hm'
        have u1 : (!y.wt) = false := by simp [m1]
        have u2 : (p.sq != y.rs.sq) = false := by simp [m2]
        have u3 : (p.ck != y.rs.ck) = false := by simp [m3]
        have u4 : (p.po != y.rs.po) = false := by simp [m4]
        have u5 : (p.rc != ck) = false := by simp [m5]
        have u6 : (p.rp != po) = false := by simp [m6]
        have K0 := one_mk w 38 (pmA p)
        have K0b := K0.2
        have Y0 := Lib.hid (hy.alloc (.cells (pmA p) 38))
        have hbz := hy.lt
        have O0 := Lib.hid hown
        clear e m1 m2 m3 m4 m5 m6 hm hc hi hy hown hB hok hpc hV hlen hn
        go_enter Try.func20, Try.ntmps20
        go_wp2_with (refine wpList_load_blk rfl 38 _ rfl w.heap.size rfl 38 (pmA p) _ K0b Try.underlying38 rfl (by kernel_rfl) ?_)
        refine (CM.out _ rfl).mono ?_
        rintro _ w1 ⟨rfl, l1⟩
        have K1 := K0.on l1
        have Y1 := Y0.out.below_ l1
        have hab : w.heap.size < w1.heap.size := K1.2.lt
        have hyb : b < w1.heap.size := Y1.lt
        have Y1b := Lib.hid Y1
        have A1 := Lib.hid (Blk.new w1 38 zA2)
        have H1 := Lib.hid (K1.1.alloc K1.1.size (.cells zA2 38))
        have K1b := Lib.hid (K1.2.alloc (.cells zA2 38))
        have Y1c := Lib.hid (Y1.alloc (.cells zA2 38))
        clear l1 K0 K0b Y0 K1 Y1
        go_wp2_with (first | (refine wpList_load_in rfl 38 _ rfl b 5 rfl 74 (yA y (.slice a n c)) (pmA y.rs) _ Y1b.out (by kernel_rfl) Try.underlying38 rfl (by kernel_rfl) ?_) | (refine wpList_store_blk rfl 38 _ _ rfl w1.heap.size (pmA y.rs) rfl rfl 38 zA2 A1.out (by kernel_rfl) rfl (by kernel_rfl) ?_; intro W2 A2 HG; have H2 := Lib.hid (Below.only H1.out HG (Nat.le_of_lt hab) H1.out.size); have K2 := K1b.out.grown HG (fun e => by injection e with e; omega); have Y2 := Y1c.out.grown HG (fun e => by injection e with e; omega); have p3 : W2.cell? ⟨w.heap.size, 3, none⟩ = some (.int .i64 p.co) := K2.cell 3; have p4 : W2.cell? ⟨w.heap.size, 4, none⟩ = some (.int .u64 p.ck) := K2.cell 4; have p5 : W2.cell? ⟨w.heap.size, 5, none⟩ = some (.int .i64 p.po) := K2.cell 5; have p6 : W2.cell? ⟨w.heap.size, 6, none⟩ = some (.int .i64 p.sq) := K2.cell 6; have p8 : W2.cell? ⟨w.heap.size, 8, none⟩ = some (.int .i64 p.se) := K2.cell 8; have p9 : W2.cell? ⟨w.heap.size, 9, none⟩ = some (.int .i64 p.na) := K2.cell 9; have p10 : W2.cell? ⟨w.heap.size, 10, none⟩ = some (.int .u64 p.rc) := K2.cell 10; have p11 : W2.cell? ⟨w.heap.size, 11, none⟩ = some (.int .i64 p.rp) := K2.cell 11; have a3 : W2.cell? ⟨w1.heap.size, 3, none⟩ = some (.int .i64 y.rs.co) := A2.cell 3; have a4 : W2.cell? ⟨w1.heap.size, 4, none⟩ = some (.int .u64 y.rs.ck) := A2.cell 4; have a5 : W2.cell? ⟨w1.heap.size, 5, none⟩ = some (.int .i64 y.rs.po) := A2.cell 5; have a6 : W2.cell? ⟨w1.heap.size, 6, none⟩ = some (.int .i64 y.rs.sq) := A2.cell 6; have y4 : W2.cell? ⟨b, 4, none⟩ = some (.bool y.wt) := Y2.cell 4; have pz := K2.lt; have az := A2.lt; have yz := Y2.lt; clear HG H1 K1b Y1c Y1b A1; replace K2 := Lib.hid K2; replace A2 := Lib.hid A2; replace Y2 := Lib.hid Y2) | fail)
        refine (IN.out _).mono ?_
        rintro _ w3 ⟨rfl, l3⟩
        have Y3 := Y2.out.below_ l3
        have H3 := bel_on H2.out l3
        clear p3 p4 p5 p6 p8 p9 p10 p11 a3 a4 a5 a6 y4 pz az yz l3 K2 A2 Y2 H2
        go_wp2_with fail
        go_ret
        exact ⟨rfl, a, n, c, Y3, O0.out.kept (only_of_below H3 none) (by cases a <;> simp [Value.ownBlock]), Gr2.of_below H3⟩
    · have e : Pl.folEY y p ck po = 11 := by unfold Pl.folEY; rw [if_pos hc, if_neg hm]
      rw [e, if_neg (by decide), if_neg (by decide)]
      have CM := rsuits_any b y (.slice a n c) p 10 (w.alloc (.cells (pmA p) 38)) (hy.alloc _)
      rw [hc] at CM
      replace CM : Hid (∀ W, W = w.alloc (.cells (pmA p) 38) → Calls Try.prog 34 #[.pointer (some ⟨b, 0, none⟩), pmV p, .int .i64 10] W fun e w' => e = .returned (.int .i64 0) ∧ Below W.heap.size W w') := Lib.hid (by rintro _ rfl; exact CM)
      have hcas : (!y.wt) = true ∨ ((!y.wt) = false ∧ (p.sq != y.rs.sq) = true) ∨ ((!y.wt) = false ∧ (p.sq != y.rs.sq) = false ∧ (p.ck != y.rs.ck) = true) ∨ ((!y.wt) = false ∧ (p.sq != y.rs.sq) = false ∧ (p.ck != y.rs.ck) = false ∧ (p.po != y.rs.po) = true)
          ∨ ((!y.wt) = false ∧ (p.sq != y.rs.sq) = false ∧ (p.ck != y.rs.ck) = false ∧ (p.po != y.rs.po) = false ∧ (p.rc != ck) = true) ∨ ((!y.wt) = false ∧ (p.sq != y.rs.sq) = false ∧ (p.ck != y.rs.ck) = false ∧ (p.po != y.rs.po) = false ∧ (p.rc != ck) = false ∧ (p.rp != po) = true) := by
        unfold Pl.mineFY at hm
        cases a1 : y.wt <;> simp [a1] at hm ⊢
        by_cases a2 : p.sq = y.rs.sq <;> simp [a2] at hm ⊢
        by_cases a3 : p.ck = y.rs.ck <;> simp [a3] at hm ⊢
        by_cases a4 : p.po = y.rs.po <;> simp [a4] at hm ⊢
        by_cases a5 : p.rc = ck <;> simp [a5] at hm ⊢
        exact hm
      have K0 := one_mk w 38 (pmA p)
      have K0b := K0.2
      have Y0 := Lib.hid (hy.alloc (.cells (pmA p) 38))
      have hbz := hy.lt
      have O0 := Lib.hid hown
      clear e hm hc hy hown hB hok hpc hlen hn
      rcases hcas with u1 | ⟨u1, u2⟩ | ⟨u1, u2, u3⟩ | ⟨u1, u2, u3, u4⟩ | ⟨u1, u2, u3, u4, u5⟩ | ⟨u1, u2, u3, u4, u5, u6⟩
      all_goals (
        go_enter Try.func20, Try.ntmps20
        go_wp2_with (refine wpList_load_blk rfl 38 _ rfl w.heap.size rfl 38 (pmA p) _ K0b Try.underlying38 rfl (by kernel_rfl) ?_)
        refine (CM.out _ rfl).mono ?_
        rintro _ w1 ⟨rfl, l1⟩
        have K1 := K0.on l1
        have Y1 := Y0.out.below_ l1
        have hab : w.heap.size < w1.heap.size := K1.2.lt
        have hyb : b < w1.heap.size := Y1.lt
        have Y1b := Lib.hid Y1
        have A1 := Lib.hid (Blk.new w1 38 zA2)
        have H1 := Lib.hid (K1.1.alloc K1.1.size (.cells zA2 38))
        have K1b := Lib.hid (K1.2.alloc (.cells zA2 38))
        have Y1c := Lib.hid (Y1.alloc (.cells zA2 38))
        clear l1 K0 K0b Y0 K1 Y1
        go_wp2_with (first | (refine wpList_load_in rfl 38 _ rfl b 5 rfl 74 (yA y (.slice a n c)) (pmA y.rs) _ Y1b.out (by kernel_rfl) Try.underlying38 rfl (by kernel_rfl) ?_) | (refine wpList_store_blk rfl 38 _ _ rfl w1.heap.size (pmA y.rs) rfl rfl 38 zA2 A1.out (by kernel_rfl) rfl (by kernel_rfl) ?_; intro W2 A2 HG; have H2 := Lib.hid (Below.only H1.out HG (Nat.le_of_lt hab) H1.out.size); have K2 := K1b.out.grown HG (fun e => by injection e with e; omega); have Y2 := Y1c.out.grown HG (fun e => by injection e with e; omega); have p3 : W2.cell? ⟨w.heap.size, 3, none⟩ = some (.int .i64 p.co) := K2.cell 3; have p4 : W2.cell? ⟨w.heap.size, 4, none⟩ = some (.int .u64 p.ck) := K2.cell 4; have p5 : W2.cell? ⟨w.heap.size, 5, none⟩ = some (.int .i64 p.po) := K2.cell 5; have p6 : W2.cell? ⟨w.heap.size, 6, none⟩ = some (.int .i64 p.sq) := K2.cell 6; have p8 : W2.cell? ⟨w.heap.size, 8, none⟩ = some (.int .i64 p.se) := K2.cell 8; have p9 : W2.cell? ⟨w.heap.size, 9, none⟩ = some (.int .i64 p.na) := K2.cell 9; have p10 : W2.cell? ⟨w.heap.size, 10, none⟩ = some (.int .u64 p.rc) := K2.cell 10; have p11 : W2.cell? ⟨w.heap.size, 11, none⟩ = some (.int .i64 p.rp) := K2.cell 11; have a3 : W2.cell? ⟨w1.heap.size, 3, none⟩ = some (.int .i64 y.rs.co) := A2.cell 3; have a4 : W2.cell? ⟨w1.heap.size, 4, none⟩ = some (.int .u64 y.rs.ck) := A2.cell 4; have a5 : W2.cell? ⟨w1.heap.size, 5, none⟩ = some (.int .i64 y.rs.po) := A2.cell 5; have a6 : W2.cell? ⟨w1.heap.size, 6, none⟩ = some (.int .i64 y.rs.sq) := A2.cell 6; have y4 : W2.cell? ⟨b, 4, none⟩ = some (.bool y.wt) := Y2.cell 4; have pz := K2.lt; have az := A2.lt; have yz := Y2.lt; clear HG H1 K1b Y1c Y1b A1; replace K2 := Lib.hid K2; replace A2 := Lib.hid A2; replace Y2 := Lib.hid Y2) | fail)
        go_wp2_with fail
        go_ret
        exact ⟨rfl, a, n, c, Y2.out, O0.out.kept (only_of_below H2.out none) (by cases a <;> simp [Value.ownBlock]), Gr2.of_below H2.out⟩)
  · have e : Pl.folEY y p ck po = Pl.comE p 10 y.dom := by unfold Pl.folEY; rw [if_neg hc]
    rw [e, if_neg hc, if_neg hc]
    have CM := rsuits_any b y (.slice a n c) p 10 (w.alloc (.cells (pmA p) 38)) (hy.alloc _)
    obtain ⟨C, hC⟩ : ∃ C, Pl.comE p 10 y.dom = C := ⟨_, rfl⟩
    rw [hC] at CM hc ⊢
    have t0 : (C != 0) = true := by simp [hc]
    replace CM : Hid (∀ W, W = w.alloc (.cells (pmA p) 38) → Calls Try.prog 34 #[.pointer (some ⟨b, 0, none⟩), pmV p, .int .i64 10] W fun e w' => e = .returned (.int .i64 C) ∧ Below W.heap.size W w') := Lib.hid (by rintro _ rfl; exact CM)
    have K0 := one_mk w 38 (pmA p)
    have K0b := K0.2
    have Y0 := Lib.hid (hy.alloc (.cells (pmA p) 38))
    have hbz := hy.lt
    have O0 := Lib.hid hown
    clear hc hC hy e hown hB hok hpc hlen hn
    go_enter Try.func20, Try.ntmps20
    go_wp2_with (refine wpList_load_blk rfl 38 _ rfl w.heap.size rfl 38 (pmA p) _ K0b Try.underlying38 rfl (by kernel_rfl) ?_)
    refine (CM.out _ rfl).mono ?_
    rintro _ w1 ⟨rfl, l1⟩
    have K1 := K0.on l1
    have Y1 := Y0.out.below_ l1
    clear l1 K0 K0b Y0
    go_wp2
    go_ret
    exact ⟨rfl, a, n, c, Y1, O0.out.kept (only_of_below K1.1 none) (by cases a <;> simp [Value.ownBlock]), Gr2.of_below K1.1⟩
end Go.Proofs.Ytmdfbcabpmadgaa
