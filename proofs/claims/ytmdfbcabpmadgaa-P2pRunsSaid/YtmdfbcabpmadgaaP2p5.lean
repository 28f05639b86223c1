/- The contracts of Follow, Delay and Ratio. -/
import Derived.Test.YtmdfbcabpmadgaaP2p4
namespace Go.Proofs.Ytmdfbcabpmadgaa
namespace Pl
def sumN (f : Nat → Int) : Nat → Int
  | 0 => 0
  | n + 1 => sumN f n + f n
theorem sumN_in {f : Nat → Int} {M : Int} (h : ∀ i, 0 ≤ f i ∧ f i ≤ M) (n : Nat) : 0 ≤ sumN f n ∧ sumN f n ≤ n * M := by
  induction n with
  | zero => simp [sumN]
  | succ n ih =>
    have := h n
    rw [sumN, Int.natCast_succ, Int.add_mul]
    omega
def nD (x : XS) : Nat := (min x.cnt 8).toNat
def delB (x : XS) : Bool := !(x.cnt == 0)
def delN (x : XS) : Int := if x.cnt = 0 then 0 else sumN x.dl (nD x) / (nD x : Int)
def ratB (x : XS) : Bool := decide (2 ≤ x.cnt) && decide (0 < x.l2 - x.f2)
def ratM (x : XS) : Int := md ((x.l1 - x.f1) - (x.l2 - x.f2)) 1000000000 (x.l2 - x.f2)
def ratN (x : XS) : Int := if ratB x = true then max (-500000) (min (ratM x) 500000) else 0
end Pl
open Go.RowKit Go.Lib Go.Maps

set_option maxHeartbeats 4000000 in
set_option maxRecDepth 100000 in
theorem pfol_any (b : Nat) (x : Pl.XS) (p : Pl.PM) (ck po : Int) (w : World) (hx : Blk w b 65 (xA x)) (hw : PmWf p) (hok : Pl.XOk x) : Calls Try.prog 14 #[.pointer (some ⟨b, 0, none⟩), pmV p, .int .u64 ck, .int .i64 po] w fun e w' => e = .returned (.int .i64 (Pl.folE x p ck po)) ∧ Blk w' b 65 (xA (Pl.folX x p ck po)) ∧ w.grownBy w' (some b) := by
  have CM := common_any b x p 10 (w.alloc (.cells (pmA p) 38)) (hx.alloc _) hw.k
  have K0 := one_mk w 38 (pmA p)
  have K0b := K0.2
  have X0 := Lib.hid (hx.alloc (.cells (pmA p) 38))
  have hbz := hx.lt
  unfold Pl.folX
  by_cases hc : Pl.comE p 10 x.dom = 0
  · by_cases hm : Pl.mineF x p ck po = true
    · cases hi : Pl.insB p with
      | true =>
        have e : Pl.folE x p ck po = 0 := by unfold Pl.folE; rw [if_pos hc, if_pos hm, if_pos hi]
        rw [e, if_pos rfl]
        exact pfol_ok b x p ck po w hx hw hok hc hm hi
      | false =>
        have e : Pl.folE x p ck po = 3 := by unfold Pl.folE; rw [if_pos hc, if_pos hm, if_neg (by simp [hi])]
        rw [e, if_neg (by decide)]
        rw [hc] at CM
        replace CM : Hid (∀ W, W = w.alloc (.cells (pmA p) 38) → Calls Try.prog 27 #[.pointer (some ⟨b, 0, none⟩), pmV p, .int .i64 10] W fun e w' => e = .returned (.int .i64 0) ∧ Below W.heap.size W w') := Lib.hid (by rintro _ rfl; exact CM)
        have IN := fun W => instant_any p W
        rw [hi] at IN
        replace IN := Lib.hid IN
        have hm' := hm
        unfold Pl.mineF at hm'
        simp only [Bool.and_eq_true, beq_iff_eq] at hm'
        obtain ⟨⟨⟨⟨⟨m1, m2⟩, m3⟩, m4⟩, m5⟩, m6⟩ := hm'
        have u1 : (!x.wt) = false := by simp [m1]
        have u2 : (p.sq != x.asq) = false := by simp [m2]
        have u3 : (p.ck != x.ac) = false := by simp [m3]
        have u4 : (p.po != x.ap) = false := by simp [m4]
        have u5 : (p.rc != ck) = false := by simp [m5]
        have u6 : (p.rp != po) = false := by simp [m6]
        clear m1 m2 m3 m4 m5 m6 hm hc hi hw hx e hok
        go_enter Try.func14, Try.ntmps14
        go_wp2_with (refine wpList_load_blk rfl 38 _ rfl w.heap.size rfl 38 (pmA p) _ K0b Try.underlying38 rfl (by kernel_rfl) ?_)
        refine (CM.out _ rfl).mono ?_
        rintro _ w1 ⟨rfl, l1⟩
        have K1 := K0.on l1
        have X1 := X0.out.below_ l1
        have x5 : w1.cell? ⟨b, 5, none⟩ = some (.int .u64 x.ac) := X1.cell 5
        have x6 : w1.cell? ⟨b, 6, none⟩ = some (.int .i64 x.ap) := X1.cell 6
        have x7 : w1.cell? ⟨b, 7, none⟩ = some (.int .i64 x.asq) := X1.cell 7
        have x8 : w1.cell? ⟨b, 8, none⟩ = some (.int .i64 x.aco) := X1.cell 8
        have x9 : w1.cell? ⟨b, 9, none⟩ = some (.int .i64 x.a1) := X1.cell 9
        have x10 : w1.cell? ⟨b, 10, none⟩ = some (.int .i64 x.a2) := X1.cell 10
        have x11 : w1.cell? ⟨b, 11, none⟩ = some (.int .i64 x.a4) := X1.cell 11
        have xz := X1.lt
        have K1b := K1.2.alloc (.cells #[.int .u64 x.ac, .int .i64 x.ap, .int .i64 x.asq, .int .i64 x.aco, .int .i64 x.a1, .int .i64 x.a2, .int .i64 x.a4] 61)
        have A1 := Blk.new w1 61 #[.int .u64 x.ac, .int .i64 x.ap, .int .i64 x.asq, .int .i64 x.aco, .int .i64 x.a1, .int .i64 x.a2, .int .i64 x.a4]
        have H1 := K1.1.alloc K1.1.size (.cells #[.int .u64 x.ac, .int .i64 x.ap, .int .i64 x.asq, .int .i64 x.aco, .int .i64 x.a1, .int .i64 x.a2, .int .i64 x.a4] 61)
        have X1b := Lib.hid (X1.alloc (.cells #[.int .u64 x.ac, .int .i64 x.ap, .int .i64 x.asq, .int .i64 x.aco, .int .i64 x.a1, .int .i64 x.a2, .int .i64 x.a4] 61))
        have hab : w.heap.size < w1.heap.size := K1.2.lt
        have hxa : b < w1.heap.size := X1.lt
        clear l1 K0 K0b X0 X1 K1
        go_wp2_with (refine wpList_load_blk rfl 38 _ rfl w.heap.size rfl 38 (pmA p) _ K1b Try.underlying38 rfl (by kernel_rfl) ?_)
        refine (IN.out _).mono ?_
        rintro _ w2 ⟨rfl, l2⟩
        have H2 := bel_on H1 l2
        have K2 := K1b.below_ l2
        have A2 := A1.below_ l2
        have X2 := X1b.out.below_ l2
        have p3 : w2.cell? ⟨w.heap.size, 3, none⟩ = some (.int .i64 p.co) := K2.cell 3
        have p4 : w2.cell? ⟨w.heap.size, 4, none⟩ = some (.int .u64 p.ck) := K2.cell 4
        have p5 : w2.cell? ⟨w.heap.size, 5, none⟩ = some (.int .i64 p.po) := K2.cell 5
        have p6 : w2.cell? ⟨w.heap.size, 6, none⟩ = some (.int .i64 p.sq) := K2.cell 6
        have p10 : w2.cell? ⟨w.heap.size, 10, none⟩ = some (.int .u64 p.rc) := K2.cell 10
        have p11 : w2.cell? ⟨w.heap.size, 11, none⟩ = some (.int .i64 p.rp) := K2.cell 11
        have pz := K2.lt
        have a0 : w2.cell? ⟨w1.heap.size, 0, none⟩ = some (.int .u64 x.ac) := A2.cell 0
        have a1 : w2.cell? ⟨w1.heap.size, 1, none⟩ = some (.int .i64 x.ap) := A2.cell 1
        have a2 : w2.cell? ⟨w1.heap.size, 2, none⟩ = some (.int .i64 x.asq) := A2.cell 2
        have a3 : w2.cell? ⟨w1.heap.size, 3, none⟩ = some (.int .i64 x.aco) := A2.cell 3
        have a4 : w2.cell? ⟨w1.heap.size, 4, none⟩ = some (.int .i64 x.a1) := A2.cell 4
        have a5 : w2.cell? ⟨w1.heap.size, 5, none⟩ = some (.int .i64 x.a2) := A2.cell 5
        have a6 : w2.cell? ⟨w1.heap.size, 6, none⟩ = some (.int .i64 x.a4) := A2.cell 6
        have az := A2.lt
        have x4 : w2.cell? ⟨b, 4, none⟩ = some (.bool x.wt) := X2.cell 4
        have xz := X2.lt
        clear l2 H1 K1b A1 X1b x5 x6 x7 x8 x9 x10 x11
        replace H2 := Lib.hid H2
        replace K2 := Lib.hid K2
        replace A2 := Lib.hid A2
        replace X2 := Lib.hid X2
        go_wp2
        go_ret
        exact ⟨rfl, X2.out, only_of_below H2.out _⟩
    · have e : Pl.folE x p ck po = 11 := by unfold Pl.folE; rw [if_pos hc, if_neg hm]
      rw [e, if_neg (by decide)]
      rw [hc] at CM
      replace CM : Hid (∀ W, W = w.alloc (.cells (pmA p) 38) → Calls Try.prog 27 #[.pointer (some ⟨b, 0, none⟩), pmV p, .int .i64 10] W fun e w' => e = .returned (.int .i64 0) ∧ Below W.heap.size W w') := Lib.hid (by rintro _ rfl; exact CM)
      have IN := fun W => instant_any p W
      replace IN := Lib.hid IN
      have hcas : (!x.wt) = true ∨ ((!x.wt) = false ∧ (p.sq != x.asq) = true) ∨ ((!x.wt) = false ∧ (p.sq != x.asq) = false ∧ (p.ck != x.ac) = true) ∨ ((!x.wt) = false ∧ (p.sq != x.asq) = false ∧ (p.ck != x.ac) = false ∧ (p.po != x.ap) = true)
          ∨ ((!x.wt) = false ∧ (p.sq != x.asq) = false ∧ (p.ck != x.ac) = false ∧ (p.po != x.ap) = false ∧ (p.rc != ck) = true) ∨ ((!x.wt) = false ∧ (p.sq != x.asq) = false ∧ (p.ck != x.ac) = false ∧ (p.po != x.ap) = false ∧ (p.rc != ck) = false ∧ (p.rp != po) = true) := by
        unfold Pl.mineF at hm
        cases a1 : x.wt <;> simp [a1] at hm ⊢
        by_cases a2 : p.sq = x.asq <;> simp [a2] at hm ⊢
        by_cases a3 : p.ck = x.ac <;> simp [a3] at hm ⊢
        by_cases a4 : p.po = x.ap <;> simp [a4] at hm ⊢
        by_cases a5 : p.rc = ck <;> simp [a5] at hm ⊢
        exact hm
      clear e hm hc hw hx hok
      rcases hcas with u1 | ⟨u1, u2⟩ | ⟨u1, u2, u3⟩ | ⟨u1, u2, u3, u4⟩ | ⟨u1, u2, u3, u4, u5⟩ | ⟨u1, u2, u3, u4, u5, u6⟩
      all_goals (
        go_enter Try.func14, Try.ntmps14
        go_wp2_with (refine wpList_load_blk rfl 38 _ rfl w.heap.size rfl 38 (pmA p) _ K0b Try.underlying38 rfl (by kernel_rfl) ?_)
        refine (CM.out _ rfl).mono ?_
        rintro _ w1 ⟨rfl, l1⟩
        have K1 := K0.on l1
        have X1 := X0.out.below_ l1
        have x5 : w1.cell? ⟨b, 5, none⟩ = some (.int .u64 x.ac) := X1.cell 5
        have x6 : w1.cell? ⟨b, 6, none⟩ = some (.int .i64 x.ap) := X1.cell 6
        have x7 : w1.cell? ⟨b, 7, none⟩ = some (.int .i64 x.asq) := X1.cell 7
        have x8 : w1.cell? ⟨b, 8, none⟩ = some (.int .i64 x.aco) := X1.cell 8
        have x9 : w1.cell? ⟨b, 9, none⟩ = some (.int .i64 x.a1) := X1.cell 9
        have x10 : w1.cell? ⟨b, 10, none⟩ = some (.int .i64 x.a2) := X1.cell 10
        have x11 : w1.cell? ⟨b, 11, none⟩ = some (.int .i64 x.a4) := X1.cell 11
        have xz := X1.lt
        have K1b := K1.2.alloc (.cells #[.int .u64 x.ac, .int .i64 x.ap, .int .i64 x.asq, .int .i64 x.aco, .int .i64 x.a1, .int .i64 x.a2, .int .i64 x.a4] 61)
        have A1 := Blk.new w1 61 #[.int .u64 x.ac, .int .i64 x.ap, .int .i64 x.asq, .int .i64 x.aco, .int .i64 x.a1, .int .i64 x.a2, .int .i64 x.a4]
        have H1 := K1.1.alloc K1.1.size (.cells #[.int .u64 x.ac, .int .i64 x.ap, .int .i64 x.asq, .int .i64 x.aco, .int .i64 x.a1, .int .i64 x.a2, .int .i64 x.a4] 61)
        have X1b := Lib.hid (X1.alloc (.cells #[.int .u64 x.ac, .int .i64 x.ap, .int .i64 x.asq, .int .i64 x.aco, .int .i64 x.a1, .int .i64 x.a2, .int .i64 x.a4] 61))
        have hab : w.heap.size < w1.heap.size := K1.2.lt
        have hxa : b < w1.heap.size := X1.lt
        clear l1 K0 K0b X0 X1 K1
        go_wp2_with (refine wpList_load_blk rfl 38 _ rfl w.heap.size rfl 38 (pmA p) _ K1b Try.underlying38 rfl (by kernel_rfl) ?_)
        refine (IN.out _).mono ?_
        rintro _ w2 ⟨rfl, l2⟩
        have H2 := bel_on H1 l2
        have K2 := K1b.below_ l2
        have A2 := A1.below_ l2
        have X2 := X1b.out.below_ l2
        have p3 : w2.cell? ⟨w.heap.size, 3, none⟩ = some (.int .i64 p.co) := K2.cell 3
        have p4 : w2.cell? ⟨w.heap.size, 4, none⟩ = some (.int .u64 p.ck) := K2.cell 4
        have p5 : w2.cell? ⟨w.heap.size, 5, none⟩ = some (.int .i64 p.po) := K2.cell 5
        have p6 : w2.cell? ⟨w.heap.size, 6, none⟩ = some (.int .i64 p.sq) := K2.cell 6
        have p10 : w2.cell? ⟨w.heap.size, 10, none⟩ = some (.int .u64 p.rc) := K2.cell 10
        have p11 : w2.cell? ⟨w.heap.size, 11, none⟩ = some (.int .i64 p.rp) := K2.cell 11
        have pz := K2.lt
        have a0 : w2.cell? ⟨w1.heap.size, 0, none⟩ = some (.int .u64 x.ac) := A2.cell 0
        have a1 : w2.cell? ⟨w1.heap.size, 1, none⟩ = some (.int .i64 x.ap) := A2.cell 1
        have a2 : w2.cell? ⟨w1.heap.size, 2, none⟩ = some (.int .i64 x.asq) := A2.cell 2
        have a3 : w2.cell? ⟨w1.heap.size, 3, none⟩ = some (.int .i64 x.aco) := A2.cell 3
        have a4 : w2.cell? ⟨w1.heap.size, 4, none⟩ = some (.int .i64 x.a1) := A2.cell 4
        have a5 : w2.cell? ⟨w1.heap.size, 5, none⟩ = some (.int .i64 x.a2) := A2.cell 5
        have a6 : w2.cell? ⟨w1.heap.size, 6, none⟩ = some (.int .i64 x.a4) := A2.cell 6
        have az := A2.lt
        have x4 : w2.cell? ⟨b, 4, none⟩ = some (.bool x.wt) := X2.cell 4
        have xz := X2.lt
        clear l2 H1 K1b A1 X1b x5 x6 x7 x8 x9 x10 x11
        replace H2 := Lib.hid H2
        replace K2 := Lib.hid K2
        replace A2 := Lib.hid A2
        replace X2 := Lib.hid X2
        go_wp2
        go_ret
        exact ⟨rfl, X2.out, only_of_below H2.out _⟩)
  · have e : Pl.folE x p ck po = Pl.comE p 10 x.dom := by unfold Pl.folE; rw [if_neg hc]
    rw [e, if_neg hc]
    obtain ⟨C, hC⟩ : ∃ C, Pl.comE p 10 x.dom = C := ⟨_, rfl⟩
    rw [hC] at CM hc ⊢
    have t0 : (C != 0) = true := by simp [hc]
    replace CM : Hid (∀ W, W = w.alloc (.cells (pmA p) 38) → Calls Try.prog 27 #[.pointer (some ⟨b, 0, none⟩), pmV p, .int .i64 10] W fun e w' => e = .returned (.int .i64 C) ∧ Below W.heap.size W w') := Lib.hid (by rintro _ rfl; exact CM)
    clear hc hC hw hx e hok
    go_enter Try.func14, Try.ntmps14
    go_wp2_with (refine wpList_load_blk rfl 38 _ rfl w.heap.size rfl 38 (pmA p) _ K0b Try.underlying38 rfl (by kernel_rfl) ?_)
    refine (CM.out _ rfl).mono ?_
    rintro _ w1 ⟨rfl, l1⟩
    have K1 := K0.on l1
    have X1 := X0.out.below_ l1
    clear l1 K0 K0b X0
    go_wp2
    go_ret
    exact ⟨rfl, X1, only_of_below K1.1 _⟩
set_option maxRecDepth 100000 in
theorem pfol_nil (p : Pl.PM) (ck po : Int) (w : World) : Calls Try.prog 14 #[.pointer none, pmV p, .int .u64 ck, .int .i64 po] w fun e w' => e = .returned (.int .i64 1) ∧ Below w.heap.size w w' := by
  have CM := fun W => common_nil p 10 W
  have K0 := one_mk w 38 (pmA p)
  have K0b := K0.2
  go_enter Try.func14, Try.ntmps14
  go_wp2_with (refine wpList_load_blk rfl 38 _ rfl w.heap.size rfl 38 (pmA p) _ K0b Try.underlying38 rfl (by kernel_rfl) ?_)
  refine (CM _).mono ?_
  rintro _ w1 ⟨rfl, l1⟩
  have K1 := K0.on l1
  clear l1
  go_wp2
  go_ret
  exact ⟨rfl, K1.1⟩
theorem pdel_nil (w : World) : Calls Try.prog 15 #[.pointer none] w fun e w' => e = .returned (.tuple #[.int .i64 0, .bool false]) ∧ w = w' := by
  go_enter Try.func15, Try.ntmps15
  go_wp2
  go_ret2
  exact ⟨rfl, rfl⟩
theorem prat_nil (w : World) : Calls Try.prog 22 #[.pointer none] w fun e w' => e = .returned (.tuple #[.int .i64 0, .bool false]) ∧ w = w' := by
  go_enter Try.func22, Try.ntmps22
  go_wp2
  go_ret2
  exact ⟨rfl, rfl⟩
end Go.Proofs.Ytmdfbcabpmadgaa
