/- The walk of ResidenceSums. -/
import Derived.Test.YtnlfkafebbfenaaResSum2
import Derived.Test.YtnlfkafebbfenaaRowGuard
import Derived.OpenShut
namespace Go.Proofs.Ytnlfkafebbfenaa
namespace Pl
/-- the elements as the law cuts them -/
def cutZ (z : Nat → Nat → Int) (i : Nat) : Nat → Int
  | 0 => IntKind.i32.wrap (z i 0)
  | 1 => IntKind.i32.wrap (z i 0) + IntKind.u32.wrap (z i 1)
  | 2 => (z i 2).tmod 500001
  | _ => IntKind.u32.wrap (z i 3)
theorem i32_in (x : Int) : -2147483648 ≤ IntKind.i32.wrap x ∧ IntKind.i32.wrap x ≤ 2147483647 := by
  have h := wf_wrap .i32 x
  have hmin : IntKind.i32.min = -2147483648 := rfl
  have hmax : IntKind.i32.max = 2147483647 := rfl
  simp only [Lit.wf, Bool.and_eq_true, decide_eq_true_eq] at h
  omega
theorem u32_in (x : Int) : 0 ≤ IntKind.u32.wrap x ∧ IntKind.u32.wrap x ≤ 4294967295 := by
  have h := wf_wrap .u32 x
  have hmin : IntKind.u32.min = 0 := rfl
  have hmax : IntKind.u32.max = 4294967295 := rfl
  simp only [Lit.wf, Bool.and_eq_true, decide_eq_true_eq] at h
  omega
theorem tm_in (x d : Int) (hd : 0 < d) : -d < x.tmod d ∧ x.tmod d < d := by
  rcases Int.lt_or_le x 0 with h | h
  · obtain ⟨n, rfl⟩ : ∃ n, x = -n := ⟨-x, by omega⟩
    rw [Int.neg_tmod, Int.tmod_eq_emod_of_nonneg (by omega)]
    have r1 := Int.emod_nonneg n (show d ≠ 0 by omega)
    have r2 := Int.emod_lt_of_pos n hd
    omega
  · rw [Int.tmod_eq_emod_of_nonneg h]
    have r1 := Int.emod_nonneg x (show d ≠ 0 by omega)
    have r2 := Int.emod_lt_of_pos x hd
    omega
theorem cut_good (z : Nat → Nat → Int) (i : Nat) : Good (cutZ z) i := by
  have a := i32_in (z i 0)
  have b := u32_in (z i 1)
  have c := tm_in (z i 2) 500001 (by omega)
  have d := u32_in (z i 3)
  refine ⟨a, ?_, ?_, d⟩
  · show IntKind.i32.wrap (z i 0) ≤ IntKind.i32.wrap (z i 0) + IntKind.u32.wrap (z i 1) ∧ IntKind.i32.wrap (z i 0) + IntKind.u32.wrap (z i 1) ≤ IntKind.i32.wrap (z i 0) + 4294967295
    omega
  · show -500000 ≤ (z i 2).tmod 500001 ∧ (z i 2).tmod 500001 ≤ 500000
    omega
def mixZ (z : Nat → Nat → Int) (k i j : Nat) : Int := if i < k then cutZ z i j else z i j
end Pl
open Go.RowKit Go.Lib
/-- while the elements are cut: k of them are -/
def Su (w W : World) (p : Pl.PM) (a : Option Addr) (n cap : Nat) (z : Nat → Nat → Int) (k : Nat) : Prop :=
  Below w.heap.size w W ∧ Blk W w.heap.size 33 (pmA p) ∧ Rows4 W (w.heap.size + 1) a n cap (Pl.mixZ z k)
theorem Su.next {w W : World} {p : Pl.PM} {g n cap k : Nat} {z : Nat → Nat → Int} {cur : Array Value} (h : Su w W p (some ⟨g, 0, none⟩) n cap z k) (hg : w.heap.size + 1 ≤ g) (hk : k < n) (HB : Blk W g 63 cur) (HC : Rws cur n (Pl.mixZ z k))
    {I O P L : Int} (e0 : Pl.cutZ z k 0 = I) (e1 : Pl.cutZ z k 1 = O) (e2 : Pl.cutZ z k 2 = P) (e3 : Pl.cutZ z k 3 = L) :
    Su w ((((W.setCell ⟨g, k * 4, none⟩ (.int .i64 I)).setCell ⟨g, k * 4 + 1, none⟩ (.int .i64 O)).setCell ⟨g, k * 4 + 2, none⟩ (.int .i64 P)).setCell ⟨g, k * 4 + 3, none⟩ (.int .i64 L)) p (some ⟨g, 0, none⟩) n cap z (k + 1) := by
  have hb := set4 HB (k * 4) (.int .i64 I) (.int .i64 O) (.int .i64 P) (.int .i64 L)
  have hc := rws_set HC hk (Pl.cutZ z k)
  rw [e0, e1, e2, e3] at hc
  refine ⟨bel4 h.1 (by omega) (k * 4) _ _ _ _, ?_, h.2.2.1, h.2.2.2.1, fun _ => ⟨g, _, rfl, hg, hb, fun i hi j hj => (hc i hi j hj).trans ?_⟩⟩
  · exact (((h.2.1.far (p := ⟨g, k * 4, none⟩) (by show w.heap.size ≠ g; omega) _).far (p := ⟨g, k * 4 + 1, none⟩) (by show w.heap.size ≠ g; omega) _).far (p := ⟨g, k * 4 + 2, none⟩) (by show w.heap.size ≠ g; omega) _).far (p := ⟨g, k * 4 + 3, none⟩) (by show w.heap.size ≠ g; omega) _
  · refine congrArg (fun v => some (Value.int .i64 v)) ?_
    show (if i = k then Pl.cutZ z k j else Pl.mixZ z k i j) = Pl.mixZ z (k + 1) i j
    unfold Pl.mixZ
    by_cases c : i = k
    · subst c
      rw [if_pos rfl, if_pos (by omega)]
    · rw [if_neg c]
      by_cases d : i < k
      · rw [if_pos d, if_pos (by omega)]
      · rw [if_neg d, if_neg (by omega)]
theorem Su.on {w W W' : World} {p : Pl.PM} {a : Option Addr} {n cap k : Nat} {z : Nat → Nat → Int} (h : Su w W p a n cap z k) (l : Below W.heap.size W W') : Su w W' p a n cap z k := ⟨bel_on h.1 l, h.2.1.below_ l, h.2.2.on l⟩
theorem Su.drew {w W : World} {p : Pl.PM} {a : Option Addr} {n cap k : Nat} {z : Nat → Nat → Int} (h : Su w W p a n cap z k) : Su w W.drew p a n cap z k := ⟨h.1.drew, h.2.1, h.2.2⟩
theorem Su.row {w W : World} {p : Pl.PM} {g n cap k : Nat} {z : Nat → Nat → Int} (h : Su w W p (some ⟨g, 0, none⟩) n cap z (k + 1)) (hk : k < n) (j : Nat) (hj : j < 4) : W.cell? ⟨g, k * 4 + j, none⟩ = some (.int .i64 (Pl.cutZ z k j)) := by
  obtain ⟨g', cur, h1, h2, h3, h4⟩ := h.2.2.2.2 (by omega)
  injection h1 with h1
  injection h1 with h1 _
  subst h1
  exact (h3.cell _).trans ((h4 k hk j hj).trans (by unfold Pl.mixZ; rw [if_pos (by omega)]))
theorem Su.row_lt {w W : World} {p : Pl.PM} {g n cap k : Nat} {z : Nat → Nat → Int} (h : Su w W p (some ⟨g, 0, none⟩) n cap z (k + 1)) (hk : k < n) : g < W.heap.size := by
  obtain ⟨g', cur, h1, h2, h3, h4⟩ := h.2.2.2.2 (by omega)
  injection h1 with h1
  injection h1 with h1 _
  subst h1
  exact h3.lt
theorem rows_fours {W : World} {B : Nat} {a : Option Addr} {n cap : Nat} {z : Nat → Nat → Int} (h : Rows4 W B a n cap z) (hw : ∀ i, i < n → ∀ j, j < 4 → (Lit.int .i64 (z i j)).wf = true) : Fours W a n z := fun i hi => by
  obtain ⟨g, cur, h1, h2, h3, h4⟩ := h.2.2 (by omega)
  refine ⟨_, h1, h3.lt, fun j hj => ⟨?_, hw i hi j hj⟩⟩
  rw [add_none', Nat.zero_add]
  exact (h3.cell _).trans (h4 i hi j hj)
theorem sum_blk {W W' : World} {b : Nat} {t : TypeId} {c : Array Value} {o : Obj} (h : Blk W b t c) (HG : (W.alloc o).grownBy W' (some W.heap.size)) : Blk W' b t c := (h.alloc o).grown HG (fun e => by injection e with e; have := h.lt; omega)
theorem sum_bel {w W W' : World} {o : Obj} (B : Below w.heap.size w W) (HG : (W.alloc o).grownBy W' (some W.heap.size)) : Below w.heap.size w W' := Below.only (B.alloc B.size o) HG B.size (by have := B.size; simp; omega)
theorem Rows4.new {W W' : World} {B : Nat} {a : Option Addr} {n cap : Nat} {z : Nat → Nat → Int} {o : Obj} (h : Rows4 W B a n cap z) (HG : (W.alloc o).grownBy W' (some W.heap.size)) : Rows4 W' B a n cap z :=
  ⟨h.1, h.2.1, fun hn => by obtain ⟨g, cur, h1, h2, h3, h4⟩ := h.2.2 hn; exact ⟨g, cur, h1, h2, sum_blk h3 HG, h4⟩⟩
set_option maxHeartbeats 8000000 in
set_option maxRecDepth 100000 in
theorem residenceSums_walk (p : Pl.PM) (a : Option Addr) (len cap : Nat) (z : Nat → Nat → Int) (w : World) (hw : PmWf p) (h : len ≤ cap ∧ cap ≤ maxLen ∧ Fours w a len z) :
    Calls Try.prog 10 #[pmV p, .slice a len cap] w fun e w' => e = .returned (.bool true) ∧ Below w.heap.size w w' := by
  obtain ⟨n, hn⟩ : ∃ n : Nat, n = min len 100 := ⟨_, rfl⟩
  have hmn : min (len : Int) 100 = (n : Int) := by omega
  have hnl : n ≤ len := by omega
  have hn100 : n ≤ 100 := by omega
  have hcap : len ≤ cap ∧ cap ≤ 9223372036854775807 := ⟨h.1, by simpa [maxLen] using h.2.1⟩
  have CLN := Lib.hid (fun W (l : Below w.heap.size w W) => clone_any a n cap z W hn100 (by omega) (fun i hi => by
    obtain ⟨x, hx, hb, hc⟩ := h.2.2 i (by omega)
    exact ⟨x, hx, Nat.lt_of_lt_of_le hb l.size, fun j hj => ⟨(l.cell (p := x.add (i * 4 + j)) (by rw [add_block]; exact hb)).trans (hc j hj).1, (hc j hj).2⟩⟩))
  have hni : (n : Int) ≤ (cap : Int) := by omega
  have hn0 : (0 : Int) ≤ (n : Int) := by omega
  have hco := wf64 hw.co
  have hct := Pl.tm_in p.co 1125899906842624 (by omega)
  obtain ⟨C, hC⟩ : ∃ C, p.co.tmod 1125899906842624 = C := ⟨_, rfl⟩
  rw [hC] at hct
  have kwC : IntKind.i64.wrap C = C := IntWalk.i64_in _ (by omega)
  have kwC2 : IntKind.i64.wrap (p.co.tmod 1125899906842624) = C := (congrArg _ hC).trans kwC
  have WP : Hid (PmWf (p.wco C)) := Lib.hid ⟨hw.k, hw.d, hw.fl, WalkArith.wf_i64 (by show -9223372036854775808 ≤ C ∧ C ≤ 9223372036854775807; omega), hw.ck, hw.po, hw.sq⟩
  have K0 := one_mk w 33 (pmA p)
  have HW := Lib.hid hw
  clear h hn hw
  go_enter Try.func10, Try.ntmps10
  go_wp2_with fail
  refine (CLN.out _ K0.1).mono ?_
  rintro _ w1 ⟨a', cap', rfl, hR, l1⟩
  have K1 := K0.on l1
  have c3 : w1.cell? ⟨w.heap.size, 3, none⟩ = some (.int .i64 p.co) := K1.2.cell 3
  have f3 := K1.2.frozen 3
  have cz := K1.2.lt
  have hR' : Rows4 w1 (w.heap.size + 1) a' n cap' z := by simpa using hR
  have S0 : Hid (Su w (w1.setCell ⟨w.heap.size, 3, none⟩ (.int .i64 C)) (p.wco C) a' n cap' z 0) := Lib.hid ⟨Below.setCell (p := ⟨w.heap.size, 3, none⟩) K1.1 (Nat.le_refl _) _, K1.2.set_ 3 (.int .i64 C), hR'.1, hR'.2.1, fun h0 => by
    obtain ⟨g, cur, h1, h2, h3, h4⟩ := hR'.2.2 h0
    exact ⟨g, cur, h1, h2, h3.far (p := ⟨w.heap.size, 3, none⟩) (by show g ≠ w.heap.size; omega) _, fun i hi j hj => (h4 i hi j hj).trans (by unfold Pl.mixZ; rw [if_neg (by omega)])⟩⟩
  clear hR hR' K0 K1 l1
  go_wp2_with fail
  clear c3 f3 cz
  go_loopw [5, 27] (fun s i wr => ∃ (k : Nat), i = .int .i64 k ∧ s = .int .i64 (Pl.sumN (Pl.stp (Pl.cutZ z)) k) ∧ k ≤ n ∧ Hid (Su w wr (p.wco C) a' n cap' z k)) (fun _ i _ => n - (RowKit.intOf i).toNat)
  case atStart => exact ⟨0, rfl, rfl, by omega, S0⟩
  case round =>
    obtain ⟨k, rfl, rfl, hk, hS⟩ := hrel
    by_cases hlt : k < n
    · obtain ⟨g, cur, rfl, hg, HB, HC⟩ := hS.out.2.2.2.2 (by omega)
      have gd := Pl.cut_good z k
      have hst := gd.stay
      have hsn := gd.stayN_in
      have hsu := Pl.sumN_in (z := Pl.cutZ z) k (fun i _ => Pl.cut_good z i)
      have x0 : wr.cell? ⟨g, k * 4, none⟩ = some (.int .i64 (z k 0)) := (HB.cell _).trans ((HC k hlt 0 (by omega)).trans (by unfold Pl.mixZ; rw [if_neg (by omega)]))
      have x1 : wr.cell? ⟨g, k * 4 + 1, none⟩ = some (.int .i64 (z k 1)) := (HB.cell _).trans ((HC k hlt 1 (by omega)).trans (by unfold Pl.mixZ; rw [if_neg (by omega)]))
      have x2 : wr.cell? ⟨g, k * 4 + 2, none⟩ = some (.int .i64 (z k 2)) := (HB.cell _).trans ((HC k hlt 2 (by omega)).trans (by unfold Pl.mixZ; rw [if_neg (by omega)]))
      have x3 : wr.cell? ⟨g, k * 4 + 3, none⟩ = some (.int .i64 (z k 3)) := (HB.cell _).trans ((HC k hlt 3 (by omega)).trans (by unfold Pl.mixZ; rw [if_neg (by omega)]))
      have f0 := HB.frozen (k * 4)
      have f1 := HB.frozen (k * 4 + 1)
      have f2 := HB.frozen (k * 4 + 2)
      have f3 := HB.frozen (k * 4 + 3)
      have gz := HB.lt
      have i0 := Pl.i32_in (z k 0)
      have i1 := Pl.u32_in (z k 1)
      have i2 := Pl.tm_in (z k 2) 500001 (by omega)
      have i3 := Pl.u32_in (z k 3)
      have e0 : Pl.cutZ z k 0 = IntKind.i32.wrap (z k 0) := rfl
      have e1 : Pl.cutZ z k 1 = IntKind.i32.wrap (z k 0) + IntKind.u32.wrap (z k 1) := rfl
      have e2 : Pl.cutZ z k 2 = (z k 2).tmod 500001 := rfl
      have e3 : Pl.cutZ z k 3 = IntKind.u32.wrap (z k 3) := rfl
      have eS : Pl.sumN (Pl.stp (Pl.cutZ z)) (k + 1) = Pl.sumN (Pl.stp (Pl.cutZ z)) k + (Pl.stayN (Pl.cutZ z k 0) (Pl.cutZ z k 1) (Pl.cutZ z k 2) + Pl.cutZ z k 3) := rfl
      rw [e0, e1, e2] at hst hsn
      rw [e0, e1, e2, e3] at eS
      obtain ⟨I, hI⟩ : ∃ x, IntKind.i32.wrap (z k 0) = x := ⟨_, rfl⟩
      obtain ⟨U, hU⟩ : ∃ x, IntKind.u32.wrap (z k 1) = x := ⟨_, rfl⟩
      obtain ⟨P, hP⟩ : ∃ x, (z k 2).tmod 500001 = x := ⟨_, rfl⟩
      obtain ⟨L, hL⟩ : ∃ x, IntKind.u32.wrap (z k 3) = x := ⟨_, rfl⟩
      rw [hI] at e0 e1 hst hsn eS i0
      rw [hU] at e1 hst hsn eS i1
      rw [hP] at e2 hst hsn eS i2
      rw [hL] at e3 eS i3
      have NX := Lib.hid (hS.out.next hg hlt HB HC e0 e1 e2 e3)
      have ST := fun W => stay_any I (I + U) P W
      rw [hst] at ST
      obtain ⟨N, hN⟩ : ∃ x, Pl.stayN I (I + U) P = x := ⟨_, rfl⟩
      obtain ⟨S, hSe⟩ : ∃ x, Pl.sumN (Pl.stp (Pl.cutZ z)) k = x := ⟨_, rfl⟩
      rw [hN] at ST hsn eS
      rw [hSe] at eS hsu ⊢
      replace ST := Lib.hid ST
      have ES := Lib.hid eS
      obtain ⟨y0, hy0⟩ : ∃ x, z k 0 = x := ⟨_, rfl⟩
      obtain ⟨y1, hy1⟩ : ∃ x, z k 1 = x := ⟨_, rfl⟩
      obtain ⟨y2, hy2⟩ : ∃ x, z k 2 = x := ⟨_, rfl⟩
      obtain ⟨y3, hy3⟩ : ∃ x, z k 3 = x := ⟨_, rfl⟩
      rw [hy0] at x0 hI
      rw [hy1] at x1 hU
      rw [hy2] at x2 hP
      rw [hy3] at x3 hL
      have kI : IntKind.i64.wrap I = I := IntWalk.i64_in _ (by omega)
      have kU : IntKind.i64.wrap U = U := IntWalk.i64_in _ (by omega)
      have kO : IntKind.i64.wrap (I + U) = I + U := IntWalk.i64_in _ (by omega)
      have kP : IntKind.i64.wrap P = P := IntWalk.i64_in _ (by omega)
      have kP2 : IntKind.i64.wrap (y2.tmod 500001) = P := (congrArg _ hP).trans kP
      have kL : IntKind.i64.wrap L = L := IntWalk.i64_in _ (by omega)
      have kk : (k : Int) ≤ 100 := by omega
      have kN : IntKind.i64.wrap (N + L) = N + L := IntWalk.i64_in _ (by omega)
      have kS : IntKind.i64.wrap (S + (N + L)) = S + (N + L) := IntWalk.i64_in _ (by omega)
      have tk : decide ((k : Int) < (n : Int)) = true := by simp [hlt]
      have tN : decide (N < 0) = false := by simp; omega
      have hki : (0 : Int) ≤ (k : Int) := by omega
      clear hS HB HC gd hst hN hSe eS hy0 hy1 hy2 hy3
      have HE := Lib.hid (And.intro e0 (And.intro e1 (And.intro e2 e3)))
      clear e0 e1 e2 e3
      go_wp2_with fail
      go_region_with fail
      all_goals (
        go_wp2_with fail
        have NX1 := Lib.hid NX.out.drew
        clear x0 x1 x2 x3 f0 f1 f2 f3 gz NX
        generalize ((((wr.setCell ⟨g, k * 4, none⟩ (.int .i64 I)).setCell ⟨g, k * 4 + 1, none⟩ (.int .i64 (I + U))).setCell ⟨g, k * 4 + 2, none⟩ (.int .i64 P)).setCell ⟨g, k * 4 + 3, none⟩ (.int .i64 L)).drew = W1 at NX1 ⊢
        have q0 := NX1.out.row hlt 0 (by omega)
        have q1 := NX1.out.row hlt 1 (by omega)
        have q2 := NX1.out.row hlt 2 (by omega)
        have qz := NX1.out.row_lt hlt
        rw [HE.out.1] at q0
        rw [HE.out.2.1] at q1
        rw [HE.out.2.2.1] at q2
        go_region_held3 (fun w' => w'.cell? ⟨g, k * 4, none⟩ = some (.int .i64 I) ∧ w'.cell? ⟨g, k * 4 + 1, none⟩ = some (.int .i64 (I + U)) ∧ w'.cell? ⟨g, k * 4 + 2, none⟩ = some (.int .i64 P)) (first | exact ⟨q0, q1, q2⟩ | exact ⟨r0, r1, r2⟩) ((go_at_call 11; refine (ST.out _).mono ?_; rintro _ w2 ⟨rfl, l2⟩; have K2 := NX1.out.drew.on l2; have r0 := (K2.row hlt 0 (by omega)).trans (by rw [HE.out.1]); have r1 := (K2.row hlt 1 (by omega)).trans (by rw [HE.out.2.1]); have r2 := (K2.row hlt 2 (by omega)).trans (by rw [HE.out.2.2.1]); have r3 := (K2.row hlt 3 (by omega)).trans (by rw [HE.out.2.2.2]); have rz := K2.row_lt hlt; clear l2))
        have K2' := Lib.hid K2
        clear K2 q0 q1 q2 qz NX1
        go_wp2_with fail
        exact ⟨⟨k + 1, by go_num, by rw [ES.out], by omega, K2'⟩, by simp [RowKit.intOf]; omega⟩)
    · obtain rfl : k = n := by omega
      have tk : decide ((k : Int) < (k : Int)) = false := by simp
      obtain ⟨R, E, hp1, hp2, hE⟩ : ∃ (R : Pl.PM) (E : Int), Pl.pthR (Pl.cutZ z) k 0 (p.wco C) = (R, E) ∧ Pl.pthR (fun i j => Pl.cutZ z (k - 1 - i) j) k 0 (p.wco C) = (R, E) ∧ (((E = 2 ∨ E = 8) ∧ R = Pl.pm0) ∨ (E = 0 ∧ R = (p.wco C).wco (C + 65536 * Pl.sumN (Pl.stp (Pl.cutZ z)) k))) := by
        rcases Pl.sums (z := Pl.cutZ z) (n := k) (p := p.wco C) hn100 (fun i _ => Pl.cut_good z i) hct.1 hct.2 with ⟨_, _, e, he, h1, h2⟩ | ⟨h1, h2⟩
        · exact ⟨_, _, h1, h2, .inl ⟨he, rfl⟩⟩
        · exact ⟨_, _, h1, h2, .inr ⟨rfl, rfl⟩⟩
      have hsu := Pl.sumN_in (z := Pl.cutZ z) k (fun i _ => Pl.cut_good z i)
      obtain ⟨S, hSe⟩ : ∃ x, Pl.sumN (Pl.stp (Pl.cutZ z)) k = x := ⟨_, rfl⟩
      rw [hSe] at hE hsu ⊢
      have hR0 : Rows4 wr (w.heap.size + 1) a' k cap' (Pl.cutZ z) := ⟨hS.out.2.2.1, hS.out.2.2.2.1, fun h0 => by
        obtain ⟨g, cur, h1, h2, h3, h4⟩ := hS.out.2.2.2.2 h0
        exact ⟨g, cur, h1, h2, h3, fun i hi j hj => (h4 i hi j hj).trans (by unfold Pl.mixZ; rw [if_pos hi])⟩⟩
      have wfz : ∀ i j, j < 4 → (Lit.int .i64 (Pl.cutZ z i j)).wf = true := fun i j hj => by
        obtain ⟨g0, g1, g2, g3⟩ := Pl.cut_good z i
        refine WalkArith.wf_i64 ?_
        rcases (by omega : j = 0 ∨ j = 1 ∨ j = 2 ∨ j = 3) with rfl | rfl | rfl | rfl <;> omega
      have PA1 := fun W (h : Rows4 W (w.heap.size + 1) a' k cap' (Pl.cutZ z)) => path_any (p.wco C) a' k cap' (Pl.cutZ z) W WP.out (by omega) (rows_fours h (fun i _ j hj => wfz i j hj))
      have PA2 := fun W (h : Rows4 W (w.heap.size + 1) a' k cap' (fun i j => Pl.cutZ z (k - 1 - i) j)) => path_any (p.wco C) a' k cap' _ W WP.out (by omega) (rows_fours h (fun i _ j hj => wfz (k - 1 - i) j hj))
      rw [hp1] at PA1
      rw [hp2] at PA2
      replace PA1 : ∀ W, Rows4 W (w.heap.size + 1) a' k cap' (Pl.cutZ z) → Calls Try.prog 25 #[pmV (p.wco C), .slice a' k cap'] W fun e w' => e = .returned (.tuple #[pmV R, .int .i64 E]) ∧ Below W.heap.size W w' := PA1
      replace PA2 : ∀ W, Rows4 W (w.heap.size + 1) a' k cap' (fun i j => Pl.cutZ z (k - 1 - i) j) → Calls Try.prog 25 #[pmV (p.wco C), .slice a' k cap'] W fun e w' => e = .returned (.tuple #[pmV R, .int .i64 E]) ∧ Below W.heap.size W w' := PA2
      have RVS := fun W (h : Rows4 W (w.heap.size + 1) a' k cap' (Pl.cutZ z)) => reverse_any a' k cap' (Pl.cutZ z) W (w.heap.size + 1) hn100 h
      replace PA1 := Lib.hid PA1
      replace PA2 := Lib.hid PA2
      replace RVS := Lib.hid RVS
      have kS1 : IntKind.i64.wrap (65536 * S) = 65536 * S := IntWalk.i64_in _ (by omega)
      have kS2 : IntKind.i64.wrap (C + 65536 * S) = C + 65536 * S := IntWalk.i64_in _ (by omega)
      have HR0 := Lib.hid hR0
      have P0 := hS.out.2.1
      have B0 := Lib.hid hS.out.1
      have hwz : w.heap.size < wr.heap.size := P0.lt
      clear hp1 hp2 hSe hR0 wfz hsu
      obtain ⟨p1, hp1⟩ : ∃ q, p.wco C = q := ⟨_, rfl⟩
      have hp1c : Hid (p1.co = C) := Lib.hid (by rw [← hp1]; rfl)
      have HP1 := Lib.hid hp1
      rw [hp1] at PA1 PA2 P0 hE WP
      clear hS hp1
      go_wp2_with (refine wpList_load_blk rfl 33 _ rfl w.heap.size rfl 33 (pmA p1) _ P0 Try.underlying33 rfl (by kernel_rfl) ?_)
      refine (PA1.out _ HR0.out).mono ?_
      rintro _ w2 ⟨rfl, l2⟩
      have B2 := Lib.hid (bel_on B0.out l2)
      have P2 := Lib.hid (P0.below_ l2)
      have R2 := Lib.hid (HR0.out.on l2)
      have hwz2 : w.heap.size < w2.heap.size := P2.out.lt
      clear l2 P0 B0 HR0
      go_wp2_with (refine wpList_store_blk rfl 33 _ _ rfl w2.heap.size (pmA R) rfl rfl 33 zA (Blk.new _ _ _) (by kernel_rfl) rfl (by kernel_rfl) ?_; intro W3 HA3 HG3; have B3 := Lib.hid (sum_bel B2.out HG3); have P3 := Lib.hid (sum_blk P2.out HG3); have R3 := Lib.hid (R2.out.new HG3); have A3 := Lib.hid HA3; clear HG3 HA3)
      refine (RVS.out _ R3.out).mono ?_
      rintro _ w4 ⟨rfl, R4, hfr⟩
      have Z4 : Hid (Below w.heap.size w w4 ∧ Blk w4 w.heap.size 33 (pmA p1) ∧ Blk w4 w2.heap.size 33 (pmA R)) := Lib.hid (by
        rcases hfr with rfl | ⟨g, hk0, hg1, HG, ha, cur, hb⟩
        · exact ⟨B3.out, P3.out, A3.out⟩
        · obtain ⟨g', cur', h1, h2, h3, _⟩ := R2.out.2.2 hk0
          rw [ha] at h1
          injection h1 with h1
          injection h1 with h1 _
          subst h1
          have := h3.lt
          exact ⟨Below.only B3.out HG (by omega) B3.out.size, P3.out.grown HG (fun e => by injection e with e; omega), A3.out.grown HG (fun e => by injection e with e; omega)⟩)
      have R4' := Lib.hid R4
      have P4 := Z4.out.2.1
      clear hfr R3 P3 B3 A3 R2 P2 B2 R4
      go_wp2_with (refine wpList_load_blk rfl 33 _ rfl w.heap.size rfl 33 (pmA p1) _ P4 Try.underlying33 rfl (by kernel_rfl) ?_)
      refine (PA2.out _ R4'.out).mono ?_
      rintro _ w5 ⟨rfl, l5⟩
      have B5 := bel_on Z4.out.1 l5
      have P5 := Z4.out.2.1.below_ l5
      have A5 := Z4.out.2.2.below_ l5
      have hz5 : w2.heap.size < w5.heap.size := A5.lt
      have hne5 : w2.heap.size ≠ w.heap.size := by omega
      clear l5 P4 Z4 R4' RVS PA1 PA2
      rcases hE with ⟨hE, rfl⟩ | ⟨rfl, hRe⟩
      · replace A5 : Blk w5 w2.heap.size 33 zA := A5
        rcases hE with rfl | rfl
        all_goals
          go_wp2_with (first | (refine wpList_store_blk rfl 33 _ _ rfl w5.heap.size zA rfl rfl 33 zA (Blk.new _ _ _) (by kernel_rfl) rfl (by kernel_rfl) ?_; intro W6 HB6 HG6; have B6 := sum_bel B5 HG6; have A6 := sum_blk A5 HG6; clear HG6) | (refine wpList_load_blk rfl 33 _ rfl w2.heap.size rfl 33 zA _ A6 Try.underlying33 rfl (by kernel_rfl) ?_) | (refine wpList_load_blk rfl 33 _ rfl w5.heap.size rfl 33 zA _ HB6 Try.underlying33 rfl (by kernel_rfl) ?_) | (refine wpList_load_blk_g rfl 33 _ rfl w2.heap.size rfl 33 zA _ A6 Try.underlying33 rfl (by kernel_rfl) ?_))
          refine (rawake_any _).mono ?_
          rintro _ w7 ⟨rfl, l7⟩
          go_wp2
          go_ret
          exact ⟨rfl, bel_on B6 l7⟩
      · have RE : Hid (∀ g W, Blk W g 33 (pmA p1) → Blk (W.setCell ⟨g, 3, none⟩ (.int .i64 (C + 65536 * S))) g 33 (pmA R)) := Lib.hid (fun g W h => by rw [hRe, ← HP1.out]; rw [← HP1.out] at h; exact h.set_ 3 _)
        clear hRe
        go_wp2_with (first | (refine wpList_store_blk rfl 33 _ _ rfl w5.heap.size (pmA R) rfl rfl 33 zA (Blk.new _ _ _) (by kernel_rfl) rfl (by kernel_rfl) ?_; intro W6 HB6 HG6; have B6 := sum_bel B5 HG6; have A6 := sum_blk A5 HG6; have P6 := sum_blk P5 HG6; clear HG6) | (refine wpList_store_blk rfl 33 _ _ rfl W6.heap.size (pmA p1) rfl rfl 33 zA (Blk.new _ _ _) (by kernel_rfl) rfl (by kernel_rfl) ?_; intro W7 Q7 HG7; have B7 := sum_bel B6 HG7; have A7 := sum_blk A6 HG7; have q3 : W7.cell? ⟨W6.heap.size, 3, none⟩ = some (.int .i64 C) := (by rw [← hp1c.out]; exact Q7.cell 3); have q4 := Q7.frozen 3; have q5 := Q7.lt; have A8 := A7.far (p := ⟨W6.heap.size, 3, none⟩) (by show w2.heap.size ≠ W6.heap.size; have := A6.lt; omega) (.int .i64 (C + 65536 * S)); have Q8 := RE.out _ _ Q7; have B8 := Below.setCell (p := ⟨W6.heap.size, 3, none⟩) B7 (by show w.heap.size ≤ W6.heap.size; have := A6.lt; omega) (.int .i64 (C + 65536 * S)); clear HG7) | (refine wpList_load_blk rfl 33 _ rfl w2.heap.size rfl 33 (pmA R) _ A6 Try.underlying33 rfl (by kernel_rfl) ?_) | (refine wpList_load_blk rfl 33 _ rfl w5.heap.size rfl 33 (pmA R) _ HB6 Try.underlying33 rfl (by kernel_rfl) ?_) | (refine wpList_load_blk rfl 33 _ rfl w.heap.size rfl 33 (pmA p1) _ P6 Try.underlying33 rfl (by kernel_rfl) ?_) | (refine wpList_load_blk rfl 33 _ rfl w2.heap.size rfl 33 (pmA R) _ A8 Try.underlying33 rfl (by kernel_rfl) ?_) | (refine wpList_load_blk rfl 33 _ rfl W6.heap.size rfl 33 (pmA R) _ Q8 Try.underlying33 rfl (by kernel_rfl) ?_))
        refine (rawake_any _).mono ?_
        rintro _ w9 ⟨rfl, l9⟩
        go_wp2
        go_ret
        exact ⟨rfl, bel_on B8 l9⟩
end Go.Proofs.Ytnlfkafebbfenaa
