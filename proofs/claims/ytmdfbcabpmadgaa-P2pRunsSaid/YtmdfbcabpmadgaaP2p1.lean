/- Contracts of ptime's Time, Of, Nanos and AddCorr, of fixed's Floor and Clamp, of p2p's reading and instant. -/
import Derived.Test.YtmdfbcabpmadgaaPtpRef
import Derived.Test.YtmdfbcabpmadgaaRefFloor
import Derived.Test.YtmdfbcabpmadgaaRowLaws
import Derived.Deep.QuietTactic
import Derived.BigQuiet
namespace Go.Proofs.Ytmdfbcabpmadgaa
namespace Pl
def sat (a b : Int) : Int := if fit (a + b) = true then a + b else if 0 < a then 9223372036854775807 else -9223372036854775808
theorem sat_in {a b : Int} : -9223372036854775808 ≤ sat a b ∧ sat a b ≤ 9223372036854775807 := by
  unfold sat
  split
  · rename_i h
    exact fit_iff.1 h
  · split <;> omega
def tmT (s n : Int) : Int := (s + 2208988800) * 1000000000 + n
def tmOk (s n : Int) : Bool := stOk s n && decide (tmT s n ≤ 8000000000000000000)
def tmN (s n : Int) : Int := if tmOk s n = true then tmT s n else 0
def tmE (s n : Int) : Int := if tmOk s n = true then 0 else 3
def rdg (n : Int) : Bool := inr n (-4503599627370496) 4503599627370496
theorem rdg_iff {n : Int} : rdg n = true ↔ -4503599627370496 ≤ n ∧ n ≤ 4503599627370496 := inr_iff
def insB (p : PM) : Bool := tmOk p.se p.na && rdg (tmT p.se p.na - 3900000000000000000)
def insN (p : PM) : Int := if insB p = true then tmT p.se p.na - 3900000000000000000 else 0
theorem insN_in {p : PM} : -4503599627370496 ≤ insN p ∧ insN p ≤ 4503599627370496 := by
  unfold insN
  split
  · rename_i h
    unfold insB at h
    simp only [Bool.and_eq_true] at h
    exact rdg_iff.1 h.2
  · omega
theorem tmOk_in {s n : Int} (h : tmOk s n = true) : (0 ≤ s ∧ s ≤ 281474976710655 ∧ 0 ≤ n ∧ n < 1000000000) ∧ tmT s n ≤ 8000000000000000000 := by
  unfold tmOk at h
  simp only [Bool.and_eq_true, decide_eq_true_eq] at h
  exact ⟨stOk_iff.1 h.1, h.2⟩
theorem tdiv_le (p d : Int) (hd : 0 < d) : (0 ≤ p → 0 ≤ p.tdiv d ∧ p.tdiv d ≤ p) ∧ (p ≤ 0 → p ≤ p.tdiv d ∧ p.tdiv d ≤ 0) := by
  constructor
  · intro h
    rw [Int.tdiv_eq_ediv_of_nonneg h]
    exact ⟨Int.ediv_nonneg h (by omega), Int.ediv_le_self d h⟩
  · intro h
    obtain ⟨q, rfl⟩ : ∃ q, p = -q := ⟨-p, by omega⟩
    rw [Int.neg_tdiv, Int.tdiv_eq_ediv_of_nonneg (by omega)]
    have := Int.ediv_nonneg (show 0 ≤ q by omega) (show 0 ≤ d by omega)
    have := Int.ediv_le_self d (show 0 ≤ q by omega)
    omega
theorem floor_tdiv {a b : Int} (hb : 0 < b) : a / b = if a.tmod b < 0 then a.tdiv b - 1 else a.tdiv b := by
  rcases Int.lt_or_le a 0 with h | h
  · obtain ⟨n, rfl⟩ : ∃ n, a = -n := ⟨-a, by omega⟩
    rw [Int.neg_tdiv, Int.neg_tmod, Int.tdiv_eq_ediv_of_nonneg (by omega), Int.tmod_eq_emod_of_nonneg (by omega)]
    have e := Int.mul_ediv_add_emod n b
    have r1 := Int.emod_nonneg n (show b ≠ 0 by omega)
    have r2 := Int.emod_lt_of_pos n hb
    generalize n / b = Q at *
    generalize n % b = R at *
    by_cases c : R = 0
    · rw [if_neg (by omega)]
      refine ((Int.ediv_emod_unique (r := 0) hb).2 ⟨?_, by omega, hb⟩).1
      rw [Int.mul_neg]
      omega
    · rw [if_pos (by omega)]
      refine ((Int.ediv_emod_unique (r := b - R) hb).2 ⟨?_, by omega, by omega⟩).1
      rw [Int.mul_sub, Int.mul_neg]
      omega
  · rw [Int.tdiv_eq_ediv_of_nonneg h, Int.tmod_eq_emod_of_nonneg h]
    rw [if_neg (by have := Int.emod_nonneg a (show b ≠ 0 by omega); omega)]
theorem tmod_in {a b : Int} (hb : 0 < b) : -b < a.tmod b ∧ a.tmod b < b := by
  rcases Int.lt_or_le a 0 with h | h
  · obtain ⟨n, rfl⟩ : ∃ n, a = -n := ⟨-a, by omega⟩
    rw [Int.neg_tmod, Int.tmod_eq_emod_of_nonneg (by omega)]
    have r1 := Int.emod_nonneg n (show b ≠ 0 by omega)
    have r2 := Int.emod_lt_of_pos n hb
    omega
  · rw [Int.tmod_eq_emod_of_nonneg h]
    have r1 := Int.emod_nonneg a (show b ≠ 0 by omega)
    have r2 := Int.emod_lt_of_pos a hb
    omega
theorem floor_in {a b K : Int} (hb : 0 < b) (h1 : -K ≤ a) (h2 : a ≤ K) (hK : 0 ≤ K) : -K ≤ a / b ∧ a / b ≤ K := by
  have k := Int.mul_le_mul_of_nonneg_left (show 1 ≤ b by omega) hK
  constructor
  · rw [Int.le_ediv_iff_mul_le hb, Int.neg_mul]
    omega
  · have : a / b < K + 1 := by
      rw [Int.ediv_lt_iff_lt_mul hb, Int.add_mul]
      omega
    omega

end Pl
open Go.RowKit Go.Lib Go.Maps

/-- a message's numbers are of their kinds -/
structure PmWf (p : Pl.PM) : Prop where
  k : (Lit.int .i64 p.k).wf = true
  d : (Lit.int .i64 p.d).wf = true
  fl : (Lit.int .i64 p.fl).wf = true
  co : (Lit.int .i64 p.co).wf = true
  ck : (Lit.int .u64 p.ck).wf = true
  po : (Lit.int .i64 p.po).wf = true
  sq : (Lit.int .i64 p.sq).wf = true
theorem wf64 {n : Int} (h : (Lit.int .i64 n).wf = true) : -9223372036854775808 ≤ n ∧ n ≤ 9223372036854775807 := by
  have hmin : IntKind.i64.min = -9223372036854775808 := rfl
  have hmax : IntKind.i64.max = 9223372036854775807 := rfl
  simp only [Lit.wf, Bool.and_eq_true, decide_eq_true_eq] at h
  omega


theorem addcorr_any (a b : Int) (h1 : -9223372036854775808 ≤ a) (h2 : a ≤ 9223372036854775807) (h3 : -9223372036854775808 ≤ b) (h4 : b ≤ 9223372036854775807) (w : World) :
    Calls Try.prog 30 #[.int .i64 a, .int .i64 b] w fun e w' => e = .returned (.tuple #[.int .i64 (Pl.sat a b), .bool (Pl.fit (a + b))]) ∧ w = w' := by
  have M := fun W => fadd_any a b h1 h2 h3 h4 W
  unfold Pl.sat
  cases hf : Pl.fit (a + b) with
  | true =>
    rw [hf, Pl.kept_yes hf] at M
    replace M := Lib.hid M
    rw [if_pos rfl]
    clear hf
    go_enter Try.func30, Try.ntmps30
    go_wp2_with fail
    refine (M.out _).mono ?_
    rintro _ w1 ⟨rfl, rfl⟩
    go_wp2
    go_ret2
    exact ⟨rfl, rfl⟩
  | false =>
    have e : Pl.kept (a + b) = 0 := by simp [Pl.kept, hf]
    rw [hf, e] at M
    replace M := Lib.hid M
    rw [if_neg (by simp)]
    clear hf e
    by_cases c : 0 < a
    · rw [if_pos c]
      go_enter Try.func30, Try.ntmps30
      go_wp2_with fail
      refine (M.out _).mono ?_
      rintro _ w1 ⟨rfl, rfl⟩
      go_wp2
      go_ret2
      exact ⟨rfl, rfl⟩
    · rw [if_neg c]
      go_enter Try.func30, Try.ntmps30
      go_wp2_with fail
      refine (M.out _).mono ?_
      rintro _ w1 ⟨rfl, rfl⟩
      go_wp2
      go_ret2
      exact ⟨rfl, rfl⟩

theorem pdivide_any (a b : Int) (ha : -9223372036854775808 ≤ a) (ha' : a ≤ 9223372036854775807) (hb : 0 < b) (hb' : b ≤ 9223372036854775807) (w : World) :
    Calls Try.prog 46 #[.int .i64 a, .int .i64 b] w fun e w' => e = .returned (.tuple #[.int .i64 (a.tdiv b), .int .i64 (a.tmod b), .bool true]) ∧ ∃ n, w' = w.drewN n := by
  have t0 : (b == 0) = false := by simp; omega
  have t1 : (b == -1) = false := by simp; omega
  have t2 : (a == -9223372036854775808) = false ∨ (a == -9223372036854775808) = true := by cases (a == -9223372036854775808) <;> simp
  have hq := Pl.tdiv_le a b hb
  have hr := Pl.tmod_in (a := a) hb
  have kw1 : IntKind.i64.wrap (a.tdiv b) = a.tdiv b := IntWalk.i64_in _ (by rcases Int.le_total 0 a with q | q; have := hq.1 q; omega; have := hq.2 q; omega)
  have kw2 : IntKind.i64.wrap (a.tmod b) = a.tmod b := IntWalk.i64_in _ (by omega)
  clear hq hr
  rcases t2 with t2 | t2
  all_goals (
    go_enter Try.func46, Try.ntmps46
    go_wp2_with fail
    all_goals (
      go_region_with fail
      all_goals (
        go_wp2_with fail
        refine bodyPost_ret (v := .tuple #[.int .i64 (a.tdiv b), .int .i64 (a.tmod b), .bool true]) (by simp [results, Try.results46, go_sem]) rfl ⟨rfl, 1, rfl⟩)))

theorem pfloor_any (a b : Int) (ha : -9223372036854775808 ≤ a) (ha' : a ≤ 9223372036854775807) (hb : 0 < b) (hb' : b ≤ 9223372036854775807) (w : World) :
    Calls Try.prog 31 #[.int .i64 a, .int .i64 b] w fun e w' => e = .returned (.tuple #[.int .i64 (a / b), .bool true]) ∧ ∃ n, w' = w.drewN n := by
  have D := Lib.hid (fun W => pdivide_any a b ha ha' hb hb' W)
  have e := Pl.floor_tdiv (a := a) hb
  have hr := Pl.tmod_in (a := a) hb
  have hq := Pl.tdiv_le a b hb
  have hq' : -9223372036854775808 ≤ a.tdiv b ∧ a.tdiv b ≤ 9223372036854775807 := by rcases Int.le_total 0 a with q | q; have := hq.1 q; omega; have := hq.2 q; omega
  have hF : -9223372036854775808 ≤ a / b := by
    have := (Pl.floor_in (a := a) (K := 9223372036854775808) hb ha (by omega) (by omega)).1
    omega
  obtain ⟨q1, q2⟩ := hq'
  have tb : decide (b < 0) = false := by simp; omega
  rw [e] at hF ⊢
  clear e hq
  generalize a.tdiv b = Q at *
  generalize a.tmod b = R at *
  by_cases c : R < 0
  · rw [if_pos c] at hF ⊢
    have t0 : (R == 0) = false := by simp; omega
    have kw : IntKind.i64.wrap (Q - 1) = Q - 1 := IntWalk.i64_in _ (by omega)
    go_enter Try.func31, Try.ntmps31
    go_wp2_with fail
    refine (D.out _).mono ?_
    rintro _ w1 ⟨rfl, n, rfl⟩
    go_wp2
    refine bodyPost_ret (v := .tuple #[.int .i64 (Q - 1), .bool true]) (by simp [results, Try.results31, go_sem]) rfl ⟨rfl, n, rfl⟩
  · rw [if_neg c]
    have t1 : decide (R < 0) = false := by simp; omega
    go_enter Try.func31, Try.ntmps31
    go_wp2_with fail
    refine (D.out _).mono ?_
    rintro _ w1 ⟨rfl, n, rfl⟩
    go_wp2
    all_goals (refine bodyPost_ret (v := .tuple #[.int .i64 Q, .bool true]) (by simp [results, Try.results31, go_sem]) rfl ⟨rfl, n, rfl⟩)


theorem pclamp_any (n lo hi : Int) (h : lo ≤ hi) (w : World) :
    Calls Try.prog 40 #[.int .i64 n, .int .i64 lo, .int .i64 hi] w fun e w' => e = .returned (.int .i64 (max lo (min n hi))) ∧ w = w' := by
  by_cases h1 : n < lo
  · rw [show max lo (min n hi) = lo by omega]
    go_enter Try.func40, Try.ntmps40
    go_wp2
    go_ret
    exact ⟨rfl, rfl⟩
  · by_cases h2 : hi < n
    · rw [show max lo (min n hi) = hi by omega]
      go_enter Try.func40, Try.ntmps40
      go_wp2
      go_ret
      exact ⟨rfl, rfl⟩
    · rw [show max lo (min n hi) = n by omega]
      go_enter Try.func40, Try.ntmps40
      go_wp2
      go_ret
      exact ⟨rfl, rfl⟩


theorem nanos_any (c : Int) (h1 : -9223372036854775808 ≤ c) (h2 : c ≤ 9223372036854775807) (w : World) : Calls Try.prog 32 #[.int .i64 c] w fun e w' => e = .returned (.int .i64 (c / 65536)) ∧ ∃ n, w' = w.drewN n := by
  have F := Lib.hid (fun W => pfloor_any c 65536 h1 h2 (by omega) (by omega) W)
  obtain ⟨K, hK⟩ : ∃ K, c / 65536 = K := ⟨_, rfl⟩
  rw [hK] at F ⊢
  clear hK h1 h2
  go_enter Try.func32, Try.ntmps32
  go_wp2_with fail
  refine (F.out _).mono ?_
  rintro _ w1 ⟨rfl, n, rfl⟩
  go_wp2
  go_ret
  exact ⟨rfl, n, rfl⟩
theorem reading_any (n : Int) (w : World) : Calls Try.prog 26 #[.int .i64 n] w fun e w' => e = .returned (.bool (Pl.rdg n)) ∧ w = w' := by
  go_enter Try.func26, Try.ntmps26
  go_wp2
  all_goals (go_ret; exact ⟨congrArg Ending.returned (congrArg Value.bool (by simp [Pl.rdg, Pl.inr] <;> omega)), rfl⟩)
theorem ptime_any (s n : Int) (w : World) : Calls Try.prog 44 #[.agg #[.int .i64 s, .int .i64 n]] w fun e w' => e = .returned (.tuple #[.int .i64 (Pl.tmN s n), .int .i64 (Pl.tmE s n)]) ∧ Below w.heap.size w w' := by
  have SC := fun W => stcheck_any s n W
  by_cases hs : Pl.stOk s n = true
  · have hb := Pl.stOk_iff.1 hs
    rw [Pl.stE_zero.2 hs] at SC
    replace SC := Lib.hid SC
    have kw : IntKind.i64.wrap (s + 2208988800) = s + 2208988800 := IntWalk.i64_in _ (by omega)
    have M := fun W => fmul_any (s + 2208988800) 1000000000 (by omega) (by omega) (by omega) (by omega) W
    by_cases hT : Pl.tmT s n ≤ 8000000000000000000
    · have ho : Pl.tmOk s n = true := by simp [Pl.tmOk, hs, hT]
      unfold Pl.tmN Pl.tmE
      rw [if_pos ho, if_pos ho]
      have e : Pl.tmT s n = (s + 2208988800) * 1000000000 + n := rfl
      have f1 := Pl.fit_yes (n := (s + 2208988800) * 1000000000) (by omega) (by omega)
      rw [f1, Pl.kept_yes f1] at M
      obtain ⟨X, hX⟩ : ∃ X, (s + 2208988800) * 1000000000 = X := ⟨_, rfl⟩
      rw [hX] at M e f1
      have A := fun W => fadd_any X n (by omega) (by omega) (by omega) (by omega) W
      have f2 := Pl.fit_yes (n := X + n) (by omega) (by omega)
      rw [f2, Pl.kept_yes f2, ← e] at A
      obtain ⟨T, hTT⟩ : ∃ T, Pl.tmT s n = T := ⟨_, rfl⟩
      rw [hTT] at A hT ⊢
      have tt : decide (8000000000000000000 < T) = false := by simp; omega
      replace M := Lib.hid M
      replace A := Lib.hid A
      clear f1 f2 e hX hTT ho hs hb hT
      have K0 := one_mk w 33 #[.int .i64 s, .int .i64 n]
      go_enter Try.func44, Try.ntmps44
      go_wp2_with fail
      refine (SC.out _).mono ?_
      rintro _ w1 ⟨rfl, l1⟩
      have K1 := K0.on l1
      obtain ⟨k0, k1, kz⟩ := K1.cells
      replace K1 := Lib.hid K1
      clear l1
      go_wp2_with fail
      refine (M.out _).mono ?_
      rintro _ w2 ⟨rfl, rfl⟩
      go_wp2_with fail
      refine (A.out _).mono ?_
      rintro _ w2 ⟨rfl, rfl⟩
      go_wp2
      go_ret2
      exact ⟨rfl, K1.out.1⟩
    · have ho : Pl.tmOk s n = false := by simp [Pl.tmOk, hT]
      unfold Pl.tmN Pl.tmE
      rw [if_neg (by simp [ho]), if_neg (by simp [ho])]
      have e : Pl.tmT s n = (s + 2208988800) * 1000000000 + n := rfl
      obtain ⟨X, hX⟩ : ∃ X, (s + 2208988800) * 1000000000 = X := ⟨_, rfl⟩
      rw [hX] at M e
      rw [e] at hT
      have K0 := one_mk w 33 #[.int .i64 s, .int .i64 n]
      cases f1 : Pl.fit X with
      | true =>
        have g1 := Pl.fit_iff.1 f1
        rw [f1, Pl.kept_yes f1] at M
        have A := fun W => fadd_any X n (by omega) (by omega) (by omega) (by omega) W
        cases f2 : Pl.fit (X + n) with
        | true =>
          rw [f2, Pl.kept_yes f2] at A
          obtain ⟨T, hTT⟩ : ∃ T, X + n = T := ⟨_, rfl⟩
          rw [hTT] at A hT
          have tt : decide (8000000000000000000 < T) = true := by simp; omega
          replace M := Lib.hid M
          replace A := Lib.hid A
          clear f1 f2 e hX hTT ho hs hb hT g1
          go_enter Try.func44, Try.ntmps44
          go_wp2_with fail
          refine (SC.out _).mono ?_
          rintro _ w1 ⟨rfl, l1⟩
          have K1 := K0.on l1
          obtain ⟨k0, k1, kz⟩ := K1.cells
          replace K1 := Lib.hid K1
          clear l1
          go_wp2_with fail
          refine (M.out _).mono ?_
          rintro _ w2 ⟨rfl, rfl⟩
          go_wp2_with fail
          refine (A.out _).mono ?_
          rintro _ w2 ⟨rfl, rfl⟩
          go_wp2
          go_ret2
          exact ⟨rfl, K1.out.1⟩
        | false =>
          rw [f2, Pl.kept_no f2] at A
          replace M := Lib.hid M
          replace A := Lib.hid A
          clear f1 f2 e hX ho hs hb hT g1
          go_enter Try.func44, Try.ntmps44
          go_wp2_with fail
          refine (SC.out _).mono ?_
          rintro _ w1 ⟨rfl, l1⟩
          have K1 := K0.on l1
          obtain ⟨k0, k1, kz⟩ := K1.cells
          replace K1 := Lib.hid K1
          clear l1
          go_wp2_with fail
          refine (M.out _).mono ?_
          rintro _ w2 ⟨rfl, rfl⟩
          go_wp2_with fail
          refine (A.out _).mono ?_
          rintro _ w2 ⟨rfl, rfl⟩
          go_wp2
          go_ret2
          exact ⟨rfl, K1.out.1⟩
      | false =>
        rw [f1, Pl.kept_no f1] at M
        replace M := Lib.hid M
        clear f1 e hX ho hs hb hT
        go_enter Try.func44, Try.ntmps44
        go_wp2_with fail
        refine (SC.out _).mono ?_
        rintro _ w1 ⟨rfl, l1⟩
        have K1 := K0.on l1
        obtain ⟨k0, k1, kz⟩ := K1.cells
        replace K1 := Lib.hid K1
        clear l1
        go_wp2_with fail
        refine (M.out _).mono ?_
        rintro _ w2 ⟨rfl, rfl⟩
        go_wp2
        go_ret2
        exact ⟨rfl, K1.out.1⟩
  · have ho : Pl.tmOk s n = false := by simp [Pl.tmOk, hs]
    unfold Pl.tmN Pl.tmE
    rw [if_neg (by simp [ho]), if_neg (by simp [ho])]
    have e : Pl.stE s n = 3 := by unfold Pl.stE; rw [if_neg hs]
    rw [e] at SC
    replace SC := Lib.hid SC
    have K0 := one_mk w 33 #[.int .i64 s, .int .i64 n]
    clear hs ho e
    go_enter Try.func44, Try.ntmps44
    go_wp2_with fail
    refine (SC.out _).mono ?_
    rintro _ w1 ⟨rfl, l1⟩
    have K1 := Lib.hid (K0.on l1)
    clear l1
    go_wp2
    go_ret2
    exact ⟨rfl, K1.out.1⟩
def ofS (t : Int) : Int := t / 1000000000 - 2208988800
theorem pof_any (t : Int) (h1 : 2208988800000000000 ≤ t) (h2 : t ≤ 9223372036854775807) (w : World) : Calls Try.prog 29 #[.int .i64 t] w fun e w' => e = .returned (.tuple #[.agg #[.int .i64 (ofS t), .int .i64 (t % 1000000000)], .int .i64 0]) ∧ Below w.heap.size w w' := by
  have t0 : decide (t < 2208988800000000000) = false := by simp; omega
  have q1 : t.tdiv 1000000000 = t / 1000000000 := Int.tdiv_eq_ediv_of_nonneg (by omega)
  have q2 : t.tmod 1000000000 = t % 1000000000 := Int.tmod_eq_emod_of_nonneg (by omega)
  have kw1 : IntKind.i64.wrap (t.tdiv 1000000000) = t / 1000000000 := (IntWalk.i64_in _ (by omega)).trans q1
  have kw2 : IntKind.i64.wrap (t / 1000000000 - 2208988800) = ofS t := IntWalk.i64_in _ (by omega)
  have kw3 : IntKind.i64.wrap (t.tmod 1000000000) = t % 1000000000 := (IntWalk.i64_in _ (by omega)).trans q2
  clear q1 h1 h2
  generalize ofS t = S at *
  generalize t % 1000000000 = N at *
  go_enter Try.func29, Try.ntmps29
  go_wp2
  exact bodyPost_ret (v := .tuple #[.agg #[.int .i64 S, .int .i64 N], .int .i64 0]) (results_cell_tmp rfl _ _ w.heap.size 33 #[.int .i64 S, .int .i64 N] _ _ rfl rfl (Blk.new _ _ _) Try.underlying33 rfl (by kernel_rfl)) rfl ⟨rfl, bel_bx' w _⟩
set_option maxHeartbeats 2000000 in
set_option maxRecDepth 100000 in
theorem instant_any (p : Pl.PM) (w : World) : Calls Try.prog 28 #[pmV p] w fun e w' => e = .returned (.tuple #[.int .i64 (Pl.insN p), .bool (Pl.insB p)]) ∧ Below w.heap.size w w' := by
  have TM := fun W => ptime_any p.se p.na W
  have K0 := one_mk w 38 (pmA p)
  have c8 := K0.2.cell 8
  have c9 := K0.2.cell 9
  cases ho : Pl.tmOk p.se p.na with
  | false =>
    have e1 : Pl.insB p = false := by simp [Pl.insB, ho]
    have e2 : Pl.insN p = 0 := by simp [Pl.insN, e1]
    have e3 : Pl.tmN p.se p.na = 0 := by simp [Pl.tmN, ho]
    have e4 : Pl.tmE p.se p.na = 3 := by simp [Pl.tmE, ho]
    rw [e1, e2]
    rw [e3, e4] at TM
    replace TM := Lib.hid TM
    clear e1 e2 e3 e4 ho
    go_enter Try.func28, Try.ntmps28
    go_wp2_with fail
    refine (TM.out _).mono ?_
    rintro _ w1 ⟨rfl, l1⟩
    have K1 := Lib.hid (K0.on l1)
    clear l1
    go_wp2
    go_ret2
    exact ⟨rfl, K1.out.1⟩
  | true =>
    have hb := Pl.tmOk_in ho
    have e3 : Pl.tmN p.se p.na = Pl.tmT p.se p.na := by simp [Pl.tmN, ho]
    have e4 : Pl.tmE p.se p.na = 0 := by simp [Pl.tmE, ho]
    rw [e3, e4] at TM
    have h0 : 0 ≤ Pl.tmT p.se p.na := by unfold Pl.tmT; omega
    have e1 : Pl.insB p = Pl.rdg (Pl.tmT p.se p.na - 3900000000000000000) := by simp [Pl.insB, ho]
    unfold Pl.insN
    rw [e1]
    obtain ⟨T, hT⟩ : ∃ T, Pl.tmT p.se p.na = T := ⟨_, rfl⟩
    rw [hT] at TM hb h0 ⊢
    have kw0 : IntKind.i64.wrap (T - 3900000000000000000) = T - 3900000000000000000 := IntWalk.i64_in _ (by omega)
    have RD := fun W => reading_any (T - 3900000000000000000) W
    obtain ⟨D, hD⟩ : ∃ D, T - 3900000000000000000 = D := ⟨_, rfl⟩
    rw [hD] at RD ⊢
    have kw : IntKind.i64.wrap (T - 3900000000000000000) = D := kw0.trans hD
    clear kw0
    replace TM := Lib.hid TM
    clear e3 e4 e1 h0 hb hT hD ho
    cases hr : Pl.rdg D
    all_goals (
      rw [hr] at RD
      replace RD := Lib.hid RD
      clear hr
      go_enter Try.func28, Try.ntmps28
      go_wp2_with fail
      refine (TM.out _).mono ?_
      rintro _ w1 ⟨rfl, l1⟩
      have K1 := Lib.hid (K0.on l1)
      clear l1
      go_wp2_with fail
      refine (RD.out _).mono ?_
      rintro _ w1 ⟨rfl, rfl⟩
      go_wp2
      go_ret2
      exact ⟨rfl, K1.out.1⟩)
end Go.Proofs.Ytmdfbcabpmadgaa
