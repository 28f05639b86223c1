/- Contracts of Stay, correct and Add of layer 40 and of its reference. -/
import Derived.Test.YtnlfkafebbfenaaPtpRef
namespace Go.Proofs.Ytnlfkafebbfenaa
namespace Pl
def cE (t : Int) : Int := if fit (t * 65536) = true then 0 else 3
def sat (a b : Int) : Int := if fit (a + b) = true then a + b else if 0 < a then 9223372036854775807 else -9223372036854775808
end Pl
open Go.RowKit Go.Lib Go.Maps

/-- a message's numbers are of their kinds -/
structure PmWf (p : Pl.PM) : Prop where
  k : (Lit.int .i64 p.k).wf = true
  d : (Lit.int .i64 p.d).wf = true
  fl : (Lit.int .i64 p.fl).wf = true
  co : (Lit.int .i64 p.co).wf = true
  ck : (Lit.int .u64 p.ck).wf = true
  po : (Lit.int .i64 p.po).wf = true
  sq : (Lit.int .i64 p.sq).wf = true
theorem wf64 {n : Int} (h : (Lit.int .i64 n).wf = true) : -9223372036854775808 ≤ n ∧ n ≤ 9223372036854775807 := by
  have hmin : IntKind.i64.min = -9223372036854775808 := rfl
  have hmax : IntKind.i64.max = 9223372036854775807 := rfl
  simp only [Lit.wf, Bool.and_eq_true, decide_eq_true_eq] at h
  omega

theorem corr_any (n : Int) (h1 : -9223372036854775808 ≤ n) (h2 : n ≤ 9223372036854775807) (w : World) : Calls Try.prog 42 #[.int .i64 n] w fun e w' => e = .returned (.tuple #[.int .i64 (Pl.kept (n * 65536)), .int .i64 (Pl.cE n)]) ∧ w = w' := by
  have M := fun W => fmul_any n 65536 h1 h2 (by omega) (by omega) W
  unfold Pl.cE
  cases hf : Pl.fit (n * 65536) with
  | true =>
    rw [hf] at M
    obtain ⟨K, hK⟩ : ∃ K, Pl.kept (n * 65536) = K := ⟨_, rfl⟩
    rw [hK] at M ⊢
    replace M := Lib.hid M
    rw [if_pos rfl]
    clear hf hK
    go_enter Try.func42, Try.ntmps42
    go_wp2_with fail
    refine (M.out _).mono ?_
    rintro _ w1 ⟨rfl, rfl⟩
    go_wp2
    go_ret2
    exact ⟨rfl, rfl⟩
  | false =>
    rw [hf] at M
    have e : Pl.kept (n * 65536) = 0 := by simp [Pl.kept, hf]
    rw [e] at M ⊢
    replace M := Lib.hid M
    rw [if_neg (by simp)]
    clear hf e
    go_enter Try.func42, Try.ntmps42
    go_wp2_with fail
    refine (M.out _).mono ?_
    rintro _ w1 ⟨rfl, rfl⟩
    go_wp2
    go_ret2
    exact ⟨rfl, rfl⟩
theorem addcorr_any (a b : Int) (h1 : -9223372036854775808 ≤ a) (h2 : a ≤ 9223372036854775807) (h3 : -9223372036854775808 ≤ b) (h4 : b ≤ 9223372036854775807) (w : World) :
    Calls Try.prog 43 #[.int .i64 a, .int .i64 b] w fun e w' => e = .returned (.tuple #[.int .i64 (Pl.sat a b), .bool (Pl.fit (a + b))]) ∧ w = w' := by
  have M := fun W => fadd_any a b h1 h2 h3 h4 W
  unfold Pl.sat
  cases hf : Pl.fit (a + b) with
  | true =>
    rw [hf, Pl.kept_yes hf] at M
    replace M := Lib.hid M
    rw [if_pos rfl]
    clear hf
    go_enter Try.func43, Try.ntmps43
    go_wp2_with fail
    refine (M.out _).mono ?_
    rintro _ w1 ⟨rfl, rfl⟩
    go_wp2
    go_ret2
    exact ⟨rfl, rfl⟩
  | false =>
    have e : Pl.kept (a + b) = 0 := by simp [Pl.kept, hf]
    rw [hf, e] at M
    replace M := Lib.hid M
    rw [if_neg (by simp)]
    clear hf e
    by_cases c : 0 < a
    · rw [if_pos c]
      go_enter Try.func43, Try.ntmps43
      go_wp2_with fail
      refine (M.out _).mono ?_
      rintro _ w1 ⟨rfl, rfl⟩
      go_wp2
      go_ret2
      exact ⟨rfl, rfl⟩
    · rw [if_neg c]
      go_enter Try.func43, Try.ntmps43
      go_wp2_with fail
      refine (M.out _).mono ?_
      rintro _ w1 ⟨rfl, rfl⟩
      go_wp2
      go_ret2
      exact ⟨rfl, rfl⟩
theorem unscale_any (n p : Int) (h1 : -9223372036854775808 ≤ n) (h2 : n ≤ 9223372036854775807) (hp : -500000 ≤ p) (hp2 : p ≤ 500000) (w : World) :
    Calls Try.prog 29 #[.int .i64 n, .int .i64 p] w fun e w' => e = .returned (.tuple #[.int .i64 (Pl.kept (Pl.md n 1000000000 (1000000000 + p))), .bool (Pl.fit (Pl.md n 1000000000 (1000000000 + p)))]) ∧ ∃ m, w' = w.drewN m := by
  have M := Lib.hid (fun W => fmuldiv_any n 1000000000 (1000000000 + p) h1 h2 (by omega) (by omega) (by omega) (by omega) W)
  have kw : IntKind.i64.wrap (1000000000 + p) = 1000000000 + p := IntWalk.i64_in _ (by omega)
  have t1 : decide (p < -500000) = false := by simp; omega
  have t2 : decide (500000 < p) = false := by simp; omega
  go_enter Try.func29, Try.ntmps29
  go_wp2_with fail
  refine (M.out _).mono ?_
  rintro _ w1 ⟨rfl, m, rfl⟩
  go_wp2
  go_ret2
  exact ⟨rfl, m, rfl⟩
theorem runscale_any (n p : Int) (h1 : -9223372036854775808 ≤ n) (h2 : n ≤ 9223372036854775807) (hp : -500000 ≤ p) (hp2 : p ≤ 500000) (w : World) :
    Calls Try.prog 30 #[.int .i64 n, .int .i64 p] w fun e w' => e = .returned (.tuple #[.int .i64 (Pl.kept (Pl.md n 1000000000 (1000000000 + p))), .bool (Pl.fit (Pl.md n 1000000000 (1000000000 + p)))]) ∧ w = w' := by
  have M := Lib.hid (fun W => rmuldiv_any n 1000000000 (1000000000 + p) h1 h2 (by omega) (by omega) (by omega) (by omega) W)
  have kw : IntKind.i64.wrap (1000000000 + p) = 1000000000 + p := IntWalk.i64_in _ (by omega)
  have t1 : decide (p < -500000) = false := by simp; omega
  have t2 : decide (500000 < p) = false := by simp; omega
  go_enter Try.func30, Try.ntmps30
  go_wp2_with fail
  refine (M.out _).mono ?_
  rintro _ w1 ⟨rfl, rfl⟩
  go_wp2
  go_ret2
  exact ⟨rfl, rfl⟩

set_option maxHeartbeats 1000000 in
theorem stay_any (i o p : Int) (w : World) : Calls Try.prog 11 #[.int .i64 i, .int .i64 o, .int .i64 p] w fun e w' => e = .returned (.tuple #[.int .i64 (Pl.stayN i o p), .int .i64 (Pl.stayE i o p)]) ∧ Below w.heap.size w w' := by
  by_cases hr : (-4503599627370496 ≤ i ∧ i ≤ 4503599627370496) ∧ (-4503599627370496 ≤ o ∧ o ≤ 4503599627370496) ∧ (-500000 ≤ p ∧ p ≤ 500000)
  · obtain ⟨⟨i1, i2⟩, ⟨o1, o2⟩, ⟨p1, p2⟩⟩ := hr
    have e : Pl.stayE i o p = if o < i then 12 else 0 := by
      unfold Pl.stayE
      rw [if_pos (by simp [Pl.inr_iff]; omega)]
    by_cases c : o < i
    · rw [if_pos c] at e
      have e2 : Pl.stayN i o p = 0 := by unfold Pl.stayN; rw [e]; rfl
      rw [e, e2]
      clear e e2
      go_enter Try.func11, Try.ntmps11
      go_wp2
      go_ret2
      exact ⟨rfl, Below.refl _ _⟩
    · rw [if_neg c] at e
      have e2 : Pl.stayN i o p = Pl.md (o - i) 1000000000 (1000000000 + p) := by unfold Pl.stayN; rw [if_pos e]
      have hf := Pl.stay_fit e
      have M := fun W => unscale_any (o - i) p (by omega) (by omega) p1 p2 W
      rw [hf, Pl.kept_yes hf] at M
      rw [e, e2]
      obtain ⟨K, hK⟩ : ∃ K, Pl.md (o - i) 1000000000 (1000000000 + p) = K := ⟨_, rfl⟩
      rw [hK] at M ⊢
      replace M := Lib.hid M
      have kw : IntKind.i64.wrap (o - i) = o - i := IntWalk.i64_in _ (by omega)
      clear e e2 hf hK
      go_enter Try.func11, Try.ntmps11
      go_wp2_with fail
      refine (M.out _).mono ?_
      rintro _ w1 ⟨rfl, m, rfl⟩
      go_wp2
      go_ret2
      exact ⟨rfl, below_drewN (Below.refl _ _) m⟩
  · have e : Pl.stayE i o p = 3 := by
      unfold Pl.stayE
      rw [if_neg (by simp [Pl.inr_iff]; omega)]
    have e2 : Pl.stayN i o p = 0 := by unfold Pl.stayN; rw [e]; rfl
    rw [e, e2]
    clear e e2
    have hc : i < -4503599627370496 ∨ (-4503599627370496 ≤ i ∧ (4503599627370496 < i ∨ (i ≤ 4503599627370496 ∧ (o < -4503599627370496 ∨ (-4503599627370496 ≤ o ∧ (4503599627370496 < o ∨ (o ≤ 4503599627370496 ∧ (p < -500000 ∨ (-500000 ≤ p ∧ 500000 < p))))))))) := by omega
    clear hr
    rcases hc with q | ⟨q, q | ⟨q2, q3 | ⟨q3, q4 | ⟨q4, q5 | ⟨q5, q6⟩⟩⟩⟩⟩
    all_goals (
      go_enter Try.func11, Try.ntmps11
      go_wp2
      go_ret2
      exact ⟨rfl, Below.refl _ _⟩)

set_option maxHeartbeats 1000000 in
theorem rstay_any (i o p : Int) (w : World) : Calls Try.prog 12 #[.int .i64 i, .int .i64 o, .int .i64 p] w fun e w' => e = .returned (.tuple #[.int .i64 (Pl.stayN i o p), .int .i64 (Pl.stayE i o p)]) ∧ Below w.heap.size w w' := by
  by_cases hr : (-4503599627370496 ≤ i ∧ i ≤ 4503599627370496) ∧ (-4503599627370496 ≤ o ∧ o ≤ 4503599627370496) ∧ (-500000 ≤ p ∧ p ≤ 500000)
  · obtain ⟨⟨i1, i2⟩, ⟨o1, o2⟩, ⟨p1, p2⟩⟩ := hr
    have e : Pl.stayE i o p = if o < i then 12 else 0 := by
      unfold Pl.stayE
      rw [if_pos (by simp [Pl.inr_iff]; omega)]
    by_cases c : o < i
    · rw [if_pos c] at e
      have e2 : Pl.stayN i o p = 0 := by unfold Pl.stayN; rw [e]; rfl
      rw [e, e2]
      clear e e2
      go_enter Try.func12, Try.ntmps12
      go_wp2
      go_ret2
      exact ⟨rfl, Below.refl _ _⟩
    · rw [if_neg c] at e
      have e2 : Pl.stayN i o p = Pl.md (o - i) 1000000000 (1000000000 + p) := by unfold Pl.stayN; rw [if_pos e]
      have hf := Pl.stay_fit e
      have M := fun W => runscale_any (o - i) p (by omega) (by omega) p1 p2 W
      rw [hf, Pl.kept_yes hf] at M
      rw [e, e2]
      obtain ⟨K, hK⟩ : ∃ K, Pl.md (o - i) 1000000000 (1000000000 + p) = K := ⟨_, rfl⟩
      rw [hK] at M ⊢
      replace M := Lib.hid M
      have kw : IntKind.i64.wrap (o - i) = o - i := IntWalk.i64_in _ (by omega)
      clear e e2 hf hK
      go_enter Try.func12, Try.ntmps12
      go_wp2_with fail
      refine (M.out _).mono ?_
      rintro _ w1 ⟨rfl, rfl⟩
      go_wp2
      go_ret2
      exact ⟨rfl, Below.refl _ _⟩
  · have e : Pl.stayE i o p = 3 := by
      unfold Pl.stayE
      rw [if_neg (by simp [Pl.inr_iff]; omega)]
    have e2 : Pl.stayN i o p = 0 := by unfold Pl.stayN; rw [e]; rfl
    rw [e, e2]
    clear e e2
    have hc : i < -4503599627370496 ∨ (-4503599627370496 ≤ i ∧ (4503599627370496 < i ∨ (i ≤ 4503599627370496 ∧ (o < -4503599627370496 ∨ (-4503599627370496 ≤ o ∧ (4503599627370496 < o ∨ (o ≤ 4503599627370496 ∧ (p < -500000 ∨ (-500000 ≤ p ∧ 500000 < p))))))))) := by omega
    clear hr
    rcases hc with q | ⟨q, q | ⟨q2, q3 | ⟨q3, q4 | ⟨q4, q5 | ⟨q5, q6⟩⟩⟩⟩⟩
    all_goals (
      go_enter Try.func12, Try.ntmps12
      go_wp2
      go_ret2
      exact ⟨rfl, Below.refl _ _⟩)
end Go.Proofs.Ytnlfkafebbfenaa
