/- Contracts of the reference's small functions. -/
import Derived.Test.YtmdfbcabpmadgaaP2pLast
import Derived.Test.YtmdfbcabpmadgaaP2p8
namespace Go.Proofs.Ytmdfbcabpmadgaa
open Go.RowKit Go.Lib Go.Maps
theorem rnanos_any (c : Int) (h1 : -9223372036854775808 ≤ c) (h2 : c ≤ 9223372036854775807) (w : World) : Calls Try.prog 38 #[.int .i64 c] w fun e w' => e = .returned (.int .i64 (c / 65536)) ∧ w = w' := by
  have F := Lib.hid (fun W => rfloor_any c 65536 h1 h2 (by omega) (by omega) W)
  obtain ⟨K, hK⟩ : ∃ K, c / 65536 = K := ⟨_, rfl⟩
  rw [hK] at F ⊢
  clear hK h1 h2
  go_enter Try.func38, Try.ntmps38
  go_wp2_with fail
  refine (F.out _).mono ?_
  rintro _ w1 ⟨rfl, rfl⟩
  go_wp2
  go_ret
  exact ⟨rfl, rfl⟩
theorem raddcorr_any (a b : Int) (h1 : -9223372036854775808 ≤ a) (h2 : a ≤ 9223372036854775807) (h3 : -9223372036854775808 ≤ b) (h4 : b ≤ 9223372036854775807) (w : World) : Calls Try.prog 36 #[.int .i64 a, .int .i64 b] w fun e w' => e = .returned (.tuple #[.int .i64 (Pl.sat a b), .bool (Pl.fit (a + b))]) ∧ w = w' := by
  have M := fun W => radd_any a b h1 h2 h3 h4 W
  unfold Pl.sat
  cases hf : Pl.fit (a + b) with
  | true =>
    rw [hf, Pl.kept_yes hf] at M
    rw [if_pos rfl]
    obtain ⟨K, hK⟩ : ∃ K, a + b = K := ⟨_, rfl⟩
    rw [hK] at M ⊢
    replace M := Lib.hid M
    clear hf hK
    go_enter Try.func36, Try.ntmps36
    go_wp2_with fail
    refine (M.out _).mono ?_
    rintro _ w1 ⟨rfl, rfl⟩
    go_wp2
    go_ret2
    exact ⟨rfl, rfl⟩
  | false =>
    rw [hf, Pl.kept_no hf] at M
    rw [if_neg (by simp)]
    replace M := Lib.hid M
    clear hf
    by_cases c : 0 < a
    · rw [if_pos c]
      have t1 : decide (0 < a) = true := by simp [c]
      clear c
      go_enter Try.func36, Try.ntmps36
      go_wp2_with fail
      refine (M.out _).mono ?_
      rintro _ w1 ⟨rfl, rfl⟩
      go_wp2
      go_ret2
      exact ⟨rfl, rfl⟩
    · rw [if_neg c]
      have t1 : decide (0 < a) = false := by simp; omega
      clear c
      go_enter Try.func36, Try.ntmps36
      go_wp2_with fail
      refine (M.out _).mono ?_
      rintro _ w1 ⟨rfl, rfl⟩
      go_wp2
      go_ret2
      exact ⟨rfl, rfl⟩
theorem rhalf_any (n : Int) (h1 : -9223372036854775808 ≤ n) (h2 : n ≤ 9223372036854775807) (w : World) : Calls Try.prog 37 #[.int .i64 n] w fun e w' => e = .returned (.int .i64 (max 0 (n / 2))) ∧ w = w' := by
  have F := Lib.hid (fun W => rfloor_any n 2 h1 h2 (by omega) (by omega) W)
  obtain ⟨K, hK⟩ : ∃ K, n / 2 = K := ⟨_, rfl⟩
  rw [hK] at F ⊢
  clear hK h1 h2
  go_enter Try.func37, Try.ntmps37
  go_wp2_with fail
  refine (F.out _).mono ?_
  rintro _ w1 ⟨rfl, rfl⟩
  go_wp2
  go_ret
  exact ⟨rfl, rfl⟩
theorem rinside_any (n : Int) (w : World) : Calls Try.prog 33 #[.int .i64 n] w fun e w' => e = .returned (.bool (Pl.rdg n)) ∧ w = w' := by
  go_enter Try.func33, Try.ntmps33
  go_wp2
  all_goals (go_ret; exact ⟨congrArg Ending.returned (congrArg Value.bool (by simp [Pl.rdg, Pl.inr] <;> omega)), rfl⟩)
set_option maxHeartbeats 2000000 in
theorem rtime_any (s n : Int) (w : World) : Calls Try.prog 48 #[.agg #[.int .i64 s, .int .i64 n]] w fun e w' => e = .returned (.tuple #[.int .i64 (Pl.tmN s n), .int .i64 (Pl.tmE s n)]) ∧ Below w.heap.size w w' := by
  have SC := fun W => rst_any s n W
  have K0 := one_mk w 33 #[.int .i64 s, .int .i64 n]
  by_cases hs : Pl.stOk s n = true
  · have hb := Pl.stOk_iff.1 hs
    rw [Pl.stE_zero.2 hs] at SC
    replace SC := Lib.hid SC
    have kw : IntKind.i64.wrap (s + 2208988800) = s + 2208988800 := IntWalk.i64_in _ (by omega)
    have kw2 : IntKind.i64.wrap (8000000000000000000 - n) = 8000000000000000000 - n := IntWalk.i64_in _ (by omega)
    have M := fun W => rmul_any (s + 2208988800) 1000000000 (by omega) (by omega) (by omega) (by omega) W
    have e : Pl.tmT s n = (s + 2208988800) * 1000000000 + n := rfl
    obtain ⟨X, hX⟩ : ∃ X, (s + 2208988800) * 1000000000 = X := ⟨_, rfl⟩
    rw [hX] at M e
    cases hf : Pl.fit X with
    | true =>
      have g1 := Pl.fit_iff.1 hf
      rw [hf, Pl.kept_yes hf] at M
      replace M := Lib.hid M
      by_cases hT : X + n ≤ 8000000000000000000
      · have ho : Pl.tmOk s n = true := by simp [Pl.tmOk, hs, e, hT]
        unfold Pl.tmN Pl.tmE
        rw [if_pos ho, if_pos ho, e]
        have kw3 : IntKind.i64.wrap (X + n) = X + n := IntWalk.i64_in _ (by omega)
        have tt : decide (8000000000000000000 - n < X) = false := by simp; omega
        clear hf e hX ho hs hb hT g1
        go_enter Try.func48, Try.ntmps48
        go_wp2_with fail
        refine (SC.out _).mono ?_
        rintro _ w1 ⟨rfl, l1⟩
        have K1 := K0.on l1
        obtain ⟨k0, k1, kz⟩ := K1.cells
        replace K1 := Lib.hid K1
        clear l1
        go_wp2_with fail
        refine (M.out _).mono ?_
        rintro _ w2 ⟨rfl, rfl⟩
        go_wp2
        go_ret2
        exact ⟨rfl, K1.out.1⟩
      · have ho : Pl.tmOk s n = false := by simp [Pl.tmOk, e, hT]
        unfold Pl.tmN Pl.tmE
        rw [if_neg (by simp [ho]), if_neg (by simp [ho])]
        have tt : decide (8000000000000000000 - n < X) = true := by simp; omega
        clear hf e hX ho hs hb hT g1
        go_enter Try.func48, Try.ntmps48
        go_wp2_with fail
        refine (SC.out _).mono ?_
        rintro _ w1 ⟨rfl, l1⟩
        have K1 := K0.on l1
        obtain ⟨k0, k1, kz⟩ := K1.cells
        replace K1 := Lib.hid K1
        clear l1
        go_wp2_with fail
        refine (M.out _).mono ?_
        rintro _ w2 ⟨rfl, rfl⟩
        go_wp2
        go_ret2
        exact ⟨rfl, K1.out.1⟩
    | false =>
      rw [hf, Pl.kept_no hf] at M
      replace M := Lib.hid M
      have hf' := Pl.fit_no.1 hf
      have ho : Pl.tmOk s n = false := by
        have : ¬ (X + n ≤ 8000000000000000000) := by omega
        simp [Pl.tmOk, e, this]
      unfold Pl.tmN Pl.tmE
      rw [if_neg (by simp [ho]), if_neg (by simp [ho])]
      clear hf hf' e hX ho hs hb
      go_enter Try.func48, Try.ntmps48
      go_wp2_with fail
      refine (SC.out _).mono ?_
      rintro _ w1 ⟨rfl, l1⟩
      have K1 := K0.on l1
      obtain ⟨k0, k1, kz⟩ := K1.cells
      replace K1 := Lib.hid K1
      clear l1
      go_wp2_with fail
      refine (M.out _).mono ?_
      rintro _ w2 ⟨rfl, rfl⟩
      go_wp2
      go_ret2
      exact ⟨rfl, K1.out.1⟩
  · have ho : Pl.tmOk s n = false := by simp [Pl.tmOk, hs]
    unfold Pl.tmN Pl.tmE
    rw [if_neg (by simp [ho]), if_neg (by simp [ho])]
    have e : Pl.stE s n = 3 := by unfold Pl.stE; rw [if_neg hs]
    rw [e] at SC
    replace SC := Lib.hid SC
    clear hs ho e
    go_enter Try.func48, Try.ntmps48
    go_wp2_with fail
    refine (SC.out _).mono ?_
    rintro _ w1 ⟨rfl, l1⟩
    have K1 := Lib.hid (K0.on l1)
    clear l1
    go_wp2
    go_ret2
    exact ⟨rfl, K1.out.1⟩
theorem rinstant_any (p : Pl.PM) (w : World) : Calls Try.prog 35 #[.agg #[.int .i64 p.se, .int .i64 p.na]] w fun e w' => e = .returned (.tuple #[.int .i64 (Pl.tmN p.se p.na - 3900000000000000000), .bool (Pl.insB p)]) ∧ Below w.heap.size w w' := by
  have TM := fun W => rtime_any p.se p.na W
  have K0 := one_mk w 33 #[.int .i64 p.se, .int .i64 p.na]
  have hT0 : 0 ≤ Pl.tmN p.se p.na ∧ Pl.tmN p.se p.na ≤ 8000000000000000000 := by
    unfold Pl.tmN
    split
    · rename_i h
      have := Pl.tmOk_in h
      unfold Pl.tmT at this ⊢
      omega
    · omega
  cases ho : Pl.tmOk p.se p.na with
  | false =>
    have e1 : Pl.insB p = false := by simp [Pl.insB, ho]
    have e4 : Pl.tmE p.se p.na = 3 := by simp [Pl.tmE, ho]
    rw [e1]
    rw [e4] at TM
    obtain ⟨T, hT⟩ : ∃ T, Pl.tmN p.se p.na = T := ⟨_, rfl⟩
    rw [hT] at TM hT0 ⊢
    have kw : IntKind.i64.wrap (T - 3900000000000000000) = T - 3900000000000000000 := IntWalk.i64_in _ (by omega)
    replace TM := Lib.hid TM
    clear e1 e4 ho hT hT0
    go_enter Try.func35, Try.ntmps35
    go_wp2_with fail
    refine (TM.out _).mono ?_
    rintro _ w1 ⟨rfl, l1⟩
    have K1 := Lib.hid (K0.on l1)
    clear l1
    go_wp2
    go_ret2
    exact ⟨rfl, K1.out.1⟩
  | true =>
    have e4 : Pl.tmE p.se p.na = 0 := by simp [Pl.tmE, ho]
    have e3 : Pl.tmN p.se p.na = Pl.tmT p.se p.na := by simp [Pl.tmN, ho]
    have e1 : Pl.insB p = Pl.rdg (Pl.tmN p.se p.na - 3900000000000000000) := by rw [e3]; simp [Pl.insB, ho]
    rw [e1]
    rw [e4] at TM
    obtain ⟨T, hT⟩ : ∃ T, Pl.tmN p.se p.na = T := ⟨_, rfl⟩
    rw [hT] at TM hT0 ⊢
    have kw0 : IntKind.i64.wrap (T - 3900000000000000000) = T - 3900000000000000000 := IntWalk.i64_in _ (by omega)
    have RD := fun W => rinside_any (T - 3900000000000000000) W
    obtain ⟨D, hD⟩ : ∃ D, T - 3900000000000000000 = D := ⟨_, rfl⟩
    rw [hD] at RD ⊢
    have kw : IntKind.i64.wrap (T - 3900000000000000000) = D := kw0.trans hD
    clear kw0
    replace TM := Lib.hid TM
    replace RD := Lib.hid RD
    clear e1 e3 e4 ho hT hT0 hD
    go_enter Try.func35, Try.ntmps35
    go_wp2_with fail
    refine (TM.out _).mono ?_
    rintro _ w1 ⟨rfl, l1⟩
    have K1 := Lib.hid (K0.on l1)
    clear l1
    go_wp2_with fail
    refine (RD.out _).mono ?_
    rintro _ w1 ⟨rfl, rfl⟩
    go_wp2
    go_ret2
    exact ⟨rfl, K1.out.1⟩
theorem ins_val {p : Pl.PM} (h : Pl.insB p = true) : Pl.tmN p.se p.na - 3900000000000000000 = Pl.insN p := by
  unfold Pl.insN
  rw [if_pos h]
  unfold Pl.insB at h
  simp only [Bool.and_eq_true] at h
  unfold Pl.tmN
  rw [if_pos h.1]
end Go.Proofs.Ytmdfbcabpmadgaa
