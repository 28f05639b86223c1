/- The contracts of Delay and Ratio. -/
import Derived.Test.YtmdfbcabpmadgaaP2p5
namespace Go.Proofs.Ytmdfbcabpmadgaa
open Go.RowKit Go.Lib Go.Maps
set_option maxHeartbeats 4000000 in
theorem pdel_any (b : Nat) (x : Pl.XS) (w : World) (hx : Blk w b 65 (xA x)) (hok : Pl.XOk x) : Calls Try.prog 15 #[.pointer (some ⟨b, 0, none⟩)] w fun e w' => e = .returned (.tuple #[.int .i64 (Pl.delN x), .bool (Pl.delB x)]) ∧ ∃ n, w' = w.drewN n := by
  have x12 : w.cell? ⟨b, 12, none⟩ = some (.int .i64 x.cnt) := hx.cell 12
  have xz := hx.lt
  have hc := hok.cnt
  by_cases c : x.cnt = 0
  · have e1 : Pl.delB x = false := by unfold Pl.delB; rw [c]; rfl
    have e2 : Pl.delN x = 0 := by unfold Pl.delN; rw [if_pos c]
    rw [e1, e2]
    have t1 : (x.cnt == 0) = true := by simp [c]
    clear c hok hc hx e1 e2
    go_enter Try.func15, Try.ntmps15
    go_wp2
    go_ret2
    exact ⟨rfl, 0, rfl⟩
  · have e1 : Pl.delB x = true := by unfold Pl.delB; simp [c]
    have e2 : Pl.delN x = Pl.sumN x.dl (Pl.nD x) / (Pl.nD x : Int) := by unfold Pl.delN; rw [if_neg c]
    rw [e1, e2]
    have t1 : (x.cnt == 0) = false := by simp [c]
    obtain ⟨m, hm⟩ : ∃ m, Pl.nD x = m := ⟨_, rfl⟩
    have hm1 : min x.cnt 8 = (m : Int) := by rw [← hm]; unfold Pl.nD; omega
    have hm8 : 0 < m ∧ m ≤ 8 := by omega
    rw [hm]
    have hsum : ∀ k, k ≤ 8 → 0 ≤ Pl.sumN x.dl k ∧ Pl.sumN x.dl k ≤ 144115188075855872 := fun k hk => by
      have := Pl.sumN_in hok.dl k
      omega
    have DL : Hid (∀ k, k < 8 → (xA x)[13 + k]? = some (.int .i64 (x.dl k))) := Lib.hid (fun k hk => xA_dl x k hk)
    have X0 := Lib.hid hx
    have hs := hsum m hm8.2
    have FL := Lib.hid (fun W => pfloor_any (Pl.sumN x.dl m) (m : Int) (by omega) (by omega) (by omega) (by omega) W)
    obtain ⟨R, hR⟩ : ∃ R, Pl.sumN x.dl m / (m : Int) = R := ⟨_, rfl⟩
    rw [hR] at FL ⊢
    have HS := Lib.hid hsum
    have hmj : (m : Int) ≤ 8 := by omega
    clear c hc hx e1 e2 hm hok hs hR hsum
    go_enter Try.func15, Try.ntmps15
    go_wp2_with fail
    go_loopw [5, 22] (fun s i wr => ∃ k n : Nat, i = .int .i64 k ∧ s = .int .i64 (Pl.sumN x.dl k) ∧ k ≤ m ∧ wr = w.drewN n) (fun _ i _ => m - (RowKit.intOf i).toNat)
    case atStart => exact ⟨0, 0, rfl, rfl, by omega, rfl⟩
    case round =>
      obtain ⟨k, n, rfl, rfl, hk, rfl⟩ := hrel
      by_cases hlt : k < m
      · have c1 : (w.drewN n).cell? ⟨b, 13 + k, none⟩ = some (.int .i64 (x.dl k)) := (X0.out.cell (13 + k)).trans (DL.out k (by omega))
        have t2 : decide ((k : Int) < (m : Int)) = true := by simp [hlt]
        have hk0 : (0 : Int) ≤ (k : Int) := by omega
        have hk8 : (k : Int) < 8 := by omega
        have kw : IntKind.i64.wrap (Pl.sumN x.dl k + x.dl k) = Pl.sumN x.dl (k + 1) := IntWalk.i64_in _ (by have := HS.out (k + 1) (by omega); rw [Pl.sumN] at this; omega)
        have kw2 : IntKind.i64.wrap ((k : Int) + 1) = (k : Int) + 1 := IntWalk.i64_in _ (by omega)
        have xzn : b < (w.drewN n).heap.size := xz
        go_wp2_with fail
        exact ⟨⟨k + 1, n, by go_num, rfl, by omega, rfl⟩, by simp [RowKit.intOf]; omega⟩
      · obtain rfl : k = m := by omega
        have t2 : decide ((k : Int) < (k : Int)) = false := by simp
        go_wp2_with fail
        refine (FL.out _).mono ?_
        rintro _ w2 ⟨rfl, n2, rfl⟩
        go_wp2
        go_ret2
        exact ⟨rfl, n + n2, rfl⟩
set_option maxHeartbeats 4000000 in
theorem prat_any (b : Nat) (x : Pl.XS) (w : World) (hx : Blk w b 65 (xA x)) (hok : Pl.XOk x) : Calls Try.prog 22 #[.pointer (some ⟨b, 0, none⟩)] w fun e w' => e = .returned (.tuple #[.int .i64 (Pl.ratN x), .bool (Pl.ratB x)]) ∧ ∃ n, w' = w.drewN n := by
  have x12 : w.cell? ⟨b, 12, none⟩ = some (.int .i64 x.cnt) := hx.cell 12
  have x21 : w.cell? ⟨b, 21, none⟩ = some (.int .i64 x.f1) := hx.cell 21
  have x22 : w.cell? ⟨b, 22, none⟩ = some (.int .i64 x.f2) := hx.cell 22
  have x23 : w.cell? ⟨b, 23, none⟩ = some (.int .i64 x.l1) := hx.cell 23
  have x24 : w.cell? ⟨b, 24, none⟩ = some (.int .i64 x.l2) := hx.cell 24
  have xz := hx.lt
  obtain ⟨a1, a2⟩ := hok.f1
  obtain ⟨a3, a4⟩ := hok.f2
  obtain ⟨a5, a6⟩ := hok.l1
  obtain ⟨a7, a8⟩ := hok.l2
  by_cases c : x.cnt < 2
  · have e1 : Pl.ratB x = false := by unfold Pl.ratB; simp; omega
    have e2 : Pl.ratN x = 0 := by unfold Pl.ratN; rw [e1, if_neg (by simp)]
    rw [e1, e2]
    have t1 : decide (x.cnt < 2) = true := by simp [c]
    clear c hok hx e1 e2 a1 a2 a3 a4 a5 a6 a7 a8
    go_enter Try.func22, Try.ntmps22
    go_wp2
    go_ret2
    exact ⟨rfl, 0, rfl⟩
  · have t1 : decide (x.cnt < 2) = false := by simp; omega
    obtain ⟨P, hP⟩ : ∃ P, x.l1 - x.f1 = P := ⟨_, rfl⟩
    obtain ⟨L, hL⟩ : ∃ P, x.l2 - x.f2 = P := ⟨_, rfl⟩
    have kw1 : IntKind.i64.wrap (x.l1 - x.f1) = P := (IntWalk.i64_in _ (by omega)).trans hP
    have kw2 : IntKind.i64.wrap (x.l2 - x.f2) = L := (IntWalk.i64_in _ (by omega)).trans hL
    by_cases d : L ≤ 0
    · have e1 : Pl.ratB x = false := by unfold Pl.ratB; rw [hL]; simp; omega
      have e2 : Pl.ratN x = 0 := by unfold Pl.ratN; rw [e1, if_neg (by simp)]
      rw [e1, e2]
      have t2 : decide (L ≤ 0) = true := by simp [d]
      clear c hok hx e1 e2 a1 a2 a3 a4 a5 a6 a7 a8 hP hL d
      go_enter Try.func22, Try.ntmps22
      go_wp2_with fail
      go_quiet (fail)
      go_wp2
      go_ret2
      exact ⟨rfl, _, rfl⟩
    · have t2 : decide (L ≤ 0) = false := by simp; omega
      have e1 : Pl.ratB x = true := by unfold Pl.ratB; rw [hL]; simp; omega
      have e2 : Pl.ratN x = max (-500000) (min (Pl.md (P - L) 1000000000 L) 500000) := by unfold Pl.ratN Pl.ratM; rw [e1, if_pos rfl, hP, hL]
      rw [e1, e2]
      have hPL : -36028797018963968 ≤ P - L ∧ P - L ≤ 36028797018963968 := by omega
      have kw3 : IntKind.i64.wrap (P - L) = P - L := IntWalk.i64_in _ (by omega)
      have MD := fun W => fmuldiv_any (P - L) 1000000000 L (by omega) (by omega) (by omega) (by omega) (by omega) (by omega) W
      have hlow : P ≤ L → Pl.md (P - L) 1000000000 L ≤ 0 := fun h => by
        unfold Pl.md
        exact Int.ediv_nonpos_of_nonpos_of_neg (by omega) (by omega)
      have hup : L ≤ P → 0 ≤ Pl.md (P - L) 1000000000 L := fun h => by
        unfold Pl.md
        exact Int.ediv_nonneg (by omega) (by omega)
      obtain ⟨M, hM⟩ : ∃ M, Pl.md (P - L) 1000000000 L = M := ⟨_, rfl⟩
      rw [hM] at MD hlow hup ⊢
      cases hf : Pl.fit M with
      | true =>
        rw [hf, Pl.kept_yes hf] at MD
        replace MD := Lib.hid MD
        have CL := Lib.hid (fun W => pclamp_any M (-500000) 500000 (by omega) W)
        clear c hok hx e1 e2 a1 a2 a3 a4 a5 a6 a7 a8 hP hL d hf hM hPL hlow hup
        go_enter Try.func22, Try.ntmps22
        go_wp2_with fail
        go_quiet (fail)
        go_wp2_with fail
        refine (MD.out _).mono ?_
        rintro _ w2 ⟨rfl, n2, rfl⟩
        go_wp2_with fail
        refine (CL.out _).mono ?_
        rintro _ w3 ⟨rfl, rfl⟩
        go_wp2
        go_ret2
        exact ⟨rfl, _, rfl⟩
      | false =>
        rw [hf, Pl.kept_no hf] at MD
        replace MD := Lib.hid MD
        have hf' := Pl.fit_no.1 hf
        by_cases q : L < P
        · have t3 : decide (L < P) = true := by simp [q]
          rw [show max (-500000) (min M 500000) = 500000 by have := hup (by omega); omega]
          clear c hok hx e1 e2 a1 a2 a3 a4 a5 a6 a7 a8 hP hL d hf hf' hM hPL hlow hup q
          go_enter Try.func22, Try.ntmps22
          go_wp2_with fail
          go_quiet (fail)
          go_wp2_with fail
          refine (MD.out _).mono ?_
          rintro _ w2 ⟨rfl, n2, rfl⟩
          go_wp2
          go_ret2
          exact ⟨rfl, _, rfl⟩
        · have t3 : decide (L < P) = false := by simp; omega
          rw [show max (-500000) (min M 500000) = -500000 by have := hlow (by omega); omega]
          clear c hok hx e1 e2 a1 a2 a3 a4 a5 a6 a7 a8 hP hL d hf hf' hM hPL hlow hup q
          go_enter Try.func22, Try.ntmps22
          go_wp2_with fail
          go_quiet (fail)
          go_wp2_with fail
          refine (MD.out _).mono ?_
          rintro _ w2 ⟨rfl, n2, rfl⟩
          go_wp2
          go_ret2
          exact ⟨rfl, _, rfl⟩
end Go.Proofs.Ytmdfbcabpmadgaa
