/- The walk of P2pMeasures. -/
import Derived.Test.YtmdfbcabpmadgaaP2pForg
import Derived.Test.YtmdfbcabpmadgaaOpenFours
namespace Go.Proofs.Ytmdfbcabpmadgaa
namespace Pl
/-- did all ways back take the same time? -/
def stB (z : Nat → Nat → Int) : Nat → Bool
  | 0 => true
  | n + 1 => stB z n && (z n 2 == z 0 2)
theorem stB_zero {z : Nat → Nat → Int} {n : Nat} (h : stB z (n + 1) = true) : z n 2 = z 0 2 := by
  unfold stB at h
  simp at h
  exact h.2
end Pl
open Go.RowKit Go.Lib Go.Maps
theorem rat_of {x : Pl.XS} {n : Int} {k : Bool} (h1 : Pl.ratN x = n) (h2 : Pl.ratB x = k) (hok : Pl.XOk x) (b : Nat) (w : World) (hx : Blk w b 65 (xA x)) :
    Calls Try.prog 22 #[.pointer (some ⟨b, 0, none⟩)] w fun e w' => e = .returned (.tuple #[.int .i64 n, .bool k]) ∧ ∃ n, w' = w.drewN n := by
  have := prat_any b x w hx hok
  rw [h1, h2] at this
  exact this
theorem wfi32 {n : Int} (h : (Lit.int .i32 n).wf = true) : -2147483648 ≤ n ∧ n ≤ 2147483647 := by
  have hmin : IntKind.i32.min = -2147483648 := rfl
  have hmax : IntKind.i32.max = 2147483647 := rfl
  simp only [Lit.wf, Bool.and_eq_true, decide_eq_true_eq] at h
  omega
set_option maxHeartbeats 4000000 in
set_option maxRecDepth 100000 in
theorem p2pMeasures_yes (d : Int) (a : Option Addr) (len cap : Nat) (z : Nat → Nat → Int) (w : World) (hd : -2147483648 ≤ d ∧ d ≤ 2147483647) (hl : len ≤ 8) (hcap : len ≤ cap) (hc2 : cap ≤ 9223372036854775807) (hz : FoursK .u32 w a len z) :
    Calls Try.prog 5 #[.int .i32 d, .slice a len cap] w fun e w' => e = .returned (.bool true) ∧ Below w.heap.size w w' := by
  have hzb : ∀ i, i < len → ∀ j, j < 4 → 0 ≤ z i j ∧ z i j ≤ 4294967295 := fun i hi j hj => by
    obtain ⟨x, _, _, h⟩ := hz i hi
    exact wfu32 (h j hj).2
  have NW := Lib.hid (fun W => pnew_yes 0 (by omega) (by omega) W)
  have HZ := Lib.hid hz
  have HB := Lib.hid hzb
  have tl : decide (8 < (len : Int)) = false := by simp; omega
  have kwd : IntKind.i64.wrap d = d := IntWalk.i64_in _ (by omega)
  clear hz hzb
  go_enter Try.func5, Try.ntmps5
  go_wp2_with fail
  refine (NW.out _).mono ?_
  rintro _ w1 ⟨rfl, X1, l1⟩
  have E1 : Hid (Ex w w1 (Pl.mX d z 0)) := Lib.hid ⟨l1, X1⟩
  clear X1 l1
  go_wp2_with fail
  go_loopw [6, 7, 8, 25] (fun t s st i wr => ∃ j : Nat, i = .int .i64 j ∧ t = .int .i64 (Pl.mT z j) ∧ s = .int .i64 (Pl.sumN (Pl.mD z) j) ∧ st = .bool (Pl.stB z j) ∧ j ≤ len ∧ Hid (Ex w wr (Pl.mX d z j))) (fun _ _ _ i _ => len - (RowKit.intOf i).toNat)
  case atStart => exact ⟨0, rfl, rfl, rfl, rfl, by omega, E1⟩
  case round =>
    obtain ⟨j, rfl, rfl, rfl, rfl, hj, hE⟩ := hrel
    by_cases hlt : j < len
    · obtain ⟨bx, ox, rfl, hb0, hb1, c0, c1, c2, c3⟩ := foursK_at HZ.out hE.out.1 hlt
      obtain ⟨bx', ox', he, _, _, _, _, z2, _⟩ := foursK_at HZ.out hE.out.1 (show 0 < len by omega)
      injection he with he
      injection he with he1 he2
      subst he1 he2
      rw [Nat.zero_mul, Nat.add_zero] at z2
      obtain ⟨i1, i2, i3, i4, i5⟩ := Pl.m_in HB.out hl hlt
      obtain ⟨r1, r2, r3, r4⟩ := Pl.m_rdg hd HB.out hl hlt
      obtain ⟨a1, a2, a3⟩ := Pl.mX_all hd HB.out hl j (by omega)
      obtain ⟨b1, b2, b3⟩ := Pl.mX_all hd HB.out hl (j + 1) (by omega)
      obtain ⟨d1, d2⟩ := Pl.m_del hd HB.out hl hlt
      obtain ⟨k1, k2⟩ := Pl.m_rat hd HB.out hl hlt
      have O := one_of (c := 0) (x' := Pl.mX d z (j + 1)) rfl a1 a2 (seq := j) (by omega) r1 r2 r3 r4 (by omega)
      have g0 := HB.out j hlt 0 (by omega)
      have g1 := HB.out j hlt 1 (by omega)
      have g2 := HB.out j hlt 2 (by omega)
      have g3 := HB.out j hlt 3 (by omega)
      have eT : Pl.mT z (j + 1) = Pl.mT z j + z j 0 + 1 + z j 1 + z j 3 + z j 2 := rfl
      have eA : Pl.mD z j = (z j 1 + z j 2) / 2 := rfl
      have eS : Pl.sumN (Pl.mD z) (j + 1) = Pl.sumN (Pl.mD z) j + Pl.mD z j := rfl
      have hSb : 0 ≤ Pl.sumN (Pl.mD z) j ∧ Pl.sumN (Pl.mD z) j ≤ 34359738360 := by
        have : ∀ n, n ≤ len → 0 ≤ Pl.sumN (Pl.mD z) n ∧ Pl.sumN (Pl.mD z) n ≤ n * 4294967295 := fun n => by
          induction n with
          | zero => intro _; simp [Pl.sumN]
          | succ n ih =>
            intro hn
            have := ih (by omega)
            have a1 := HB.out n (by omega) 1 (by omega)
            have a2 := HB.out n (by omega) 2 (by omega)
            have e : Pl.sumN (Pl.mD z) (n + 1) = Pl.sumN (Pl.mD z) n + (z n 1 + z n 2) / 2 := rfl
            rw [e]
            omega
        have := this j hj
        omega
      have hst : Pl.stB z (j + 1) = (Pl.stB z j && (z j 2 == z 0 2)) := rfl
      have hst0 : Pl.stB z (j + 1) = true → Pl.ratN (Pl.mX d z (j + 1)) = 0 := fun h => k2 (Pl.stB_zero h)
      rw [eT] at O
      rw [eS, eA] at d1
      unfold Pl.m3 Pl.m2 Pl.m1 at O
      have D := del_of rfl d2 b1
      have R := rat_of rfl k1 b1
      rw [d1] at D
      obtain ⟨V, hV⟩ : ∃ V, (Pl.sumN (Pl.mD z) j + (z j 1 + z j 2) / 2) / ((j : Int) + 1) = V := ⟨_, rfl⟩
      rw [hV] at D
      have HS := Lib.hid (show Pl.sumN (Pl.mD z) (j + 1) = Pl.sumN (Pl.mD z) j + (z j 1 + z j 2) / 2 from rfl)
      have HT := Lib.hid eT
      have HST := Lib.hid hst
      obtain ⟨Rn, hRn⟩ : ∃ n, Pl.ratN (Pl.mX d z (j + 1)) = n := ⟨_, rfl⟩
      rw [hRn] at R hst0
      clear eT eA eS d1 d2 k1 k2 a1 a2 a3 b1 b2 b3 r1 r2 r3 r4 hRn
      unfold Pl.m3 Pl.m2 Pl.m1 at *
      obtain ⟨T, hT⟩ : ∃ n, Pl.mT z j = n := ⟨_, rfl⟩
      obtain ⟨S, hS⟩ : ∃ n, Pl.sumN (Pl.mD z) j = n := ⟨_, rfl⟩
      obtain ⟨St, hStt⟩ : ∃ n, Pl.stB z j = n := ⟨_, rfl⟩
      obtain ⟨ga, hga⟩ : ∃ n, z j 0 = n := ⟨_, rfl⟩
      obtain ⟨th, hth⟩ : ∃ n, z j 1 = n := ⟨_, rfl⟩
      obtain ⟨ba, hba⟩ : ∃ n, z j 2 = n := ⟨_, rfl⟩
      obtain ⟨ho, hho⟩ : ∃ n, z j 3 = n := ⟨_, rfl⟩
      obtain ⟨b0, hb00⟩ : ∃ n, z 0 2 = n := ⟨_, rfl⟩
      obtain ⟨St2, hSt2⟩ : ∃ n, Pl.stB z (j + 1) = n := ⟨_, rfl⟩
      obtain ⟨S2, hS2⟩ : ∃ n, Pl.sumN (Pl.mD z) (j + 1) = n := ⟨_, rfl⟩
      obtain ⟨T2, hT2⟩ : ∃ n, Pl.mT z (j + 1) = n := ⟨_, rfl⟩
      rw [hSt2] at hst hst0
      rw [hT, hga, hth, hba, hho] at O
      rw [hS, hth, hba] at hV
      rw [hT] at i1 i2 i3 i4 ⊢
      rw [hga] at c0 g0 i2 i3 i4
      rw [hth] at c1 g1 i3 i4
      rw [hba] at c2 g2 hst
      rw [hho] at c3 g3 i4
      rw [hb00] at z2 hst
      rw [hStt] at hst ⊢
      rw [hS] at hSb ⊢
      have eqs := Lib.hid (And.intro hT (And.intro hS (And.intro hStt (And.intro hga (And.intro hth (And.intro hba (And.intro hho (And.intro hb00 (And.intro hSt2 (And.intro hS2 hT2))))))))))
      rw [hT2] at i5
      have HV := Lib.hid hV
      have kqA : (th + ba).tdiv 2 = (th + ba) / 2 := Int.tdiv_eq_ediv_of_nonneg (by omega)
      have hAb : 0 ≤ (th + ba) / 2 ∧ (th + ba) / 2 ≤ 4294967295 := by omega
      obtain ⟨A, hA⟩ : ∃ n, (th + ba) / 2 = n := ⟨_, rfl⟩
      rw [hA] at kqA hAb hV
      have HA := Lib.hid hA
      have kqV : (S + A).tdiv ((j : Int) + 1) = V := (Int.tdiv_eq_ediv_of_nonneg (by omega)).trans hV
      have hVb : 0 ≤ V ∧ V ≤ 38654705655 := by
        rw [← hV]
        have a := Int.ediv_nonneg (show 0 ≤ S + A by omega) (show (0 : Int) ≤ (j : Int) + 1 by omega)
        have b := Int.ediv_le_self ((j : Int) + 1) (show 0 ≤ S + A by omega)
        omega
      have hjz : ((j : Int) + 1 == 0) = false := by simp; omega
      have hz8 : (j : Int) ≤ 8 := by omega
      have O := Lib.hid O
      have D := Lib.hid D
      have R := Lib.hid R
      have e1 := IntWalk.i64_in ga (by omega)
      have e2 := IntWalk.i64_in th (by omega)
      have e3 := IntWalk.i64_in ba (by omega)
      have e4 := IntWalk.i64_in ho (by omega)
      have t1 : decide ((j : Int) < (len : Int)) = true := by simp [hlt]
      have hk0 : (0 : Int) ≤ (j : Int) := by omega
      have hst' := Lib.hid hst
      have hst0' := Lib.hid hst0
      clear hT hS hStt hga hth hba hho hb00 hSt2 hS2 hT2 hV hA hst hst0
      go_wp2_with fail
      have Q1 : Blk (wr.alloc (.cells #[.int .u32 ga, .int .u32 th, .int .u32 ba, .int .u32 ho] 52)) wr.heap.size 52 #[.int .u32 ga, .int .u32 th, .int .u32 ba, .int .u32 ho] := Blk.new _ _ _
      have E1' := hE.out
      have hwr : w.heap.size < wr.heap.size := hE.out.2.lt
      cases St with
      | true =>
        cases hbb : (ba == b0) with
        | true =>
          rw [hbb] at hst'
          have r0 : Rn = 0 := hst0'.out hst'.out
          have tR : (Rn != 0) = false := by simp [r0]
          clear r0
          go_quiet (fail)
          go_wp2_with fail
          refine (O.out _ _ ((E1'.2.alloc _).drewN _)).mono ?_
          rintro _ w2 ⟨rfl, X2, l2⟩
          have E2 := Lib.hid (Ex.turn (⟨below_drewN (E1'.1.alloc E1'.1.size _) _, (E1'.2.alloc _).drewN _⟩ : Ex w _ _) X2 l2)
          have Q2 := (Q1.drewN _).grown l2 (fun e => by injection e with e; omega)
          have q1 : w2.cell? ⟨wr.heap.size, 1, none⟩ = some (.int .u32 th) := Q2.cell 1
          have q2 : w2.cell? ⟨wr.heap.size, 2, none⟩ = some (.int .u32 ba) := Q2.cell 2
          have qz := Q2.lt
          clear X2 l2 Q1 Q2 E1' c0 c1 c2 c3 z2
          go_wp2_with fail
          refine (D.out _ _ E2.out.2).mono ?_
          rintro _ w3 ⟨rfl, n3, rfl⟩
          go_wp2_with fail
          refine (R.out _ _ (E2.out.2.drewN n3)).mono ?_
          rintro _ w4 ⟨rfl, n4, rfl⟩
          have E4 := Lib.hid (E2.out.drewN (n3 + n4))
          clear E2
          by_cases j0 : (0 : Int) < (j : Int)
          all_goals
            go_wp2_with fail
            exact ⟨⟨j + 1, by go_num, by rw [HT.out, eqs.out.1, eqs.out.2.2.2.1, eqs.out.2.2.2.2.1, eqs.out.2.2.2.2.2.1, eqs.out.2.2.2.2.2.2.1], by rw [HS.out, eqs.out.2.1, eqs.out.2.2.2.2.1, eqs.out.2.2.2.2.2.1, HA.out], by rw [eqs.out.2.2.2.2.2.2.2.2.1, hst'.out]; rfl, by omega, E4⟩, by simp [RowKit.intOf]; omega⟩
        | false =>
          rw [hbb] at hst'
          go_quiet (fail)
          go_wp2_with fail
          refine (O.out _ _ ((E1'.2.alloc _).drewN _)).mono ?_
          rintro _ w2 ⟨rfl, X2, l2⟩
          have E2 := Lib.hid (Ex.turn (⟨below_drewN (E1'.1.alloc E1'.1.size _) _, (E1'.2.alloc _).drewN _⟩ : Ex w _ _) X2 l2)
          have Q2 := (Q1.drewN _).grown l2 (fun e => by injection e with e; omega)
          have q1 : w2.cell? ⟨wr.heap.size, 1, none⟩ = some (.int .u32 th) := Q2.cell 1
          have q2 : w2.cell? ⟨wr.heap.size, 2, none⟩ = some (.int .u32 ba) := Q2.cell 2
          have qz := Q2.lt
          clear X2 l2 Q1 Q2 E1' c0 c1 c2 c3 z2
          go_wp2_with fail
          refine (D.out _ _ E2.out.2).mono ?_
          rintro _ w3 ⟨rfl, n3, rfl⟩
          go_wp2_with fail
          refine (R.out _ _ (E2.out.2.drewN n3)).mono ?_
          rintro _ w4 ⟨rfl, n4, rfl⟩
          have E4 := Lib.hid (E2.out.drewN (n3 + n4))
          clear E2
          by_cases j0 : (0 : Int) < (j : Int)
          all_goals
            go_wp2_with fail
            exact ⟨⟨j + 1, by go_num, by rw [HT.out, eqs.out.1, eqs.out.2.2.2.1, eqs.out.2.2.2.2.1, eqs.out.2.2.2.2.2.1, eqs.out.2.2.2.2.2.2.1], by rw [HS.out, eqs.out.2.1, eqs.out.2.2.2.2.1, eqs.out.2.2.2.2.2.1, HA.out], by rw [eqs.out.2.2.2.2.2.2.2.2.1, hst'.out]; rfl, by omega, E4⟩, by simp [RowKit.intOf]; omega⟩
      | false =>
        rw [Bool.false_and] at hst'
        go_quiet (fail)
        go_wp2_with fail
        refine (O.out _ _ ((E1'.2.alloc _).drewN _)).mono ?_
        rintro _ w2 ⟨rfl, X2, l2⟩
        have E2 := Lib.hid (Ex.turn (⟨below_drewN (E1'.1.alloc E1'.1.size _) _, (E1'.2.alloc _).drewN _⟩ : Ex w _ _) X2 l2)
        have Q2 := (Q1.drewN _).grown l2 (fun e => by injection e with e; omega)
        have q1 : w2.cell? ⟨wr.heap.size, 1, none⟩ = some (.int .u32 th) := Q2.cell 1
        have q2 : w2.cell? ⟨wr.heap.size, 2, none⟩ = some (.int .u32 ba) := Q2.cell 2
        have qz := Q2.lt
        clear X2 l2 Q1 Q2 E1' c0 c1 c2 c3 z2
        go_wp2_with fail
        refine (D.out _ _ E2.out.2).mono ?_
        rintro _ w3 ⟨rfl, n3, rfl⟩
        go_wp2_with fail
        refine (R.out _ _ (E2.out.2.drewN n3)).mono ?_
        rintro _ w4 ⟨rfl, n4, rfl⟩
        have E4 := Lib.hid (E2.out.drewN (n3 + n4))
        clear E2
        by_cases j0 : (0 : Int) < (j : Int)
        all_goals
          go_wp2_with fail
          exact ⟨⟨j + 1, by go_num, by rw [HT.out, eqs.out.1, eqs.out.2.2.2.1, eqs.out.2.2.2.2.1, eqs.out.2.2.2.2.2.1, eqs.out.2.2.2.2.2.2.1], by rw [HS.out, eqs.out.2.1, eqs.out.2.2.2.2.1, eqs.out.2.2.2.2.2.1, HA.out], by rw [eqs.out.2.2.2.2.2.2.2.2.1, hst'.out], by omega, E4⟩, by simp [RowKit.intOf]; omega⟩
    · obtain rfl : j = len := by omega
      have t1 : decide ((j : Int) < (j : Int)) = false := by simp
      go_wp2_with fail
      refine (pawake_any _).mono ?_
      rintro _ w9 ⟨rfl, l9⟩
      go_wp2
      go_ret
      exact ⟨rfl, bel_on hE.out.1 l9⟩
theorem p2pMeasures_walk (d : Int) (a : Option Addr) (len cap : Nat) (z : Nat → Nat → Int) (w : World) (hd : (Lit.int .i32 d).wf = true) (h : len ≤ cap ∧ cap ≤ maxLen ∧ FoursK .u32 w a len z) :
    Calls Try.prog 5 #[.int .i32 d, .slice a len cap] w fun e w' => e = .returned (.bool true) ∧ Below w.heap.size w w' := by
  have hcap : cap ≤ 9223372036854775807 := by simpa [maxLen] using h.2.1
  by_cases hl : len ≤ 8
  · exact p2pMeasures_yes d a len cap z w (wfi32 hd) hl h.1 hcap h.2.2
  · have tl : decide (8 < (len : Int)) = true := by simp; omega
    clear h
    go_enter Try.func5, Try.ntmps5
    go_wp2_with fail
    refine (pawake_any _).mono ?_
    rintro _ w9 ⟨rfl, l9⟩
    go_wp2
    go_ret
    exact ⟨rfl, l9⟩
end Go.Proofs.Ytmdfbcabpmadgaa
