/- The walk of ServoBounded. -/
import Derived.Test.YtaaocdgbflifhaaServoPair
import Derived.Test.YtaaocdgbflifhaaServoTwin
import Derived.Test.YtaaocdgbflifhaaLaw
import Derived.Deep.DeepCutAuto
namespace Go.Proofs.Ytaaocdgbflifhaa
open Go.RowKit Go.Lib

/-- one servo, the configuration's box beside it -/
def Sing (w W : World) (b : Nat) (c : Pl.Conf) (s : Pl.St) : Prop :=
  Blk W b 56 (sv c s) ∧ Blk W w.heap.size 23 (cv c) ∧ Below w.heap.size w W ∧ w.heap.size ≤ b ∧ w.heap.size ≠ b
section
variable {w W W' : World} {b g : Nat} {c : Pl.Conf} {s s' : Pl.St} {t : TypeId} {cs : Array Value}
theorem Sing.one (h : Sing w W b c s) (k : Left 56 b c s' W W') : Sing w W' b c s' := ⟨k.1, h.2.1.grown k.2 (fun e => h.2.2.2.2 (Option.some.inj e)), Below.only h.2.2.1 k.2 h.2.2.2.1 h.2.2.1.size, h.2.2.2⟩
theorem Sing.alloc (h : Sing w W b c s) (o : Obj) : Sing w (W.alloc o) b c s := ⟨h.1.alloc o, h.2.1.alloc o, bel_more h.2.2.1 o, h.2.2.2⟩
theorem Sing.conf (h : Sing w W b c s) : W.cell? ⟨w.heap.size, 0, none⟩ = some (.int .i64 c.kp) ∧ W.cell? ⟨w.heap.size, 1, none⟩ = some (.int .i64 c.ki) ∧ W.cell? ⟨w.heap.size, 2, none⟩ = some (.int .i64 c.lim) ∧ W.cell? ⟨w.heap.size, 3, none⟩ = some (.int .i64 c.sf) ∧ W.cell? ⟨w.heap.size, 4, none⟩ = some (.int .i64 c.sl) := cv_cells h.2.1
theorem Sing.box (h : Sing w W b c s) (t : TypeId) (cs : Array Value) : Blk (W.alloc (.cells cs t)) W.heap.size t cs ∧ W.heap.size ≠ b := ⟨Blk.new W t cs, by have := h.1.lt; omega⟩
theorem blk_one (h : Blk W g t cs) (e : g ≠ b) (k : Left 56 b c s' W W') : Blk W' g t cs := h.grown k.2 (fun x => e (Option.some.inj x))
end

set_option maxRecDepth 100000 in
set_option maxHeartbeats 1000000 in
theorem servoBounded_no (c : Pl.Conf) (hc : c.ok = false) (a : Option Addr) (len cap : Nat) (w : World) :
    Calls Try.prog 8 #[confV c, .slice a len cap] w fun e w' => e = .returned (.bool true) ∧ Below w.heap.size w w' := by
  have HC := Lib.hid hc
  clear hc
  go_enter Try.func8, Try.ntmps8
  go_wp2_with fail
  have HB := confBel w c
  have HK := confBlk w c
  refine (snew_no c HC.out _).mono ?_
  rintro e w1 ⟨rfl, l1⟩
  have HB := bel_on HB l1
  have HK := HK.below_ l1
  clear l1
  all_goals (
    obtain ⟨k0, k1, k2, k3, k4⟩ := cv_cells HK
    have kz := HK.lt
    go_wp2_with fail
    refine (scheck_no c HC.out _).mono ?_
    rintro e w2 ⟨rfl, l2⟩
    have HB := bel_on HB l2
    go_wp2_with fail
    refine (awake_any _).mono ?_
    rintro e w3 ⟨rfl, l3⟩
    have HB := bel_on HB l3
    go_wp2
    go_ret
    exact ⟨rfl, HB⟩)

set_option maxRecDepth 100000 in
set_option maxHeartbeats 4000000 in
theorem servoBounded_ok (c : Pl.Conf) (hc : c.ok = true) (a : Option Addr) (len cap : Nat) (z : Nat → Nat → Int) (w : World) (hl : len ≤ cap) (hcap : cap ≤ maxLen) (hz : Deeds w a len z) :
    Calls Try.prog 8 #[confV c, .slice a len cap] w fun e w' => e = .returned (.bool true) ∧ Below w.heap.size w w' := by
  have HC := Lib.hid hc
  have HZ := Lib.hid hz
  have hf := fun W => first_any a len cap hl hcap W
  obtain ⟨N, hN⟩ : ∃ N, min len 200 = N := ⟨_, rfl⟩
  rw [hN] at hf
  have hN1 : N ≤ 200 := by omega
  have hN2 : N ≤ len := by omega
  have HF := Lib.hid hf
  have HB := confBel w c
  have HK := confBlk w c
  clear hc hz hN hf
  go_enter Try.func8, Try.ntmps8
  go_wp2_with fail
  refine (snew_yes c HC.out _).mono ?_
  rintro e w1 ⟨b1, rfl, hb1, hk1, l1⟩
  have HS : Sing w w1 b1 c ⟨0, 0, 0⟩ := ⟨hk1, HK.below_ l1, bel_on HB l1, by simp at hb1; omega, by simp at hb1; omega⟩
  have HS := Lib.hid HS
  clear hk1 l1 HB HK hb1
  go_wp2_with fail
  refine (HF.out _).mono ?_
  rintro e w' ⟨rfl, rfl⟩
  go_wp2_with fail
  go_outline
  go_loopw [6, 7, 26] (fun f n i wr => ∃ (k : Nat) (s : Pl.St), k ≤ N ∧ f = .int .i64 s.f ∧ n = .int .i64 s.n ∧ i = .int .i64 k ∧ Hid (Pl.Inv c s) ∧ s.n ≤ k ∧ Hid (Sing w wr b1 c s)) (fun _ _ i _ => N - (RowKit.intOf i).toNat)
  case atStart => exact ⟨0, ⟨0, 0, 0⟩, by omega, rfl, rfl, rfl, inv0 c HC.out, by show (0 : Int) ≤ (0 : Int); omega, HS⟩
  case round =>
    obtain ⟨k, s, hkN, rfl, rfl, rfl, hI, hn, hW⟩ := hrel
    have hn' : s.n ≤ 1000000 := by omega
    have hn0 : 0 ≤ s.n := hI.out.2.2.2.2
    by_cases hlt : k < N
    · obtain ⟨bx, ox, rfl, hb1, hb2, c0, c1, c2⟩ := deeds_at HZ.out hW.out.2.2.1 (by omega : k < len)
      by_cases t0 : z k 0 = 0
      · have t1 : (z k 0 == 0) = true := by simp [t0]
        have t2 : (z k 0 == 1) = false := by simp [t0]
        clear t0
        cases ha : Pl.argsOk (z k 1) (z k 2) with
        | false =>
          have hR : Hid (Pl.stepR c s (z k 1) (z k 2) = ⟨0, 0, 3⟩ ∧ Pl.stepS c s (z k 1) (z k 2) = s) := Lib.hid (by simp [Pl.stepR, Pl.stepS, ha])
          have ha' : z k 1 < -1125899906842624 ∨ 1125899906842624 < z k 1 ∨ z k 2 < 1 ∨ 1125899906842624 < z k 2 := by
            have : ¬ (Pl.argsOk (z k 1) (z k 2) = true) := by simp [ha]
            rw [Pl.argsOk_iff] at this
            omega
          clear ha
          go_wp2_with fail
          refine (ssample_as b1 c s (z k 1) (z k 2) 0 0 3 s hR _ (hW.out.alloc _).1 HC.out hI.out hn').mono ?_
          rintro e w1 ⟨rfl, l1⟩
          have HP1 := (hW.out.alloc (.cells #[.int .i64 (z k 0), .int .i64 (z k 1), .int .i64 (z k 2)] 38)).one l1
          have HO := blk_one (hW.out.box 38 #[.int .i64 (z k 0), .int .i64 (z k 1), .int .i64 (z k 2)]).1 (hW.out.box 38 #[.int .i64 (z k 0), .int .i64 (z k 1), .int .i64 (z k 2)]).2 l1
          clear l1 c0 c1 c2
          obtain ⟨k0, k1, k2, k3, k4⟩ := HP1.conf
          have kz := HP1.2.1.lt
          have d0 : w1.cell? ⟨wr.heap.size, 0, none⟩ = some (.int .i64 (z k 0)) := HO.cell 0
          have d1 : w1.cell? ⟨wr.heap.size, 1, none⟩ = some (.int .i64 (z k 1)) := HO.cell 1
          have d2 : w1.cell? ⟨wr.heap.size, 2, none⟩ = some (.int .i64 (z k 2)) := HO.cell 2
          have dz := HO.lt
          have HP2 := HP1.alloc (.cells #[.int .i64 0, .int .i64 0] 31)
          have HP2 := Lib.hid HP2
          clear HP1 HO hW
          go_wp2_with fail
          all_goals (
            refine (sfreq_any b1 c s _ HP2.out.1).mono ?_
            rintro e w3 ⟨rfl, rfl⟩
            go_wp2_with fail
            refine (ssamples_any b1 c s _ HP2.out.1).mono ?_
            rintro e w3 ⟨rfl, rfl⟩
            go_wp2_with fail
            go_roundw
            case rel => exact ⟨k + 1, s, by omega, rfl, rfl, by go_num, hI, by omega, Lib.hid HP2.out⟩
            case measure => simp [RowKit.intOf]; omega)
        | true =>
          obtain ⟨⟨a1, a2⟩, a3, a4⟩ := Pl.argsOk_iff.1 ha
          have kw : IntKind.i64.wrap (-z k 1) = -z k 1 := IntWalk.i64_in _ (by omega)
          cases hs : Pl.isStep c s (z k 1) with
          | true =>
            have hR : Hid (Pl.stepR c s (z k 1) (z k 2) = ⟨2, z k 1, 0⟩ ∧ Pl.stepS c s (z k 1) (z k 2) = ⟨s.g, s.n + 1, s.f⟩) := Lib.hid (by simp [Pl.stepR, Pl.stepS, ha, hs])
            have hI' : Hid (Pl.Inv c ⟨s.g, s.n + 1, s.f⟩) := Lib.hid (by have := Pl.inv_step HC.out hI.out (z k 1) (z k 2); rwa [hR.out.2] at this)
            unfold Pl.isStep Pl.thr at hs
            simp only [Bool.and_eq_true, decide_eq_true_eq] at hs
            clear ha
            by_cases hz0 : s.n = 0
            · have tz : (s.n == 0) = true := by simp [hz0]
              rw [if_pos hz0] at hs
              obtain ⟨q1, q2⟩ := hs
              clear hz0
              go_wp2_with fail
              refine (ssample_as b1 c s (z k 1) (z k 2) 2 (z k 1) 0 ⟨s.g, s.n + 1, s.f⟩ hR _ (hW.out.alloc _).1 HC.out hI.out hn').mono ?_
              rintro e w1 ⟨rfl, l1⟩
              have HP1 := (hW.out.alloc (.cells #[.int .i64 (z k 0), .int .i64 (z k 1), .int .i64 (z k 2)] 38)).one l1
              have HO := blk_one (hW.out.box 38 #[.int .i64 (z k 0), .int .i64 (z k 1), .int .i64 (z k 2)]).1 (hW.out.box 38 #[.int .i64 (z k 0), .int .i64 (z k 1), .int .i64 (z k 2)]).2 l1
              clear l1 c0 c1 c2
              obtain ⟨k0, k1, k2, k3, k4⟩ := HP1.conf
              have kz := HP1.2.1.lt
              have d0 : w1.cell? ⟨wr.heap.size, 0, none⟩ = some (.int .i64 (z k 0)) := HO.cell 0
              have d1 : w1.cell? ⟨wr.heap.size, 1, none⟩ = some (.int .i64 (z k 1)) := HO.cell 1
              have d2 : w1.cell? ⟨wr.heap.size, 2, none⟩ = some (.int .i64 (z k 2)) := HO.cell 2
              have dz := HO.lt
              have HP2 := HP1.alloc (.cells #[.int .i64 2, .int .i64 (z k 1)] 31)
              have HP2 := Lib.hid HP2
              clear HP1 HO hW
              go_wp2_with fail
              refine (sfreq_any b1 c ⟨s.g, s.n + 1, s.f⟩ _ HP2.out.1).mono ?_
              rintro e w3 ⟨rfl, rfl⟩
              go_wp2_with fail
              refine (ssamples_any b1 c ⟨s.g, s.n + 1, s.f⟩ _ HP2.out.1).mono ?_
              rintro e w3 ⟨rfl, rfl⟩
              go_wp2_with fail
              go_roundw
              case rel => exact ⟨k + 1, ⟨s.g, s.n + 1, s.f⟩, by omega, rfl, rfl, by go_num, hI', by show s.n + 1 ≤ ((k + 1 : Nat) : Int); omega, Lib.hid HP2.out⟩
              case measure => simp [RowKit.intOf]; omega
            · have tz : (s.n == 0) = false := by simp [hz0]
              rw [if_neg hz0] at hs
              obtain ⟨q1, q2⟩ := hs
              clear hz0
              go_wp2_with fail
              refine (ssample_as b1 c s (z k 1) (z k 2) 2 (z k 1) 0 ⟨s.g, s.n + 1, s.f⟩ hR _ (hW.out.alloc _).1 HC.out hI.out hn').mono ?_
              rintro e w1 ⟨rfl, l1⟩
              have HP1 := (hW.out.alloc (.cells #[.int .i64 (z k 0), .int .i64 (z k 1), .int .i64 (z k 2)] 38)).one l1
              have HO := blk_one (hW.out.box 38 #[.int .i64 (z k 0), .int .i64 (z k 1), .int .i64 (z k 2)]).1 (hW.out.box 38 #[.int .i64 (z k 0), .int .i64 (z k 1), .int .i64 (z k 2)]).2 l1
              clear l1 c0 c1 c2
              obtain ⟨k0, k1, k2, k3, k4⟩ := HP1.conf
              have kz := HP1.2.1.lt
              have d0 : w1.cell? ⟨wr.heap.size, 0, none⟩ = some (.int .i64 (z k 0)) := HO.cell 0
              have d1 : w1.cell? ⟨wr.heap.size, 1, none⟩ = some (.int .i64 (z k 1)) := HO.cell 1
              have d2 : w1.cell? ⟨wr.heap.size, 2, none⟩ = some (.int .i64 (z k 2)) := HO.cell 2
              have dz := HO.lt
              have HP2 := HP1.alloc (.cells #[.int .i64 2, .int .i64 (z k 1)] 31)
              have HP2 := Lib.hid HP2
              clear HP1 HO hW
              go_wp2_with fail
              refine (sfreq_any b1 c ⟨s.g, s.n + 1, s.f⟩ _ HP2.out.1).mono ?_
              rintro e w3 ⟨rfl, rfl⟩
              go_wp2_with fail
              refine (ssamples_any b1 c ⟨s.g, s.n + 1, s.f⟩ _ HP2.out.1).mono ?_
              rintro e w3 ⟨rfl, rfl⟩
              go_wp2_with fail
              go_roundw
              case rel => exact ⟨k + 1, ⟨s.g, s.n + 1, s.f⟩, by omega, rfl, rfl, by go_num, hI', by show s.n + 1 ≤ ((k + 1 : Nat) : Int); omega, Lib.hid HP2.out⟩
              case measure => simp [RowKit.intOf]; omega
          | false =>
            obtain ⟨G, hG⟩ : ∃ G, Pl.newG c s (z k 1) (z k 2) = G := ⟨_, rfl⟩
            obtain ⟨F, hF⟩ : ∃ F, Pl.newF c s (z k 1) (z k 2) = F := ⟨_, rfl⟩
            have hR : Hid (Pl.stepR c s (z k 1) (z k 2) = ⟨1, F, 0⟩ ∧ Pl.stepS c s (z k 1) (z k 2) = ⟨G, s.n + 1, F⟩) := Lib.hid (by simp [Pl.stepR, Pl.stepS, ha, hs, hG, hF])
            have hI' : Hid (Pl.Inv c ⟨G, s.n + 1, F⟩) := Lib.hid (by have := Pl.inv_step HC.out hI.out (z k 1) (z k 2); rwa [hR.out.2] at this)
            obtain ⟨_, _, f1, f2, _⟩ := hI'.out
            have kl : IntKind.i64.wrap (-c.lim) = -c.lim := IntWalk.i64_in _ (by have := (Pl.Conf.ok_iff.1 HC.out).2.2.1; omega)
            unfold Pl.isStep Pl.thr at hs
            clear ha hG hF
            by_cases hz0 : s.n = 0
            · have tz : (s.n == 0) = true := by simp [hz0]
              rw [if_pos hz0] at hs
              have hs' : ¬ 0 < c.sf ∨ ¬ c.sf < max (z k 1) (-z k 1) := by
                rcases Bool.and_eq_false_iff.1 hs with h | h
                · exact Or.inl (by simpa using h)
                · exact Or.inr (by simpa using h)
              clear hz0 hs
              go_wp2_with fail
              refine (ssample_as b1 c s (z k 1) (z k 2) 1 F 0 ⟨G, s.n + 1, F⟩ hR _ (hW.out.alloc _).1 HC.out hI.out hn').mono ?_
              rintro e w1 ⟨rfl, l1⟩
              have HP1 := (hW.out.alloc (.cells #[.int .i64 (z k 0), .int .i64 (z k 1), .int .i64 (z k 2)] 38)).one l1
              have HO := blk_one (hW.out.box 38 #[.int .i64 (z k 0), .int .i64 (z k 1), .int .i64 (z k 2)]).1 (hW.out.box 38 #[.int .i64 (z k 0), .int .i64 (z k 1), .int .i64 (z k 2)]).2 l1
              clear l1 c0 c1 c2
              obtain ⟨k0, k1, k2, k3, k4⟩ := HP1.conf
              have kz := HP1.2.1.lt
              have d0 : w1.cell? ⟨wr.heap.size, 0, none⟩ = some (.int .i64 (z k 0)) := HO.cell 0
              have d1 : w1.cell? ⟨wr.heap.size, 1, none⟩ = some (.int .i64 (z k 1)) := HO.cell 1
              have d2 : w1.cell? ⟨wr.heap.size, 2, none⟩ = some (.int .i64 (z k 2)) := HO.cell 2
              have dz := HO.lt
              have HP2 := HP1.alloc (.cells #[.int .i64 1, .int .i64 F] 31)
              have HP2 := Lib.hid HP2
              clear HP1 HO hW
              go_wp2_with fail
              all_goals (
                refine (sfreq_any b1 c ⟨G, s.n + 1, F⟩ _ HP2.out.1).mono ?_
                rintro e w3 ⟨rfl, rfl⟩
                go_wp2_with fail
                refine (ssamples_any b1 c ⟨G, s.n + 1, F⟩ _ HP2.out.1).mono ?_
                rintro e w3 ⟨rfl, rfl⟩
                go_wp2_with fail
                go_roundw
                case rel => exact ⟨k + 1, ⟨G, s.n + 1, F⟩, by omega, rfl, rfl, by go_num, hI', by show s.n + 1 ≤ ((k + 1 : Nat) : Int); omega, Lib.hid HP2.out⟩
                case measure => simp [RowKit.intOf]; omega)
            · have tz : (s.n == 0) = false := by simp [hz0]
              rw [if_neg hz0] at hs
              have hs' : ¬ 0 < c.sl ∨ ¬ c.sl < max (z k 1) (-z k 1) := by
                rcases Bool.and_eq_false_iff.1 hs with h | h
                · exact Or.inl (by simpa using h)
                · exact Or.inr (by simpa using h)
              clear hz0 hs
              go_wp2_with fail
              refine (ssample_as b1 c s (z k 1) (z k 2) 1 F 0 ⟨G, s.n + 1, F⟩ hR _ (hW.out.alloc _).1 HC.out hI.out hn').mono ?_
              rintro e w1 ⟨rfl, l1⟩
              have HP1 := (hW.out.alloc (.cells #[.int .i64 (z k 0), .int .i64 (z k 1), .int .i64 (z k 2)] 38)).one l1
              have HO := blk_one (hW.out.box 38 #[.int .i64 (z k 0), .int .i64 (z k 1), .int .i64 (z k 2)]).1 (hW.out.box 38 #[.int .i64 (z k 0), .int .i64 (z k 1), .int .i64 (z k 2)]).2 l1
              clear l1 c0 c1 c2
              obtain ⟨k0, k1, k2, k3, k4⟩ := HP1.conf
              have kz := HP1.2.1.lt
              have d0 : w1.cell? ⟨wr.heap.size, 0, none⟩ = some (.int .i64 (z k 0)) := HO.cell 0
              have d1 : w1.cell? ⟨wr.heap.size, 1, none⟩ = some (.int .i64 (z k 1)) := HO.cell 1
              have d2 : w1.cell? ⟨wr.heap.size, 2, none⟩ = some (.int .i64 (z k 2)) := HO.cell 2
              have dz := HO.lt
              have HP2 := HP1.alloc (.cells #[.int .i64 1, .int .i64 F] 31)
              have HP2 := Lib.hid HP2
              clear HP1 HO hW
              go_wp2_with fail
              all_goals (
                refine (sfreq_any b1 c ⟨G, s.n + 1, F⟩ _ HP2.out.1).mono ?_
                rintro e w3 ⟨rfl, rfl⟩
                go_wp2_with fail
                refine (ssamples_any b1 c ⟨G, s.n + 1, F⟩ _ HP2.out.1).mono ?_
                rintro e w3 ⟨rfl, rfl⟩
                go_wp2_with fail
                go_roundw
                case rel => exact ⟨k + 1, ⟨G, s.n + 1, F⟩, by omega, rfl, rfl, by go_num, hI', by show s.n + 1 ≤ ((k + 1 : Nat) : Int); omega, Lib.hid HP2.out⟩
                case measure => simp [RowKit.intOf]; omega)
      · have t1 : (z k 0 == 0) = false := by simp [t0]
        have hne := (hW.out.box 38 #[.int .i64 (z k 0), .int .i64 (z k 1), .int .i64 (z k 2)]).2
        have HP0 := Lib.hid (hW.out.alloc (.cells #[.int .i64 (z k 0), .int .i64 (z k 1), .int .i64 (z k 2)] 38))
        clear hW
        by_cases t3 : z k 0 = 1
        · have t2 : (z k 0 == 1) = true := by simp [t3]
          have hI' : Hid (Pl.Inv c ⟨0, 0, s.f⟩) := Lib.hid (by have := inv_does HC.out hI.out 1 0 0; simpa [doesS] using this)
          clear t3 t0
          go_wp2_with fail
          refine (sreset_any b1 c s _ HP0.out.1).mono ?_
          rintro e w1 ⟨rfl, l1⟩
          have HP1 := Lib.hid (HP0.out.one l1)
          have d0 : w1.cell? ⟨wr.heap.size, 0, none⟩ = some (.int .i64 (z k 0)) := (blk_one (Blk.new wr 38 #[.int .i64 (z k 0), .int .i64 (z k 1), .int .i64 (z k 2)]) hne l1).cell 0
          clear l1 HP0
          go_wp2_with fail
          refine (sfreq_any b1 c ⟨0, 0, s.f⟩ _ HP1.out.1).mono ?_
          rintro e w3 ⟨rfl, rfl⟩
          go_wp2_with fail
          refine (ssamples_any b1 c ⟨0, 0, s.f⟩ _ HP1.out.1).mono ?_
          rintro e w3 ⟨rfl, rfl⟩
          go_wp2_with fail
          go_roundw
          case rel => exact ⟨k + 1, ⟨0, 0, s.f⟩, by omega, rfl, rfl, by go_num, hI', (by show (0 : Int) ≤ ((k + 1 : Nat) : Int); omega), Lib.hid HP1.out⟩
          case measure => simp [RowKit.intOf]; omega
        · have t2 : (z k 0 == 1) = false := by simp [t3]
          clear t3 t0
          go_wp2_with fail
          refine (sfreq_any b1 c s _ HP0.out.1).mono ?_
          rintro e w3 ⟨rfl, rfl⟩
          go_wp2_with fail
          refine (ssamples_any b1 c s _ HP0.out.1).mono ?_
          rintro e w3 ⟨rfl, rfl⟩
          go_wp2_with fail
          go_roundw
          case rel => exact ⟨k + 1, s, by omega, rfl, rfl, by go_num, hI, by omega, Lib.hid HP0.out⟩
          case measure => simp [RowKit.intOf]; omega
    · obtain rfl : k = N := by omega
      go_wp2_with (go_at_call 15; refine (awake_any _).mono ?_; rintro e w2 ⟨rfl, hb2⟩)
      go_ret
      exact ⟨rfl, bel_on hW.out.2.2.1 hb2⟩

theorem servoBounded_walk (a b c d e : Int) (x : Option Addr) (len cap : Nat) (z : Nat → Nat → Int) (w : World) (_h : ∀ n ∈ [a, b, c, d, e], (Lit.int .i64 n).wf = true) (hz : len ≤ cap ∧ cap ≤ maxLen ∧ Deeds w x len z) :
    Calls Try.prog 8 #[.agg ([a, b, c, d, e].map (Value.int .i64)).toArray, .slice x len cap] w fun e w' => e = .returned (.bool true) ∧ Below w.heap.size w w' := by
  cases hc : (⟨a, b, c, d, e⟩ : Pl.Conf).ok with
  | true => exact servoBounded_ok ⟨a, b, c, d, e⟩ hc x len cap z w hz.1 hz.2.1 hz.2.2
  | false => exact servoBounded_no ⟨a, b, c, d, e⟩ hc x len cap w
end Go.Proofs.Ytaaocdgbflifhaa
