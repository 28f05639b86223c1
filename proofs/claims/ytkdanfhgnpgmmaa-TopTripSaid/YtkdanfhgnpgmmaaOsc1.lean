/- Contracts of osc.Check and osc.Bound. -/
import Derived.Test.YtkdanfhgnpgmmaaOscPlain
import Derived.Test.YtkdanfhgnpgmmaaOpenIn
import Derived.Test.YtkdanfhgnpgmmaaBoxes
import Derived.Test.YtkdanfhgnpgmmaaLaw
import Derived.Test.YtkdanfhgnpgmmaaDrift
import Derived.Deep.QuietTactic
import Derived.BigQuiet
namespace Go.Proofs.Ytkdanfhgnpgmmaa
namespace Pl
theorem segE_bad {at_ pb : Nat → Int} {i : Nat} (h : ¬ (0 ≤ at_ i ∧ at_ i ≤ 1125899906842624 ∧ -500000 ≤ pb i ∧ pb i ≤ 500000)) : segE at_ pb i = 3 := by
  unfold segE
  rw [if_neg]
  simp only [Bool.and_eq_true, inq_iff]
  omega
theorem segE_in {at_ pb : Nat → Int} {i : Nat} (h : 0 ≤ at_ i ∧ at_ i ≤ 1125899906842624 ∧ -500000 ≤ pb i ∧ pb i ≤ 500000) : segE at_ pb i = if i = 0 then (if at_ 0 = 0 then 0 else 7) else if at_ i ≤ at_ (i - 1) then 12 else 0 := by
  unfold segE
  rw [if_pos]
  simp only [Bool.and_eq_true, inq_iff]
  omega
end Pl
open Go.RowKit Go.Lib
abbrev osA (ph : Int) (x : Option Addr) (len cap : Nat) : Array Value := #[.int .i64 ph, .slice x len cap]
def atZ (z : Nat → Nat → Int) (i : Nat) : Int := z i 0
def pbZ (z : Nat → Nat → Int) (i : Nat) : Int := z i 1
theorem Pairs.on {w W : World} {a : Option Addr} {n : Nat} {z : Nat → Nat → Int} (h : Pairs w a n z) (l : Below w.heap.size w W) : Pairs W a n z := fun i hi => by
  obtain ⟨x, hx, hb, hc⟩ := h i hi
  exact ⟨x, hx, Nat.lt_of_lt_of_le hb l.size, fun j hj => ⟨(l.cell (p := x.add (i * 2 + j)) (by rw [add_block]; exact hb)).trans (hc j hj).1, (hc j hj).2⟩⟩
theorem One.mk_drewN {w W : World} {t : TypeId} {c : Array Value} (h : One w W t c) (n : Nat) : One w (W.drewN n) t c := ⟨below_drewN h.1 n, h.2.drewN n⟩
theorem box_at {w W : World} {t : TypeId} {ph : Int} {x : Option Addr} {len cap : Nat} (h : One w W t (osA ph x len cap)) : W.cell? ⟨w.heap.size, 0, none⟩ = some (.int .i64 ph) ∧ W.cell? ⟨w.heap.size, 1, none⟩ = some (.slice x len cap) ∧ w.heap.size < W.heap.size := h.cells

set_option maxHeartbeats 4000000 in
theorem ocheck_any (ph : Int) (x : Option Addr) (len cap : Nat) (z : Nat → Nat → Int) (w : World) (hz : Pairs w x len z) :
    Calls Try.prog 25 #[.agg (osA ph x len cap)] w fun e w' => e = .returned (.int .i64 (Pl.oscE (atZ z) (pbZ z) ph len)) ∧ Below w.heap.size w w' := by
  have K0 := one_mk w 46 (osA ph x len cap)
  have HZ := Lib.hid hz
  clear hz
  unfold Pl.oscE
  by_cases c0 : len = 0
  · rw [if_pos c0]
    have t0 : ((len : Int) == 0) = true := by simp [c0]
    clear c0
    go_enter Try.func25, Try.ntmps25
    go_wp2_with fail
    go_ret
    exact ⟨rfl, K0.1⟩
  · rw [if_neg c0]
    have t0 : ((len : Int) == 0) = false := by simp; omega
    by_cases c1 : 16 < len
    · rw [if_pos c1]
      have t1 : decide (16 < (len : Int)) = true := by simp; omega
      clear c0 c1
      go_enter Try.func25, Try.ntmps25
      go_wp2_with fail
      go_ret
      exact ⟨rfl, K0.1⟩
    · rw [if_neg c1]
      have t1 : decide (16 < (len : Int)) = false := by simp; omega
      by_cases c2 : -1125899906842624 ≤ ph ∧ ph ≤ 1125899906842624
      · rw [if_pos (Pl.inq_iff.2 c2)]
        have t2 : decide (ph < -1125899906842624) = false := by simp; omega
        have t3 : decide (1125899906842624 < ph) = false := by simp; omega
        have hl : len ≤ 16 := by omega
        have hl0 : 0 < len := by omega
        obtain ⟨E, hE⟩ : ∃ E, Pl.segsE (atZ z) (pbZ z) len 0 = E := ⟨_, rfl⟩
        rw [hE]
        have E0 : Hid (Pl.segsE (atZ z) (pbZ z) (len - 0) 0 = E) := Lib.hid hE
        have KH := Lib.hid K0
        clear c0 c1 c2 hE
        go_enter Try.func25, Try.ntmps25
        go_wp2_with fail
        go_loopw [27] (fun i wr => ∃ k : Nat, i = .int .i64 k ∧ k ≤ len ∧ Hid (One w wr 46 (osA ph x len cap)) ∧ Hid (Pl.segsE (atZ z) (pbZ z) (len - k) k = E)) (fun i _ => len - (RowKit.intOf i).toNat)
        case atStart => exact ⟨0, rfl, by omega, KH, E0⟩
        case round =>
          obtain ⟨k, rfl, hk, hK, hE⟩ := hrel
          by_cases hlt : k < len
          · obtain ⟨bx, ox, rfl, hb1, hb2, d0, d1⟩ := pairs_at HZ.out hK.out.1 hlt
            obtain ⟨y0, y1, yz⟩ := box_at hK.out
            have hE' := hE.out
            rw [show len - k = (len - (k + 1)) + 1 by omega, Pl.segsE] at hE'
            have tk : decide ((k : Int) < (len : Int)) = true := by simp [hlt]
            have hk0 : (0 : Int) ≤ (k : Int) := by omega
            by_cases r : 0 ≤ z k 0 ∧ z k 0 ≤ 1125899906842624 ∧ -500000 ≤ z k 1 ∧ z k 1 ≤ 500000
            · have hs := Pl.segE_in (at_ := atZ z) (pb := pbZ z) (i := k) r
              rw [hs] at hE'
              obtain ⟨r0, r1, r2, r3⟩ := r
              obtain ⟨T, hT⟩ : ∃ T, z k 0 = T := ⟨_, rfl⟩
              obtain ⟨P, hP⟩ : ∃ P, z k 1 = P := ⟨_, rfl⟩
              rw [hT] at d0 r0 r1
              rw [hP] at d1 r2 r3
              have u1 : decide (T < 0) = false := by simp; omega
              have u2 : decide (1125899906842624 < T) = false := by simp; omega
              have u3 : decide (P < -500000) = false := by simp; omega
              have u4 : decide (500000 < P) = false := by simp; omega
              have KA := hK.out.on (bel_box wr (.cells #[.int .i64 T, .int .i64 P] 68))
              by_cases k0 : k = 0
              · have v0 : ((k : Int) == 0) = true := by simp [k0]
                have v1 : decide (0 < (k : Int)) = false := by simp; omega
                have v1n : decide (0 < k) = false := by simp; omega
                rw [if_pos k0, show atZ z 0 = T by unfold atZ; rw [← hT, k0]] at hE'
                by_cases q : T = 0
                · rw [if_pos q, if_pos rfl] at hE'
                  have v2 : (T != 0) = false := by simp [q]
                  have E1 := Lib.hid hE'
                  have K1 := fun n => Lib.hid (One.mk_drewN KA n)
                  clear hE' hs hT hP q k0 KA
                  go_wp2_with fail
                  go_quiet (fail)
                  go_wp2_with fail
                  exact ⟨⟨k + 1, by go_num, by omega, K1 _, E1⟩, by simp [RowKit.intOf]; omega⟩
                · rw [if_neg q, if_neg (by omega)] at hE'
                  have v2 : (T != 0) = true := by simp [q]
                  subst hE'
                  clear hs hT hP q k0
                  go_wp2_with fail
                  go_ret
                  exact ⟨rfl, KA.1⟩
              · have v0 : ((k : Int) == 0) = false := by simp; omega
                have v1 : decide (0 < (k : Int)) = true := by simp; omega
                have v1n : decide (0 < k) = true := by simp; omega
                obtain ⟨bx', ox', he, _, _, f0, _⟩ := pairs_at HZ.out hK.out.1 (show k - 1 < len by omega)
                injection he with he
                injection he with he1 he2
                subst he1 he2
                rw [if_neg k0, show atZ z k = T from hT] at hE'
                obtain ⟨T1, hT1⟩ : ∃ T, z (k - 1) 0 = T := ⟨_, rfl⟩
                rw [show atZ z (k - 1) = T1 from hT1] at hE'
                rw [hT1] at f0
                have hk1 : (k : Int) - 1 = ((k - 1 : Nat) : Int) := by omega
                have hkw : IntKind.i64.wrap ((k : Int) - 1) = ((k - 1 : Nat) : Int) := (IntWalk.i64_in _ (by omega)).trans hk1
                have hk2 : (0 : Int) ≤ ((k - 1 : Nat) : Int) := by omega
                have hk3 : ((k - 1 : Nat) : Int) < (len : Int) := by omega
                by_cases q : T ≤ T1
                · rw [if_pos q, if_neg (by omega)] at hE'
                  have v2 : decide (T ≤ T1) = true := by simp [q]
                  subst hE'
                  have K1 := fun n => (One.mk_drewN KA n).1
                  clear hs hT hP q k0 hT1 hk1
                  go_wp2_with fail
                  go_quiet (fail)
                  go_wp2_with fail
                  go_ret
                  exact ⟨rfl, K1 _⟩
                · rw [if_neg q, if_pos rfl] at hE'
                  have v2 : decide (T ≤ T1) = false := by simp; omega
                  have E1 := Lib.hid hE'
                  have K1 := fun n => Lib.hid (One.mk_drewN KA n)
                  clear hE' hs hT hP q k0 KA hT1 hk1
                  go_wp2_with fail
                  go_quiet (fail)
                  go_wp2_with fail
                  exact ⟨⟨k + 1, by go_num, by omega, K1 _, E1⟩, by simp [RowKit.intOf]; omega⟩
            · have hs := Pl.segE_bad (at_ := atZ z) (pb := pbZ z) (i := k) r
              rw [hs, if_neg (by omega)] at hE'
              subst hE'
              obtain ⟨T, hT⟩ : ∃ T, z k 0 = T := ⟨_, rfl⟩
              obtain ⟨P, hP⟩ : ∃ P, z k 1 = P := ⟨_, rfl⟩
              rw [hT] at d0 r
              rw [hP] at d1 r
              have KA := hK.out.on (bel_box wr (.cells #[.int .i64 T, .int .i64 P] 68))
              clear hs hT hP
              go_wp2_with fail
              all_goals first
                | (go_ret; exact ⟨rfl, KA.1⟩)
                | (exfalso; omega)
          · obtain rfl : k = len := by omega
            have hE' := hE.out
            rw [show k - k = 0 by omega, Pl.segsE] at hE'
            subst hE'
            have tk : decide ((k : Int) < (k : Int)) = false := by simp
            go_wp2_with fail
            go_ret
            exact ⟨rfl, hK.out.1⟩
      · rw [if_neg (fun h => c2 (Pl.inq_iff.1 h))]
        clear c0 c1
        go_enter Try.func25, Try.ntmps25
        go_wp2_with fail
        all_goals first
          | (go_ret; exact ⟨rfl, K0.1⟩)
          | (exfalso; omega)

set_option maxHeartbeats 2000000 in
theorem obound_any (ph : Int) (x : Option Addr) (len cap : Nat) (z : Nat → Nat → Int) (w : World) (hz : Pairs w x len z) (hok : Pl.oscE (atZ z) (pbZ z) ph len = 0) :
    Calls Try.prog 27 #[.agg (osA ph x len cap)] w fun e w' => e = .returned (.int .i64 (Pl.bnd (pbZ z) len)) ∧ Below w.heap.size w w' := by
  have CK := ocheck_any ph x len cap z (w.alloc (.cells (osA ph x len cap) 46)) (hz.on (bel_box w _))
  rw [hok] at CK
  have OK := Pl.osc_ok hok
  have K0 := one_mk w 46 (osA ph x len cap)
  have HZ := Lib.hid hz
  have CK := Lib.hid CK
  have HB : Hid (∀ k, k < len → (-500000 ≤ z k 1 ∧ z k 1 ≤ 500000) ∧ 0 ≤ Pl.bnd (pbZ z) k ∧ Pl.bnd (pbZ z) k ≤ 500000) := Lib.hid (fun k hk => ⟨(OK.seg k hk).2.2, (Pl.bnd_ge k).1, OK.bnd_le k (by omega)⟩)
  have hl : len ≤ 16 := OK.few
  clear hz hok OK
  go_enter Try.func27, Try.ntmps27
  go_wp2_with fail
  refine CK.out.mono ?_
  rintro _ w1 ⟨rfl, l1⟩
  have K1 := K0.on l1
  obtain ⟨y0, y1, yz⟩ := box_at K1
  have KH := Lib.hid K1
  clear l1 K0 CK K1
  go_wp2_with fail
  go_loopw [3, 12] (fun b i wr => ∃ k : Nat, i = .int .i64 k ∧ b = .int .i64 (Pl.bnd (pbZ z) k) ∧ k ≤ len ∧ Hid (One w wr 46 (osA ph x len cap))) (fun _ i _ => len - (RowKit.intOf i).toNat)
  case atStart => exact ⟨0, rfl, rfl, by omega, KH⟩
  case round =>
    obtain ⟨k, rfl, rfl, hk, hK⟩ := hrel
    clear y0 y1 yz
    by_cases hlt : k < len
    · obtain ⟨bx, ox, rfl, hb1, hb2, d0, d1⟩ := pairs_at HZ.out hK.out.1 hlt
      have tk : decide ((k : Int) < (len : Int)) = true := by simp [hlt]
      obtain ⟨⟨p1, p2⟩, q1, q2⟩ := HB.out k hlt
      have eB : Hid (Pl.bnd (pbZ z) (k + 1) = max (max (Pl.bnd (pbZ z) k) (z k 1)) (-(z k 1))) := Lib.hid rfl
      obtain ⟨T, hT⟩ : ∃ T, z k 0 = T := ⟨_, rfl⟩
      obtain ⟨P, hP⟩ : ∃ P, z k 1 = P := ⟨_, rfl⟩
      obtain ⟨B, hB⟩ : ∃ P, Pl.bnd (pbZ z) k = P := ⟨_, rfl⟩
      rw [hT] at d0
      rw [hP] at d1 p1 p2 eB
      rw [hB] at q1 q2 eB ⊢
      have kw : IntKind.i64.wrap (-P) = -P := IntWalk.i64_in _ (by omega)
      have KA := Lib.hid (hK.out.on (bel_box wr (.cells #[.int .i64 T, .int .i64 P] 68)))
      clear hT hP hB
      go_wp2_with fail
      exact ⟨⟨k + 1, by go_num, (by rw [eB.out]; exact congrArg (Value.int .i64) (by split <;> split <;> omega)), by omega, KA⟩, by simp [RowKit.intOf]; omega⟩
    · obtain rfl : k = len := by omega
      have tk : decide ((k : Int) < (k : Int)) = false := by simp
      go_wp2_with fail
      go_ret
      exact ⟨rfl, hK.out.1⟩
end Go.Proofs.Ytkdanfhgnpgmmaa
