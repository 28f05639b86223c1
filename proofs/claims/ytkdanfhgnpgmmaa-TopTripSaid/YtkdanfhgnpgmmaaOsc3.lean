/- Contracts of osc.reading and osc.Read. -/
import Derived.Test.YtkdanfhgnpgmmaaOsc2
import Derived.Deep.RegionHeld3
namespace Go.Proofs.Ytkdanfhgnpgmmaa
open Go.RowKit Go.Lib
set_option maxHeartbeats 4000000 in
theorem oreading_any (ph : Int) (g len : Nat) (z : Nat → Nat → Int) (t : Int) (w : World) (hz : Trips w g len z) (hok : Pl.OscOk (atZ z) (pbZ z) ph len) (ht : 0 ≤ t) (ht2 : t ≤ 1125899906842624) :
    Calls Try.prog 42 #[.int .i64 ph, .slice (some ⟨g, 0, none⟩) len len, .int .i64 t] w fun e w' => e = .returned (.int .i64 (Pl.rdg (atZ z) (pbZ z) ph len t)) ∧ Below w.heap.size w w' := by
  rw [Pl.rdg_eq]
  have hp1 := hok.ph1
  have hp2 := hok.ph2
  have hl := hok.few
  have HZ := Lib.hid hz
  have HO := Lib.hid hok
  have B0 : Hid (Below w.heap.size w w) := Lib.hid (Below.refl _ _)
  obtain ⟨N, hN⟩ : ∃ N, ph + t + Pl.whl (atZ z) (pbZ z) len t len + Pl.rst (atZ z) (pbZ z) len t len / 1000000000 = N := ⟨_, rfl⟩
  rw [hN]
  replace hN := Lib.hid hN
  clear hz hok
  go_enter Try.func42, Try.ntmps42
  go_wp2_with fail
  go_loopw [7, 8, 16] (fun a b i wr => ∃ k : Nat, i = .int .i64 k ∧ a = .int .i64 (Pl.whl (atZ z) (pbZ z) len t k) ∧ b = .int .i64 (Pl.rst (atZ z) (pbZ z) len t k) ∧ k ≤ len ∧ Hid (Below w.heap.size w wr)) (fun _ _ i _ => len - (RowKit.intOf i).toNat)
  case atStart => exact ⟨0, rfl, rfl, rfl, by omega, B0⟩
  case round =>
    obtain ⟨k, rfl, rfl, rfl, hk, hB⟩ := hrel
    by_cases hlt : k < len
    · have TR := HZ.out.on hB.out
      obtain ⟨d0, d1, d2⟩ := TR.2 k hlt
      have gz := TR.1
      obtain ⟨s1, s2, s3, s4⟩ := HO.out.seg k hlt
      obtain ⟨e1, e2⟩ := HO.out.end_ hlt
      have eW : Hid (Pl.whl (atZ z) (pbZ z) len t (k + 1) = Pl.whl (atZ z) (pbZ z) len t k + pbZ z k * (Pl.dOf (atZ z) len t k / 1000000000)) := Lib.hid rfl
      have eR : Hid (Pl.rst (atZ z) (pbZ z) len t (k + 1) = Pl.rst (atZ z) (pbZ z) len t k + pbZ z k * (Pl.dOf (atZ z) len t k % 1000000000)) := Lib.hid rfl
      have w1 := HO.out.whl_in t k (by omega)
      have w2 := HO.out.rst_in t k (by omega)
      have hD : max 0 (min t (Pl.endOf (atZ z) len k) - atZ z k) = Pl.dOf (atZ z) len t k := rfl
      have hDb := HO.out.d_in hlt t
      have hk16 : (k : Int) ≤ 16 := by omega
      replace d0 : wr.cell? ⟨g, k * 3, none⟩ = some (.int .i64 (atZ z k)) := d0
      replace d1 : wr.cell? ⟨g, k * 3 + 1, none⟩ = some (.int .i64 (pbZ z k)) := d1
      clear TR
      obtain ⟨A, hA⟩ : ∃ n, atZ z k = n := ⟨_, rfl⟩
      obtain ⟨P, hP⟩ : ∃ n, pbZ z k = n := ⟨_, rfl⟩
      obtain ⟨E, hE⟩ : ∃ n, Pl.endOf (atZ z) len k = n := ⟨_, rfl⟩
      obtain ⟨D, hDe⟩ : ∃ n, Pl.dOf (atZ z) len t k = n := ⟨_, rfl⟩
      obtain ⟨V, hV⟩ : ∃ n, Pl.whl (atZ z) (pbZ z) len t k = n := ⟨_, rfl⟩
      obtain ⟨U, hU⟩ : ∃ n, Pl.rst (atZ z) (pbZ z) len t k = n := ⟨_, rfl⟩
      rw [hA] at d0 hD s1 s2 e1
      rw [hP] at d1 s3 s4 eW eR
      rw [hE] at d2 hD e1 e2
      rw [hDe] at hD hDb eW eR
      rw [hV] at eW w1 ⊢
      rw [hU] at eR w2 ⊢
      have hQb : 0 ≤ D / 1000000000 ∧ D / 1000000000 ≤ 1125899 := by omega
      have hRb : 0 ≤ D % 1000000000 ∧ D % 1000000000 ≤ 1000000000 := by omega
      have kq : D.tdiv 1000000000 = D / 1000000000 := Int.tdiv_eq_ediv_of_nonneg hDb.1
      have kr : D.tmod 1000000000 = D % 1000000000 := Int.tmod_eq_emod_of_nonneg hDb.1
      obtain ⟨Q, hQ⟩ : ∃ n, D / 1000000000 = n := ⟨_, rfl⟩
      obtain ⟨R, hR⟩ : ∃ n, D % 1000000000 = n := ⟨_, rfl⟩
      rw [hQ] at hQb kq eW
      rw [hR] at hRb kr eR
      have m1 := Pl.mul_bd s3 s4 hQb.1 hQb.2
      have m2 := Pl.mul_bd s3 s4 hRb.1 hRb.2
      obtain ⟨M, hM⟩ : ∃ n, P * Q = n := ⟨_, rfl⟩
      obtain ⟨M2, hM2⟩ : ∃ n, P * R = n := ⟨_, rfl⟩
      rw [hM] at m1 eW
      rw [hM2] at m2 eR
      have x1 : IntKind.i64.wrap (min t E - A) = min t E - A := IntWalk.i64_in _ (by omega)
      have x2 : IntKind.i64.wrap (P * Q) = M := (IntWalk.i64_in _ (by rw [hM]; omega)).trans hM
      have x3 : IntKind.i64.wrap (P * R) = M2 := (IntWalk.i64_in _ (by rw [hM2]; omega)).trans hM2
      have x4 : IntKind.i64.wrap (V + M) = V + M := IntWalk.i64_in _ (by omega)
      have x5 : IntKind.i64.wrap (U + M2) = U + M2 := IntWalk.i64_in _ (by omega)
      have tk : decide ((k : Int) < (len : Int)) = true := by simp [hlt]
      have hki : (0 : Int) ≤ (k : Int) := by omega
      have B1 := Lib.hid (bel_on hB.out (bel_box wr (.cells #[.int .i64 A, .int .i64 P, .int .i64 E] 74)))
      clear hA hP hE hDe hV hU
      go_wp2_with fail
      exact ⟨⟨k + 1, by go_num, by rw [eW.out], by rw [eR.out], by omega, B1⟩, by simp [RowKit.intOf]; omega⟩
    · obtain rfl : k = len := by omega
      have w1 := HO.out.whl_in t k (by omega)
      have w2 := HO.out.rst_in t k (by omega)
      have hk16 : (k : Int) ≤ 16 := by omega
      obtain ⟨V, hV⟩ : ∃ n, Pl.whl (atZ z) (pbZ z) k t k = n := ⟨_, rfl⟩
      obtain ⟨U, hU⟩ : ∃ n, Pl.rst (atZ z) (pbZ z) k t k = n := ⟨_, rfl⟩
      rw [hV] at w1 ⊢
      rw [hU] at w2 ⊢
      have FL := Lib.hid (fun W => pfloor_any U 1000000000 (by omega) (by omega) (by omega) (by omega) W)
      have hQb : -8000000000000000 ≤ U / 1000000000 ∧ U / 1000000000 ≤ 8000000000000000 := by omega
      obtain ⟨Q, hQ⟩ : ∃ n, U / 1000000000 = n := ⟨_, rfl⟩
      rw [hQ] at FL hQb
      have eN : Hid (ph + t + V + Q = N) := Lib.hid (by rw [← hQ, ← hV, ← hU]; exact hN.out)
      have x1 : IntKind.i64.wrap (ph + t) = ph + t := IntWalk.i64_in _ (by omega)
      have x2 : IntKind.i64.wrap (ph + t + V) = ph + t + V := IntWalk.i64_in _ (by omega)
      have x3 : IntKind.i64.wrap (ph + t + V + Q) = ph + t + V + Q := IntWalk.i64_in _ (by omega)
      have tk : decide ((k : Int) < (k : Int)) = false := by simp
      clear hV hU hQ
      go_wp2_with fail
      refine (FL.out _).mono ?_
      rintro _ w2 ⟨rfl, n2, rfl⟩
      go_wp2_with fail
      go_ret
      exact ⟨(by rw [eN.out]; rfl), below_drewN hB.out n2⟩
set_option maxHeartbeats 4000000 in
theorem oread_bad (ph : Int) (x : Option Addr) (len cap : Nat) (z : Nat → Nat → Int) (t : Int) (w : World) (hz : Pairs w x len z) (hbad : Pl.oscE (atZ z) (pbZ z) ph len ≠ 0) :
    Calls Try.prog 24 #[.agg (osA ph x len cap), .int .i64 t] w fun e w' => e = .returned (.tuple #[.int .i64 0, .int .i64 (Pl.oscE (atZ z) (pbZ z) ph len)]) ∧ Below w.heap.size w w' := by
  have CK := ocheck_any ph x len cap z (w.alloc (.cells (osA ph x len cap) 46)) (hz.on (bel_box w _))
  have K0 := one_mk w 46 (osA ph x len cap)
  obtain ⟨E, hE⟩ : ∃ E, Pl.oscE (atZ z) (pbZ z) ph len = E := ⟨_, rfl⟩
  rw [hE] at CK hbad ⊢
  replace CK := Lib.hid CK
  have tE : (E != 0) = true := by simp [hbad]
  clear hz hE
  go_enter Try.func24, Try.ntmps24
  go_wp2_with fail
  refine CK.out.mono ?_
  rintro _ w1 ⟨rfl, l1⟩
  go_wp2_with fail
  go_ret2
  exact ⟨rfl, (K0.on l1).1⟩
set_option maxHeartbeats 4000000 in
theorem oread_ok (ph : Int) (x : Option Addr) (len cap : Nat) (z : Nat → Nat → Int) (t : Int) (w : World) (hz : Pairs w x len z) (hok : Pl.oscE (atZ z) (pbZ z) ph len = 0) (ht : 0 ≤ t) (ht2 : t ≤ 1125899906842624) :
    Calls Try.prog 24 #[.agg (osA ph x len cap), .int .i64 t] w fun e w' => e = .returned (.tuple #[.int .i64 (Pl.rdg (atZ z) (pbZ z) ph len t), .int .i64 0]) ∧ Below w.heap.size w w' := by
  have CK := ocheck_any ph x len cap z (w.alloc (.cells (osA ph x len cap) 46)) (hz.on (bel_box w _))
  rw [hok] at CK
  have OK := Pl.osc_ok hok
  have SPA := Lib.hid (fun W (l : Below w.heap.size w W) => ospans_any ph x len cap z W (hz.on l) OK)
  have RD := Lib.hid (fun g W (h : Trips W g len z) => oreading_any ph g len z t W h OK ht ht2)
  have K0 := one_mk w 46 (osA ph x len cap)
  obtain ⟨N, hN⟩ : ∃ E, Pl.rdg (atZ z) (pbZ z) ph len t = E := ⟨_, rfl⟩
  rw [hN] at RD ⊢
  replace CK := Lib.hid CK
  have t1 : decide (t < 0) = false := by simp; omega
  have t2 : decide (1125899906842624 < t) = false := by simp; omega
  clear hz hok hN OK
  go_enter Try.func24, Try.ntmps24
  go_wp2_with fail
  refine CK.out.mono ?_
  rintro _ w1 ⟨rfl, l1⟩
  have K1 := K0.on l1
  obtain ⟨y0, y1, yz⟩ := box_at K1
  clear l1 K0 CK
  go_wp2_with fail
  go_region_held3 (fun w' => w'.cell? ⟨w.heap.size, 0, none⟩ = some (.int .i64 ph) ∧ w'.cell? ⟨w.heap.size, 1, none⟩ = some (.slice x len cap)) (first | exact ⟨y0, y1⟩ | exact ⟨K2.cells.1, K2.cells.2.1⟩ | exact ⟨K3.cells.1, K3.cells.2.1⟩) (first | ((go_at_call 43; refine (SPA.out _ K1.drew.1).mono ?_; rintro _ w2 ⟨rfl, T2, l2⟩; have K2 := K1.drew.on l2; clear l2)) | ((go_at_call 42; refine (RD.out _ _ T2).mono ?_; rintro _ w3 ⟨rfl, l3⟩; have K3 := K2.on l3; clear l3)))
  go_wp2_with fail
  go_ret2
  exact ⟨rfl, K3.1⟩
end Go.Proofs.Ytkdanfhgnpgmmaa
