/- Plain law and walk of TopTrip. -/
import Derived.Test.YtkdanfhgnpgmmaaOsc3
import Derived.Test.YtkdanfhgnpgmmaaDriftSets
import Derived.Test.YtkdanfhgnpgmmaaDriftFns
namespace Go.Proofs.Ytkdanfhgnpgmmaa
open Go.RowKit Go.Lib
theorem trip_hi {d ppb tol raw : Int} (hd : 0 ≤ d) (ht : 0 ≤ tol) (ht2 : tol ≤ 500000) (h1 : -tol ≤ ppb) (hr : d * (1000000000 + ppb) < (raw + 1) * 1000000000) : d ≤ - Pl.md (-(raw + 1)) 1000000000 (1000000000 - tol) - 1 := by
  unfold Pl.md
  have h : -(raw + 1) * 1000000000 / (1000000000 - tol) < -d := by
    rw [Int.ediv_lt_iff_lt_mul (by omega)]
    have := Int.mul_le_mul_of_nonneg_left h1 hd
    rw [Int.neg_mul, Int.neg_mul]
    rw [Int.mul_add] at hr
    rw [Int.mul_sub]
    have e : d * -tol = -(d * tol) := Int.mul_neg _ _
    omega
  omega


namespace Pl
/-- The plain law: the interval that a reply proves contains true time. -/
theorem trip_law {at_ pb : Nat → Int} {ph : Int} {n : Nat} (h : OscOk at_ pb ph n) {a0 a1 a2 a3 a4 a5 R : Int} (hi : (0 ≤ a0 ∧ a0 ≤ 281474976710656) ∧ (0 ≤ a1 ∧ a1 ≤ 1099511627776) ∧ (0 ≤ a2 ∧ a2 ≤ 1099511627776) ∧ (0 ≤ a3 ∧ a3 ≤ 1099511627776) ∧ (0 ≤ a4 ∧ a4 ≤ 1099511627776) ∧ (0 ≤ a5 ∧ a5 ≤ 1099511627776))
    (hR : rdg at_ pb ph n (a0 + a1 + a2 + a3) - rdg at_ pb ph n a0 = R) :
    (0 ≤ R ∧ R ≤ 2251799813685248) ∧ (0 ≤ bnd pb n ∧ bnd pb n ≤ 500000) ∧ ∃ x y, trip (a0 + a1 + a2 - a4) (a0 + a1 + a2 + a5) R a2 (bnd pb n) = (x, y, 0) ∧ has x y (a0 + a1 + a2 + a3) = true := by
  obtain ⟨h0, h1, h2, h3, h4, h5⟩ := hi
  obtain ⟨p1, p2⟩ := h.proves (t := a0) (t' := a0 + a1 + a2 + a3) (by omega) (by omega) (by omega)
  rw [hR] at p1 p2
  have b0 := (bnd_ge (pb := pb) n).1
  have b1 := h.bnd_le n (Nat.le_refl _)
  obtain ⟨B, hB⟩ : ∃ B, bnd pb n = B := ⟨_, rfl⟩
  rw [hB] at p1 p2 b0 b1 ⊢
  obtain ⟨D, hD⟩ : ∃ D, a0 + a1 + a2 + a3 - a0 = D := ⟨_, rfl⟩
  rw [hD] at p1 p2
  have hD0 : 0 ≤ D ∧ D ≤ 3298534883328 := by omega
  have q1 := Int.mul_le_mul_of_nonneg_left (show 1000000000 + B ≤ 1001000000 by omega) hD0.1
  have q2 := Int.mul_nonneg hD0.1 (show 0 ≤ 1000000000 + -B by omega)
  have r0 : 0 ≤ R ∧ R ≤ 2251799813685248 := by omega
  have ek : eok R B = true := eok_iff.2 ⟨r0.1, r0.2, b0, b1⟩
  have hm : D ≤ mst R B := trip_hi hD0.1 b0 b1 (Int.le_refl _) p2
  have hm2 := mst_in ek
  have d1 : dok (a0 + a1 + a2 - a4) (a0 + a1 + a2 + a5) = true := dok_iff.2 (by omega)
  have d2 : dok (a0 + a1 + a2 - a4) (a0 + a1 + a2 + a5 + mst R B - a2) = true := dok_iff.2 (by omega)
  refine ⟨r0, ⟨b0, b1⟩, a0 + a1 + a2 - a4, a0 + a1 + a2 + a5 + mst R B - a2, ?_, ?_⟩
  · unfold trip dvl
    rw [d1, ek, if_pos rfl, if_pos rfl, if_neg (by omega), if_neg (by omega), d2, if_pos rfl]
  · unfold has
    rw [d2]
    simp
    omega
end Pl
theorem Two.far2 {w W : World} {t s : TypeId} {c d : Array Value} (h : Two w W t s c d) {g : Nat} (hg : w.heap.size + 1 < g) (u v : Value) : Two w ((W.setCell ⟨g, 0, none⟩ u).setCell ⟨g, 1, none⟩ v) t s c d :=
  ⟨Below.setCell (p := ⟨g, 1, none⟩) (Below.setCell (p := ⟨g, 0, none⟩) h.1 (by show w.heap.size ≤ g; omega) u) (by show w.heap.size ≤ g; omega) v,
    (h.2.1.far (p := ⟨g, 0, none⟩) (by show w.heap.size ≠ g; omega) u).far (p := ⟨g, 1, none⟩) (by show w.heap.size ≠ g; omega) v,
    (h.2.2.far (p := ⟨g, 0, none⟩) (by show w.heap.size + 1 ≠ g; omega) u).far (p := ⟨g, 1, none⟩) (by show w.heap.size + 1 ≠ g; omega) v⟩
theorem ocells {w W : World} {s t : TypeId} {ph : Int} {x : Option Addr} {len cap : Nat} {d : Array Value} (h : Two w W t s (osA ph x len cap) d) : W.cell? ⟨w.heap.size, 0, none⟩ = some (.int .i64 ph) ∧ W.cell? ⟨w.heap.size, 1, none⟩ = some (.slice x len cap) ∧ w.heap.size < W.heap.size :=
  ⟨h.2.1.cell 0, h.2.1.cell 1, h.2.1.lt⟩
theorem tall {w W : World} {s t : TypeId} {c : Array Value} {a0 a1 a2 a3 a4 a5 : Int} (h : Two w W t s c #[.int .i64 a0, .int .i64 a1, .int .i64 a2, .int .i64 a3, .int .i64 a4, .int .i64 a5]) : W.cell? ⟨w.heap.size + 1, 0, none⟩ = some (.int .i64 a0) ∧ W.cell? ⟨w.heap.size + 1, 1, none⟩ = some (.int .i64 a1) ∧ W.cell? ⟨w.heap.size + 1, 2, none⟩ = some (.int .i64 a2) ∧ W.cell? ⟨w.heap.size + 1, 3, none⟩ = some (.int .i64 a3) ∧ W.cell? ⟨w.heap.size + 1, 4, none⟩ = some (.int .i64 a4) ∧ W.cell? ⟨w.heap.size + 1, 5, none⟩ = some (.int .i64 a5) ∧ w.heap.size + 1 < W.heap.size :=
  ⟨h.2.2.cell 0, h.2.2.cell 1, h.2.2.cell 2, h.2.2.cell 3, h.2.2.cell 4, h.2.2.cell 5, h.2.2.lt⟩
theorem ivc {W : World} {g : Nat} {t : TypeId} {x y : Value} (h : Blk W g t #[x, y]) : W.cell? ⟨g, 0, none⟩ = some x ∧ W.cell? ⟨g, 1, none⟩ = some y ∧ W.frozen? ⟨g, 0, none⟩ = false ∧ W.frozen? ⟨g, 1, none⟩ = false ∧ g < W.heap.size := ⟨h.cell 0, h.cell 1, h.frozen 0, h.frozen 1, h.lt⟩
theorem tcells {w W : World} {s t : TypeId} {ph : Int} {x : Option Addr} {len cap : Nat} {a0 a1 a2 a3 a4 a5 : Int} (h : Two w W t s (osA ph x len cap) #[.int .i64 a0, .int .i64 a1, .int .i64 a2, .int .i64 a3, .int .i64 a4, .int .i64 a5]) : W.cell? ⟨w.heap.size, 0, none⟩ = some (.int .i64 ph) ∧ W.cell? ⟨w.heap.size, 1, none⟩ = some (.slice x len cap) ∧ W.cell? ⟨w.heap.size + 1, 2, none⟩ = some (.int .i64 a2) ∧ W.cell? ⟨w.heap.size + 1, 4, none⟩ = some (.int .i64 a4) ∧ W.cell? ⟨w.heap.size + 1, 5, none⟩ = some (.int .i64 a5) :=
  ⟨h.2.1.cell 0, h.2.1.cell 1, h.2.2.cell 2, h.2.2.cell 4, h.2.2.cell 5⟩
set_option maxHeartbeats 2000000 in
theorem oawake_any (w : World) : Calls Try.prog 26 #[] w fun e w' => e = .returned (.bool true) ∧ Below w.heap.size w w' := by
  have RD := oread_ok 5 (some ⟨w.heap.size, 0, none⟩) 1 1 (fun _ j => if j = 0 then 0 else 1000) 2000000 (w.alloc (.cells #[.int .i64 0, .int .i64 1000] 68)) (fun i hi => by
    obtain rfl : i = 0 := by omega
    refine ⟨_, rfl, by simp, fun j hj => ?_⟩
    rcases (by omega : j = 0 ∨ j = 1) with rfl | rfl
    · exact ⟨(Blk.new w 68 #[.int .i64 0, .int .i64 1000]).cell 0, by decide⟩
    · exact ⟨(Blk.new w 68 #[.int .i64 0, .int .i64 1000]).cell 1, by decide⟩) (by decide) (by omega) (by omega)
  rw [show Pl.rdg (atZ fun _ j => if j = 0 then 0 else 1000) (pbZ fun _ j => if j = 0 then 0 else 1000) 5 1 2000000 = 2000007 by decide] at RD
  replace RD := Lib.hid RD
  go_enter Try.func26, Try.ntmps26
  go_wp2_with fail
  refine RD.out.mono ?_
  rintro _ w1 ⟨rfl, l1⟩
  go_wp2_with fail
  go_ret
  exact ⟨rfl, bel_on (bel_box w _) l1⟩
set_option maxHeartbeats 4000000 in
theorem topTrip_out (ph : Int) (x : Option Addr) (len cap : Nat) (a0 a1 a2 a3 a4 a5 : Int) (w : World) (h : ¬ ((0 ≤ a0 ∧ a0 ≤ 281474976710656) ∧ (0 ≤ a1 ∧ a1 ≤ 1099511627776) ∧ (0 ≤ a2 ∧ a2 ≤ 1099511627776) ∧ (0 ≤ a3 ∧ a3 ≤ 1099511627776) ∧ (0 ≤ a4 ∧ a4 ≤ 1099511627776) ∧ (0 ≤ a5 ∧ a5 ≤ 1099511627776))) :
    Calls Try.prog 8 #[.agg (osA ph x len cap), .agg #[.int .i64 a0, .int .i64 a1, .int .i64 a2, .int .i64 a3, .int .i64 a4, .int .i64 a5]] w fun e w' => e = .returned (.bool true) ∧ Below w.heap.size w w' := by
  have K0 := two_mk w 46 48 (osA ph x len cap) #[.int .i64 a0, .int .i64 a1, .int .i64 a2, .int .i64 a3, .int .i64 a4, .int .i64 a5]
  go_enter Try.func8, Try.ntmps8
  go_wp2_with fail
  all_goals first
    | (go_ret; exact ⟨rfl, K0.1⟩)
    | (exfalso; omega)
set_option maxHeartbeats 4000000 in
theorem topTrip_bad (ph : Int) (x : Option Addr) (len cap : Nat) (z : Nat → Nat → Int) (a0 a1 a2 a3 a4 a5 : Int) (w : World) (h : (0 ≤ a0 ∧ a0 ≤ 281474976710656) ∧ (0 ≤ a1 ∧ a1 ≤ 1099511627776) ∧ (0 ≤ a2 ∧ a2 ≤ 1099511627776) ∧ (0 ≤ a3 ∧ a3 ≤ 1099511627776) ∧ (0 ≤ a4 ∧ a4 ≤ 1099511627776) ∧ (0 ≤ a5 ∧ a5 ≤ 1099511627776)) (hz : Pairs w x len z) (hbad : Pl.oscE (atZ z) (pbZ z) ph len ≠ 0) :
    Calls Try.prog 8 #[.agg (osA ph x len cap), .agg #[.int .i64 a0, .int .i64 a1, .int .i64 a2, .int .i64 a3, .int .i64 a4, .int .i64 a5]] w fun e w' => e = .returned (.bool true) ∧ Below w.heap.size w w' := by
  obtain ⟨⟨_, _⟩, ⟨_, _⟩, ⟨_, _⟩, ⟨_, _⟩, ⟨_, _⟩, ⟨_, _⟩⟩ := h
  have d0 : decide (a0 < 0) = false := by simp; omega
  have d1 : decide (281474976710656 < a0) = false := by simp; omega
  have d2 : decide (a1 < 0) = false := by simp; omega
  have d3 : decide (1099511627776 < a1) = false := by simp; omega
  have d4 : decide (a2 < 0) = false := by simp; omega
  have d5 : decide (1099511627776 < a2) = false := by simp; omega
  have d6 : decide (a3 < 0) = false := by simp; omega
  have d7 : decide (1099511627776 < a3) = false := by simp; omega
  have d8 : decide (a4 < 0) = false := by simp; omega
  have d9 : decide (1099511627776 < a4) = false := by simp; omega
  have d10 : decide (a5 < 0) = false := by simp; omega
  have d11 : decide (1099511627776 < a5) = false := by simp; omega
  have x1 : IntKind.i64.wrap (a0 + a1) = a0 + a1 := IntWalk.i64_in _ (by omega)
  have x2 : IntKind.i64.wrap (a0 + a1 + a2) = a0 + a1 + a2 := IntWalk.i64_in _ (by omega)
  have x3 : IntKind.i64.wrap (a0 + a1 + a2 + a3) = a0 + a1 + a2 + a3 := IntWalk.i64_in _ (by omega)
  have RD := fun t W (l : Below w.heap.size w W) => oread_bad ph x len cap z t W (hz.on l) hbad
  have CK := fun W (l : Below w.heap.size w W) => ocheck_any ph x len cap z W (hz.on l)
  obtain ⟨E, hE⟩ : ∃ E, Pl.oscE (atZ z) (pbZ z) ph len = E := ⟨_, rfl⟩
  rw [hE] at RD CK hbad
  replace RD := Lib.hid RD
  replace CK := Lib.hid CK
  have tE : (E != 0) = true := by simp [hbad]
  have K0 := two_mk w 46 48 (osA ph x len cap) #[.int .i64 a0, .int .i64 a1, .int .i64 a2, .int .i64 a3, .int .i64 a4, .int .i64 a5]
  clear hz hE
  go_enter Try.func8, Try.ntmps8
  go_wp2_with fail
  refine (RD.out _ _ K0.1).mono ?_
  rintro _ w1 ⟨rfl, l1⟩
  have K1 := K0.on l1
  obtain ⟨y0, y1, yz⟩ := ocells K1
  obtain ⟨u0, u1, u2, u3, u4, u5, uz⟩ := tall K1
  have K1' := Lib.hid K1
  clear l1 K0 K1
  go_wp2_with fail
  refine (RD.out _ _ K1'.out.1).mono ?_
  rintro _ w2 ⟨rfl, l2⟩
  have K2 := K1'.out.on l2
  clear y0 y1 yz u0 u1 u2 u3 u4 u5 uz
  obtain ⟨y0, y1, yz⟩ := ocells K2
  have K2' := Lib.hid K2
  clear l2 K1' K2
  go_wp2_with fail
  refine (CK.out _ K2'.out.1).mono ?_
  rintro _ w3 ⟨rfl, l3⟩
  have K3 := Lib.hid (K2'.out.on l3)
  clear l3 K2' y0 y1 yz
  go_wp2_with fail
  refine (oawake_any _).mono ?_
  rintro _ w4 ⟨rfl, l4⟩
  go_wp2_with fail
  go_ret
  exact ⟨rfl, bel_on K3.out.1 l4⟩
set_option maxHeartbeats 8000000 in
theorem topTrip_yes (ph : Int) (x : Option Addr) (len cap : Nat) (z : Nat → Nat → Int) (a0 a1 a2 a3 a4 a5 : Int) (w : World) (h : (0 ≤ a0 ∧ a0 ≤ 281474976710656) ∧ (0 ≤ a1 ∧ a1 ≤ 1099511627776) ∧ (0 ≤ a2 ∧ a2 ≤ 1099511627776) ∧ (0 ≤ a3 ∧ a3 ≤ 1099511627776) ∧ (0 ≤ a4 ∧ a4 ≤ 1099511627776) ∧ (0 ≤ a5 ∧ a5 ≤ 1099511627776)) (hz : Pairs w x len z) (hok : Pl.oscE (atZ z) (pbZ z) ph len = 0) :
    Calls Try.prog 8 #[.agg (osA ph x len cap), .agg #[.int .i64 a0, .int .i64 a1, .int .i64 a2, .int .i64 a3, .int .i64 a4, .int .i64 a5]] w fun e w' => e = .returned (.bool true) ∧ Below w.heap.size w w' := by
  have OK := Pl.osc_ok hok
  obtain ⟨R, hR⟩ : ∃ R, Pl.rdg (atZ z) (pbZ z) ph len (a0 + a1 + a2 + a3) - Pl.rdg (atZ z) (pbZ z) ph len a0 = R := ⟨_, rfl⟩
  obtain ⟨r0, r1, X, Y, hT, hH⟩ := Pl.trip_law OK h hR
  obtain ⟨⟨_, _⟩, ⟨_, _⟩, ⟨_, _⟩, ⟨_, _⟩, ⟨_, _⟩, ⟨_, _⟩⟩ := h
  have d0 : decide (a0 < 0) = false := by simp; omega
  have d1 : decide (281474976710656 < a0) = false := by simp; omega
  have d2 : decide (a1 < 0) = false := by simp; omega
  have d3 : decide (1099511627776 < a1) = false := by simp; omega
  have d4 : decide (a2 < 0) = false := by simp; omega
  have d5 : decide (1099511627776 < a2) = false := by simp; omega
  have d6 : decide (a3 < 0) = false := by simp; omega
  have d7 : decide (1099511627776 < a3) = false := by simp; omega
  have d8 : decide (a4 < 0) = false := by simp; omega
  have d9 : decide (1099511627776 < a4) = false := by simp; omega
  have d10 : decide (a5 < 0) = false := by simp; omega
  have d11 : decide (1099511627776 < a5) = false := by simp; omega
  have x1 : IntKind.i64.wrap (a0 + a1) = a0 + a1 := IntWalk.i64_in _ (by omega)
  have x2 : IntKind.i64.wrap (a0 + a1 + a2) = a0 + a1 + a2 := IntWalk.i64_in _ (by omega)
  have x3 : IntKind.i64.wrap (a0 + a1 + a2 + a3) = a0 + a1 + a2 + a3 := IntWalk.i64_in _ (by omega)
  have x4 : IntKind.i64.wrap (a0 + a1 + a2 - a4) = a0 + a1 + a2 - a4 := IntWalk.i64_in _ (by omega)
  have x5 : IntKind.i64.wrap (a0 + a1 + a2 + a5) = a0 + a1 + a2 + a5 := IntWalk.i64_in _ (by omega)
  have RD0 := Lib.hid (fun W (l : Below w.heap.size w W) => oread_ok ph x len cap z a0 W (hz.on l) hok (by omega) (by omega))
  have RD1 := fun W (l : Below w.heap.size w W) => oread_ok ph x len cap z (a0 + a1 + a2 + a3) W (hz.on l) hok (by omega) (by omega)
  have CK := fun W (l : Below w.heap.size w W) => ocheck_any ph x len cap z W (hz.on l)
  rw [hok] at CK
  have BD := fun W (l : Below w.heap.size w W) => obound_any ph x len cap z W (hz.on l) hok
  have TR := fun W => dtrip_any (a0 + a1 + a2 - a4) (a0 + a1 + a2 + a5) R a2 (Pl.bnd (pbZ z) len) (by omega) (by omega) (by omega) (by omega) W
  rw [hT] at TR
  have HS := fun W => dhas_any X Y (a0 + a1 + a2 + a3) W
  rw [hH] at HS
  obtain ⟨N0, hN0⟩ : ∃ N, Pl.rdg (atZ z) (pbZ z) ph len a0 = N := ⟨_, rfl⟩
  obtain ⟨N1, hN1⟩ : ∃ N, Pl.rdg (atZ z) (pbZ z) ph len (a0 + a1 + a2 + a3) = N := ⟨_, rfl⟩
  obtain ⟨B, hB⟩ : ∃ N, Pl.bnd (pbZ z) len = N := ⟨_, rfl⟩
  rw [hN0] at RD0 hR
  rw [hN1] at RD1 hR
  rw [hB] at BD TR
  have x6 : IntKind.i64.wrap (N1 - N0) = R := (IntWalk.i64_in _ (by rw [hR]; omega)).trans hR
  replace RD1 := Lib.hid RD1
  replace CK := Lib.hid CK
  replace BD := Lib.hid BD
  replace TR := Lib.hid TR
  replace HS := Lib.hid HS
  have K0 := two_mk w 46 48 (osA ph x len cap) #[.int .i64 a0, .int .i64 a1, .int .i64 a2, .int .i64 a3, .int .i64 a4, .int .i64 a5]
  clear hz hok OK hR hT hH hN0 hN1 hB r0 r1
  go_enter Try.func8, Try.ntmps8
  go_wp2_with fail
  refine (RD0.out _ K0.1).mono ?_
  rintro _ w1 ⟨rfl, l1⟩
  have K1 := K0.on l1
  obtain ⟨y0, y1, yz⟩ := ocells K1
  obtain ⟨u0, u1, u2, u3, u4, u5, uz⟩ := tall K1
  have K1' := Lib.hid K1
  clear l1 K0 K1
  go_wp2_with fail
  refine (RD1.out _ K1'.out.1).mono ?_
  rintro _ w2 ⟨rfl, l2⟩
  have K2 := K1'.out.on l2
  clear y0 y1 yz u0 u1 u2 u3 u4 u5 uz
  obtain ⟨y0, y1, yz⟩ := ocells K2
  have K2' := Lib.hid K2
  clear l2 K1' K2
  go_wp2_with fail
  refine (CK.out _ K2'.out.1).mono ?_
  rintro _ w3 ⟨rfl, l3⟩
  have K3 := K2'.out.on l3
  have hK3 := K3.lt
  clear l3 K2' y0 y1 yz
  go_wp2_with fail
  go_region_held3 (fun w' => w'.cell? ⟨w.heap.size, 0, none⟩ = some (.int .i64 ph) ∧ w'.cell? ⟨w.heap.size, 1, none⟩ = some (.slice x len cap) ∧ w'.cell? ⟨w.heap.size + 1, 2, none⟩ = some (.int .i64 a2) ∧ w'.cell? ⟨w.heap.size + 1, 4, none⟩ = some (.int .i64 a4) ∧ w'.cell? ⟨w.heap.size + 1, 5, none⟩ = some (.int .i64 a5)) ((first | exact tcells K3.drew | exact tcells (K3.drew.on (bel_box _ _)) | exact tcells KB | exact tcells (KB.on (bel_box _ _)) | exact tcells KT | exact tcells (KT.on (bel_box _ _)) | exact tcells (KT.far2 hK3 _ _) | exact tcells (KT.far2 hKB _ _) | exact tcells ((KT.on (bel_box _ _)).far2 hKT _ _))) (first | ((go_at_call 27; refine (BD.out _ (by first | exact K3.drew.1 | exact (K3.drew.on (bel_box _ _)).1)).mono ?_; rintro _ w4 ⟨rfl, l4⟩; have KB := (by first | exact K3.drew.on l4 | exact (K3.drew.on (bel_box _ _)).on l4); have hKB := KB.lt; obtain ⟨hc4, hf4⟩ := bcell l4; have hz4 := l4.size; (try simp at hz4); (try (have hy4 : w3.heap.size < w4.heap.size := (by omega))))) | ((go_at_call 18; refine (TR.out _).mono ?_; rintro _ w5 ⟨rfl, l5⟩; have KT := (by first | exact KB.on l5 | exact (KB.on (bel_box _ _)).on l5); have hKT := KT.lt; obtain ⟨hc5, hf5⟩ := bcell l5; have hz5 := l5.size; (try simp at hz5); (try (have hy5 : w4.heap.size < w5.heap.size := (by omega))); (try (have hy6 : w3.heap.size < w5.heap.size := (by omega))))))
  · obtain ⟨u0, u1, u2, u3, u4, u5, uz⟩ := tall KT
    have n3 : w.heap.size + 1 ≠ w3.heap.size := by omega
    have n4 : w.heap.size + 1 ≠ w4.heap.size := by omega
    have n5 : w.heap.size + 1 ≠ w5.heap.size := by omega
    clear hc4 hf4 hc5 hf5
    go_wp2_with fail
    refine (HS.out _).mono ?_
    rintro _ w9 ⟨rfl, l9⟩
    go_wp2_with fail
    go_ret
    exact ⟨rfl, bel_on (KT.on (bel_box _ _)).1 l9⟩
  · obtain ⟨u0, u1, u2, u3, u4, u5, uz⟩ := tall KT
    have n3 : w.heap.size + 1 ≠ w3.heap.size := by omega
    have n4 : w.heap.size + 1 ≠ w4.heap.size := by omega
    have n5 : w.heap.size + 1 ≠ w5.heap.size := by omega
    obtain ⟨q0, q1, q2, q3, q4⟩ := ivc ((Blk.new w4 23 #[.int .i64 0, .int .i64 0]).below_ l5)
    clear hc4 hf4 hc5 hf5
    go_wp2_with fail
    refine (HS.out _).mono ?_
    rintro _ w9 ⟨rfl, l9⟩
    go_wp2_with fail
    go_ret
    exact ⟨rfl, bel_on (KT.far2 hKB _ _).1 l9⟩
  · obtain ⟨u0, u1, u2, u3, u4, u5, uz⟩ := tall KT
    have n3 : w.heap.size + 1 ≠ w3.heap.size := by omega
    have n4 : w.heap.size + 1 ≠ w4.heap.size := by omega
    have n5 : w.heap.size + 1 ≠ w5.heap.size := by omega
    obtain ⟨q0, q1, q2, q3, q4⟩ := ivc (((Blk.new w3.drew 23 #[.int .i64 0, .int .i64 0]).below_ l4).below_ l5)
    change w5.cell? ⟨w3.heap.size, 0, none⟩ = _ at q0
    change w5.cell? ⟨w3.heap.size, 1, none⟩ = _ at q1
    change w3.heap.size < _ at q4
    clear hc4 hf4 hc5 hf5
    go_wp2_with fail
    refine (HS.out _).mono ?_
    rintro _ w9 ⟨rfl, l9⟩
    go_wp2_with fail
    go_ret
    exact ⟨rfl, bel_on (KT.far2 hK3 _ _).1 l9⟩
theorem topTrip_walk (ph : Int) (x : Option Addr) (len cap : Nat) (z : Nat → Nat → Int) (a0 a1 a2 a3 a4 a5 : Int) (w : World) (hz : len ≤ cap ∧ cap ≤ maxLen ∧ Pairs w x len z) (_h : ∀ n ∈ [a0, a1, a2, a3, a4, a5], (Lit.int .i64 n).wf = true) :
    Calls Try.prog 8 #[.agg (osA ph x len cap), .agg ([a0, a1, a2, a3, a4, a5].map (Value.int .i64)).toArray] w fun e w' => e = .returned (.bool true) ∧ Below w.heap.size w w' := by
  by_cases h : (0 ≤ a0 ∧ a0 ≤ 281474976710656) ∧ (0 ≤ a1 ∧ a1 ≤ 1099511627776) ∧ (0 ≤ a2 ∧ a2 ≤ 1099511627776) ∧ (0 ≤ a3 ∧ a3 ≤ 1099511627776) ∧ (0 ≤ a4 ∧ a4 ≤ 1099511627776) ∧ (0 ≤ a5 ∧ a5 ≤ 1099511627776)
  · by_cases hE : Pl.oscE (atZ z) (pbZ z) ph len = 0
    · exact topTrip_yes ph x len cap z a0 a1 a2 a3 a4 a5 w h hz.2.2 hE
    · exact topTrip_bad ph x len cap z a0 a1 a2 a3 a4 a5 w h hz.2.2 hE
  · exact topTrip_out ph x len cap a0 a1 a2 a3 a4 a5 w h
end Go.Proofs.Ytkdanfhgnpgmmaa
