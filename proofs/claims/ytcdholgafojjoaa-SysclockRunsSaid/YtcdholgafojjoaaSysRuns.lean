/- The contract of specified; the walk of SysclockRuns. -/
import Derived.Test.YtcdholgafojjoaaClockRef6
import Derived.Test.YtcdholgafojjoaaOpenInts
import Derived.Deep.QuietTactic
import Derived.BigQuiet
namespace Go.Proofs.Ytcdholgafojjoaa
open Go.RowKit Go.Lib

set_option maxHeartbeats 1000000 in
theorem rspec_any (b : Nat) (s : Pl.CS) (k r x y : Int) (w : World) (hk : Blk w b 53 (csA s)) (h : s.ok = true) (hs : s.steps ≤ 9223372036854775807) :
    Calls Try.prog 18 #[.pointer (some ⟨b, 0, none⟩), .agg #[.int .i64 k, .int .i64 r, .int .i64 x, .int .i64 y]] w fun e w' => e = .returned (.tuple #[.int .i64 (Pl.callN s k r), .int .i64 (Pl.callE s k r x y)]) ∧ LeftT 53 b (Pl.callS s k r x y) w w' := by
  have K := opB_mk w k r x y
  obtain ⟨c0, c1, c2, c3⟩ := K.cells
  have cz := K.2.lt
  have kb := hk.alloc (.cells #[.int .i64 k, .int .i64 r, .int .i64 x, .int .i64 y] 38)
  unfold Pl.callN Pl.callE Pl.callS
  by_cases q0 : k = 0
  · rw [if_pos q0, if_pos q0, if_pos q0]
    have t0 : (k == 0) = true := by simp [q0]
    have F := Lib.hid (rnow10_at h rfl rfl b _ kb (raw := r))
    have HK := Lib.hid kb
    clear q0 hk h K kb
    obtain ⟨A, hA⟩ : ∃ A, Pl.nowT s r = A := ⟨_, rfl⟩
    obtain ⟨B, hB⟩ : ∃ B, Pl.nowE s r = B := ⟨_, rfl⟩
    rw [hA, hB] at F ⊢
    clear hA hB
    go_enter Try.func18, Try.ntmps18
    go_wp2_with fail
    refine F.out.mono ?_
    rintro _ w1 ⟨rfl, l1⟩
    go_wp2
    refine bodyPost_ret (v := .tuple #[.int .i64 A, .int .i64 B]) (by simp [results, Try.results18, go_sem]) rfl ⟨rfl, leftT_box (leftT_same HK.out l1)⟩
  · rw [if_neg q0, if_neg q0, if_neg q0]
    have t0 : (k == 0) = false := by simp [q0]
    by_cases q1 : k = 1
    · rw [if_pos q1, if_pos q1, if_pos q1]
      have t1 : (k == 1) = true := by simp [q1]
      have F := Lib.hid (rfreq_at h (raw := r) (x := x) rfl rfl b _ kb)
      clear q0 q1 hk h hs K kb
      obtain ⟨B, hB⟩ : ∃ B, Pl.freqE s r x = B := ⟨_, rfl⟩
      rw [hB] at F ⊢
      clear hB
      go_enter Try.func18, Try.ntmps18
      go_wp2_with fail
      refine F.out.mono ?_
      rintro _ w1 ⟨rfl, l1⟩
      go_wp2
      refine bodyPost_ret (v := .tuple #[.int .i64 0, .int .i64 B]) (by simp [results, Try.results18, go_sem]) rfl ⟨rfl, leftT_box l1⟩
    · rw [if_neg q1, if_neg q1, if_neg q1]
      have t1 : (k == 1) = false := by simp [q1]
      by_cases q2 : k = 2
      · rw [if_pos q2, if_pos q2, if_pos q2]
        have t2 : (k == 2) = true := by simp [q2]
        have F := Lib.hid (rslew_at h (raw := r) (x := x) (y := y) rfl rfl b _ kb)
        clear q0 q1 q2 hk h hs K kb
        obtain ⟨B, hB⟩ : ∃ B, Pl.slewE s r x y = B := ⟨_, rfl⟩
        rw [hB] at F ⊢
        clear hB
        go_enter Try.func18, Try.ntmps18
        go_wp2_with fail
        refine F.out.mono ?_
        rintro _ w1 ⟨rfl, l1⟩
        go_wp2
        refine bodyPost_ret (v := .tuple #[.int .i64 0, .int .i64 B]) (by simp [results, Try.results18, go_sem]) rfl ⟨rfl, leftT_box l1⟩
      · rw [if_neg q2, if_neg q2, if_neg q2]
        have t2 : (k == 2) = false := by simp [q2]
        by_cases q3 : k = 3
        · rw [if_pos q3, if_pos q3, if_pos q3]
          have t3 : (k == 3) = true := by simp [q3]
          have F := Lib.hid (rstep_at h hs (raw := r) (x := x) rfl rfl b _ kb)
          clear q0 q1 q2 q3 hk h hs K kb
          obtain ⟨B, hB⟩ : ∃ B, Pl.stepE s r x = B := ⟨_, rfl⟩
          rw [hB] at F ⊢
          clear hB
          go_enter Try.func18, Try.ntmps18
          go_wp2_with fail
          refine F.out.mono ?_
          rintro _ w1 ⟨rfl, l1⟩
          go_wp2
          refine bodyPost_ret (v := .tuple #[.int .i64 0, .int .i64 B]) (by simp [results, Try.results18, go_sem]) rfl ⟨rfl, leftT_box l1⟩
        · rw [if_neg q3, if_neg q3, if_neg q3]
          have t3 : (k == 3) = false := by simp [q3]
          have F := Lib.hid (rpend_at h rfl b _ kb (raw := r))
          have HK := Lib.hid kb
          clear q0 q1 q2 q3 hk h hs K kb
          obtain ⟨A, hA⟩ : ∃ A, Pl.pend s r = A := ⟨_, rfl⟩
          rw [hA] at F ⊢
          clear hA
          go_enter Try.func18, Try.ntmps18
          go_wp2_with fail
          refine F.out.mono ?_
          rintro _ w1 ⟨rfl, l1⟩
          go_wp2
          refine bodyPost_ret (v := .tuple #[.int .i64 A, .int .i64 0]) (by simp [results, Try.results18, go_sem]) rfl ⟨rfl, leftT_box (leftT_same HK.out l1)⟩

/-- a row of four cells -/
def Row4 (W : World) (b o : Nat) (v0 v1 v2 v3 : Int) : Prop := b < W.heap.size ∧ W.cell? ⟨b, o, none⟩ = some (.int .i64 v0) ∧ W.cell? ⟨b, o + 1, none⟩ = some (.int .i64 v1) ∧ W.cell? ⟨b, o + 2, none⟩ = some (.int .i64 v2) ∧ W.cell? ⟨b, o + 3, none⟩ = some (.int .i64 v3)
theorem Row4.on {W W' : World} {b o : Nat} {v0 v1 v2 v3 : Int} (h : Row4 W b o v0 v1 v2 v3) (l : Below W.heap.size W W') : Row4 W' b o v0 v1 v2 v3 :=
  ⟨Nat.lt_of_lt_of_le h.1 l.size, (l.cell (p := ⟨b, o, none⟩) h.1).trans h.2.1, (l.cell (p := ⟨b, o + 1, none⟩) h.1).trans h.2.2.1, (l.cell (p := ⟨b, o + 2, none⟩) h.1).trans h.2.2.2.1, (l.cell (p := ⟨b, o + 3, none⟩) h.1).trans h.2.2.2.2⟩
/-- the parameter's box and two clocks -/
def Ru (w W : World) (b g : Nat) (s S : Pl.CS) : Prop := StB w W s ∧ Blk W b 51 (csA S) ∧ Blk W g 53 (csA S) ∧ w.heap.size + 1 ≤ b ∧ b < g
section
variable {w W W' : World} {b g : Nat} {s S S' : Pl.CS}
theorem Ru.on (h : Ru w W b g s S) (l : Below W.heap.size W W') : Ru w W' b g s S := ⟨h.1.on l, h.2.1.below_ l, h.2.2.1.below_ l, h.2.2.2.1, h.2.2.2.2⟩
/-- one clock has moved -/
def Rv (w W : World) (b g : Nat) (s S S' : Pl.CS) : Prop := StB w W s ∧ Blk W b 51 (csA S') ∧ Blk W g 53 (csA S) ∧ w.heap.size + 1 ≤ b ∧ b < g
theorem StB.turn {T : TypeId} {n : Pl.CS} (h : StB w W s) (l : LeftT T b n W W') (hb : w.heap.size + 1 ≤ b) : StB w W' s :=
  ⟨Below.only h.1 l.2 (by omega) h.1.size, h.2.grown l.2 (fun e => by injection e with e; omega)⟩
theorem Ru.first (h : Ru w W b g s S) (l : LeftT 51 b S' W W') : Rv w W' b g s S S' :=
  ⟨h.1.turn l h.2.2.2.1, l.1, h.2.2.1.grown l.2 (fun e => by injection e with e; have := h.2.2.2.2; omega), h.2.2.2⟩
theorem Rv.second (h : Rv w W b g s S S') (l : LeftT 53 g S' W W') : Ru w W' b g s S' :=
  ⟨h.1.turn l (by have := h.2.2.2.2; have := h.2.2.2.1; omega), h.2.1.grown l.2 (fun e => by injection e with e; have := h.2.2.2.2; omega), l.1, h.2.2.2⟩
theorem row_turn {T : TypeId} {n : Pl.CS} {bx ox : Nat} {k r x y : Int} (h : Row4 W bx ox k r x y) (l : LeftT T b n W W') (hb : bx < b) : Row4 W' bx ox k r x y := by
  have g : Below (bx + 1) W W' := Below.only (Below.refl _ _) l.2 (by omega) h.1
  exact ⟨Nat.lt_of_lt_of_le h.1 l.2.size, (g.cell (p := ⟨bx, ox, none⟩) (by show bx < bx + 1; omega)).trans h.2.1, (g.cell (p := ⟨bx, ox + 1, none⟩) (by show bx < bx + 1; omega)).trans h.2.2.1, (g.cell (p := ⟨bx, ox + 2, none⟩) (by show bx < bx + 1; omega)).trans h.2.2.2.1, (g.cell (p := ⟨bx, ox + 3, none⟩) (by show bx < bx + 1; omega)).trans h.2.2.2.2⟩
end

set_option maxRecDepth 100000 in
theorem sysclockRuns_no (s : Pl.CS) (a : Option Addr) (len cap : Nat) (w : World) (h : s.ok = false) :
    Calls Try.prog 4 #[csV s, .slice a len cap] w fun e w' => e = .returned (.bool true) ∧ Below w.heap.size w w' := by
  have O := Lib.hid (cof_no s h)
  have O2 := Lib.hid (rof_no s h)
  have K := stB_mk w s
  obtain ⟨k0, k1, k2, k3, k4, k5⟩ := cs_cells K.2
  have kz := K.2.lt
  clear h
  go_enter Try.func4, Try.ntmps4
  go_wp2_with fail
  go_cut [5, 6] (fun v1 v2 wx => v1 = .pointer none ∧ v2 = .pointer none ∧ Hid (StB w wx s))
  case first =>
    go_region_held3 (fun w' => w'.cell? ⟨w.heap.size, 0, none⟩ = some (.int .i64 s.raw) ∧ w'.cell? ⟨w.heap.size, 1, none⟩ = some (.int .i64 s.time) ∧ w'.cell? ⟨w.heap.size, 2, none⟩ = some (.int .i64 s.ppb) ∧ w'.cell? ⟨w.heap.size, 3, none⟩ = some (.int .i64 s.left) ∧ w'.cell? ⟨w.heap.size, 4, none⟩ = some (.int .i64 s.rate) ∧ w'.cell? ⟨w.heap.size, 5, none⟩ = some (.int .i64 s.steps)) (first | exact cs_cells K.2 | exact cs_cells K.drew.2) ((first
      | (go_at_call 11; refine (O.out _).mono ?_; rintro _ w5 ⟨rfl, l5⟩; (first | have K : StB w w5 s := K.on l5 | have K : StB w w5 s := K.drew.on l5))
      | (go_at_call 12; refine (O2.out _).mono ?_; rintro _ w6 ⟨rfl, l6⟩; (first | have K : StB w w6 s := K.on l6 | have K : StB w w6 s := K.drew.on l6))))
    all_goals (go_wp2_with fail; go_meet; exact ⟨rfl, rfl, Lib.hid (by first | exact K | exact K.drew)⟩)
  obtain ⟨rfl, rfl, HK⟩ := hcut
  clear k0 k1 k2 k3 k4 k5 kz K
  have K := HK.out
  go_wp2_with fail
  refine (cawake_any _).mono ?_
  rintro _ w2 ⟨rfl, l2⟩
  replace K := K.on l2
  go_wp2
  go_ret
  exact ⟨rfl, K.1⟩

set_option maxRecDepth 100000 in
theorem sysclockRuns_long (s : Pl.CS) (a : Option Addr) (len cap : Nat) (w : World) (h : s.ok = true) (hl : 80 < len) (hcap : len ≤ 9223372036854775807) :
    Calls Try.prog 4 #[csV s, .slice a len cap] w fun e w' => e = .returned (.bool true) ∧ Below w.heap.size w w' := by
  have O := Lib.hid (cof_yes s h)
  have O2 := Lib.hid (rof_yes s h)
  have K := stB_mk w s
  obtain ⟨k0, k1, k2, k3, k4, k5⟩ := cs_cells K.2
  have kz := K.2.lt
  clear h
  go_enter Try.func4, Try.ntmps4
  go_wp2_with fail
  go_cut [5, 6] (fun v1 v2 wx => ∃ b g, v1 = .pointer (some ⟨b, 0, none⟩) ∧ v2 = .pointer (some ⟨g, 0, none⟩) ∧ Hid (Ru w wx b g s s))
  case first =>
    go_region_held3 (fun w' => w'.cell? ⟨w.heap.size, 0, none⟩ = some (.int .i64 s.raw) ∧ w'.cell? ⟨w.heap.size, 1, none⟩ = some (.int .i64 s.time) ∧ w'.cell? ⟨w.heap.size, 2, none⟩ = some (.int .i64 s.ppb) ∧ w'.cell? ⟨w.heap.size, 3, none⟩ = some (.int .i64 s.left) ∧ w'.cell? ⟨w.heap.size, 4, none⟩ = some (.int .i64 s.rate) ∧ w'.cell? ⟨w.heap.size, 5, none⟩ = some (.int .i64 s.steps)) (first | exact cs_cells K.2 | exact cs_cells K.drew.2) ((first
      | (go_at_call 11; refine (O.out _).mono ?_; rintro _ w5 ⟨b, rfl, hb, hkb, l5⟩; have hk : Blk w5 b 51 (csA s) := hkb; (first | have hb1 : w.heap.size < b := Nat.lt_of_lt_of_le K.2.lt hb | have hb1 : w.heap.size < b := Nat.lt_of_lt_of_le K.drew.2.lt hb); (first | have K : StB w w5 s := K.on l5 | have K : StB w w5 s := K.drew.on l5))
      | (go_at_call 12; refine (O2.out _).mono ?_; rintro _ w6 ⟨g, rfl, hg, kg, l6⟩; (first | have hbg : b < g := Nat.lt_of_lt_of_le hk.lt hg | have hbg : b < g := Nat.lt_of_lt_of_le hk.drew.lt hg); (first | have hk : Blk w6 b 51 (csA s) := hk.below_ l6 | have hk : Blk w6 b 51 (csA s) := hk.drew.below_ l6); (first | have K : StB w w6 s := K.on l6 | have K : StB w w6 s := K.drew.on l6))))
    all_goals (go_wp2_with fail; go_meet; exact ⟨_, _, rfl, rfl, Lib.hid ⟨(by first | exact K | exact K.drew), (by first | exact hk | exact hk.drew), (by first | exact kg | exact kg.drew), hb1, hbg⟩⟩)
  obtain ⟨b, g, rfl, rfl, HK⟩ := hcut
  clear k0 k1 k2 k3 k4 k5 kz K
  have K := HK.out.1
  go_wp2_with fail
  refine (cawake_any _).mono ?_
  rintro _ w2 ⟨rfl, l2⟩
  replace K := K.on l2
  go_wp2
  go_ret
  exact ⟨rfl, K.1⟩

set_option maxRecDepth 100000 in
set_option maxHeartbeats 4000000 in
theorem sysclockRuns_yes (s : Pl.CS) (a : Option Addr) (len cap : Nat) (z : Nat → Nat → Int) (w : World) (h : s.ok = true) (hs : s.steps ≤ 9223372036854775807) (hl : len ≤ 80) (hz : Fours w a len z) :
    Calls Try.prog 4 #[csV s, .slice a len cap] w fun e w' => e = .returned (.bool true) ∧ Below w.heap.size w w' := by
  have O := Lib.hid (cof_yes s h)
  have O2 := Lib.hid (rof_yes s h)
  have K := stB_mk w s
  obtain ⟨k0, k1, k2, k3, k4, k5⟩ := cs_cells K.2
  have kz := K.2.lt
  have HZ := Lib.hid hz
  have HI0 : Hid (s.ok = true ∧ s.steps ≤ 9223372036854775807) := Lib.hid ⟨h, hs⟩
  clear h hz hs
  go_enter Try.func4, Try.ntmps4
  go_wp2_with fail
  go_cut [5, 6] (fun v1 v2 wx => ∃ b g, v1 = .pointer (some ⟨b, 0, none⟩) ∧ v2 = .pointer (some ⟨g, 0, none⟩) ∧ Hid (Ru w wx b g s s))
  case first =>
    go_region_held3 (fun w' => w'.cell? ⟨w.heap.size, 0, none⟩ = some (.int .i64 s.raw) ∧ w'.cell? ⟨w.heap.size, 1, none⟩ = some (.int .i64 s.time) ∧ w'.cell? ⟨w.heap.size, 2, none⟩ = some (.int .i64 s.ppb) ∧ w'.cell? ⟨w.heap.size, 3, none⟩ = some (.int .i64 s.left) ∧ w'.cell? ⟨w.heap.size, 4, none⟩ = some (.int .i64 s.rate) ∧ w'.cell? ⟨w.heap.size, 5, none⟩ = some (.int .i64 s.steps)) (first | exact cs_cells K.2 | exact cs_cells K.drew.2) ((first
      | (go_at_call 11; refine (O.out _).mono ?_; rintro _ w5 ⟨b, rfl, hb, hkb, l5⟩; have hk : Blk w5 b 51 (csA s) := hkb; (first | have hb1 : w.heap.size < b := Nat.lt_of_lt_of_le K.2.lt hb | have hb1 : w.heap.size < b := Nat.lt_of_lt_of_le K.drew.2.lt hb); (first | have K : StB w w5 s := K.on l5 | have K : StB w w5 s := K.drew.on l5))
      | (go_at_call 12; refine (O2.out _).mono ?_; rintro _ w6 ⟨g, rfl, hg, kg, l6⟩; (first | have hbg : b < g := Nat.lt_of_lt_of_le hk.lt hg | have hbg : b < g := Nat.lt_of_lt_of_le hk.drew.lt hg); (first | have hk : Blk w6 b 51 (csA s) := hk.below_ l6 | have hk : Blk w6 b 51 (csA s) := hk.drew.below_ l6); (first | have K : StB w w6 s := K.on l6 | have K : StB w w6 s := K.drew.on l6))))
    all_goals (go_wp2_with fail; go_meet; exact ⟨_, _, rfl, rfl, Lib.hid ⟨(by first | exact K | exact K.drew), (by first | exact hk | exact hk.drew), (by first | exact kg | exact kg.drew), hb1, hbg⟩⟩)
  obtain ⟨b, g, rfl, rfl, HK⟩ := hcut
  clear k0 k1 k2 k3 k4 k5 kz K
  go_wp2_with fail
  go_loopw [7] (fun i wr => ∃ (j : Nat) (S : Pl.CS), i = .int .i64 j ∧ j ≤ len ∧ Hid (S.ok = true ∧ S.steps ≤ 9223372036854775807) ∧ Hid (Ru w wr b g s S)) (fun i _ => len - (RowKit.intOf i).toNat)
  case atStart => exact ⟨0, s, rfl, by omega, HI0, HK⟩
  case round =>
    obtain ⟨j, S, rfl, hj, hI, hK⟩ := hrel
    by_cases hlt : j < len
    · obtain ⟨bx, ox, rfl, hb1, hb2, d0, d1, d2, d3⟩ := fours_at HZ.out hK.out.1.1 hlt
      obtain ⟨k, hk⟩ : ∃ k, z j 0 = k := ⟨_, rfl⟩
      obtain ⟨r, hr⟩ : ∃ r, z j 1 = r := ⟨_, rfl⟩
      obtain ⟨x, hx⟩ : ∃ x, z j 2 = x := ⟨_, rfl⟩
      obtain ⟨y, hy⟩ : ∃ y, z j 3 = y := ⟨_, rfl⟩
      rw [hk] at d0
      rw [hr] at d1
      rw [hx] at d2
      rw [hy] at d3
      have hr : Row4 wr bx (ox + j * 4) k r x y := ⟨hb2, d0, d1, d2, d3⟩
      have hbb : bx < b := by have := hK.out.2.2.2.1; omega
      have hbg : bx < g := by have := hK.out.2.2.2.2; omega
      clear hk hx hy d0 d1 d2 d3 hb2 hb1
      have CA := fun W (hb : Blk W b 51 (csA S)) => ccall_any b S k r x y W hb hI.out.1 hI.out.2
      have CB := fun W (hb : Blk W g 53 (csA S)) => rspec_any g S k r x y W hb hI.out.1 hI.out.2
      have I2 : Hid ((Pl.callS S k r x y).ok = true ∧ (Pl.callS S k r x y).steps ≤ 9223372036854775807) := Lib.hid ⟨Pl.call_ok hI.out.1 k r x y, Pl.steps_le hI.out.2 k r x y⟩
      obtain ⟨N, hN⟩ : ∃ N, Pl.callN S k r = N := ⟨_, rfl⟩
      obtain ⟨E, hE⟩ : ∃ E, Pl.callE S k r x y = E := ⟨_, rfl⟩
      obtain ⟨S2, hS2⟩ : ∃ S2, Pl.callS S k r x y = S2 := ⟨_, rfl⟩
      rw [hN, hE, hS2] at CA CB
      rw [hS2] at I2
      obtain ⟨p0, p1, p2, p3, p4, p5⟩ := S2
      have SA := Lib.hid (fun W (k : Blk W b 51 (csA ⟨p0, p1, p2, p3, p4, p5⟩)) => (cstate_any b ⟨p0, p1, p2, p3, p4, p5⟩ W k : Calls Try.prog 13 #[.pointer (some ⟨b, 0, none⟩)] W fun e W' => e = .returned (.agg #[.int .i64 p0, .int .i64 p1, .int .i64 p2, .int .i64 p3, .int .i64 p4, .int .i64 p5]) ∧ Below W.heap.size W W'))
      have SB := Lib.hid (fun W (k : Blk W g 53 (csA ⟨p0, p1, p2, p3, p4, p5⟩)) => (rstate_any g ⟨p0, p1, p2, p3, p4, p5⟩ W k : Calls Try.prog 19 #[.pointer (some ⟨g, 0, none⟩)] W fun e W' => e = .returned (.agg #[.int .i64 p0, .int .i64 p1, .int .i64 p2, .int .i64 p3, .int .i64 p4, .int .i64 p5]) ∧ Below W.heap.size W W'))
      replace CA := Lib.hid CA
      replace CB := Lib.hid CB
      clear hN hE hS2 hI
      have hr0 := hr
      obtain ⟨cb, c0, c1, c2, c3⟩ := hr0
      go_wp2_with fail
      refine (CA.out _ hK.out.2.1).mono ?_
      rintro _ w3 ⟨rfl, l3⟩
      have K3 := hK.out.first l3
      replace hr := row_turn hr l3 hbb
      clear l3 hK cb c0 c1 c2 c3
      have hr0 := hr
      obtain ⟨cb, c0, c1, c2, c3⟩ := hr0
      go_wp2_with fail
      refine (CB.out _ K3.2.2.1).mono ?_
      rintro _ w4 ⟨rfl, l4⟩
      have K4 := K3.second l4
      clear l4 K3 cb c0 c1 c2 c3 hr
      go_wp2_with fail
      refine (SA.out _ K4.2.1).mono ?_
      rintro _ w5 ⟨rfl, l5⟩
      replace K4 := K4.on l5
      clear l5
      go_wp2_with fail
      refine (SB.out _ K4.2.2.1).mono ?_
      rintro _ w6 ⟨rfl, l6⟩
      replace K4 := K4.on l6
      clear l6
      have HK4 := Lib.hid K4
      clear K4
      go_wp2_with fail
      go_roundw
      case rel => exact ⟨j + 1, ⟨p0, p1, p2, p3, p4, p5⟩, by go_num, by omega, I2, HK4⟩
      case measure => simp [RowKit.intOf]; omega
    · obtain rfl : j = len := by omega
      go_wp2_with fail
      refine (cawake_any _).mono ?_
      rintro _ w6 ⟨rfl, l6⟩
      have K := hK.out.on l6
      go_wp2
      go_ret
      exact ⟨rfl, K.1.1⟩

theorem sysclockRuns_walk (a b c d e f : Int) (x : Option Addr) (len cap : Nat) (z : Nat → Nat → Int) (w : World) (h : ∀ n ∈ [a, b, c, d, e, f], (Lit.int .i64 n).wf = true) (hz : len ≤ cap ∧ cap ≤ maxLen ∧ Fours w x len z) :
    Calls Try.prog 4 #[.agg ([a, b, c, d, e, f].map (Value.int .i64)).toArray, .slice x len cap] w fun e w' => e = .returned (.bool true) ∧ Below w.heap.size w w' := by
  have hc : cap ≤ 9223372036854775807 := by simpa [maxLen] using hz.2.1
  have hf := (int_bd (h f (by simp))).2
  cases hs : (⟨a, b, c, d, e, f⟩ : Pl.CS).ok with
  | false => exact sysclockRuns_no ⟨a, b, c, d, e, f⟩ x len cap w hs
  | true =>
    by_cases hl : len ≤ 80
    · exact sysclockRuns_yes ⟨a, b, c, d, e, f⟩ x len cap z w hs hf hl hz.2.2
    · exact sysclockRuns_long ⟨a, b, c, d, e, f⟩ x len cap w hs (by omega) (by omega)
end Go.Proofs.Ytcdholgafojjoaa
