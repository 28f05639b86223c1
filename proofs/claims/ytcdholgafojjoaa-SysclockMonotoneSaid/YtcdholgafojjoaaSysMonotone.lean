/- The walk of SysclockMonotone. -/
import Derived.Test.YtcdholgafojjoaaClockCall
import Derived.Test.YtcdholgafojjoaaSysPending
import Derived.Deep.DeepCutAuto
namespace Go.Proofs.Ytcdholgafojjoaa
namespace Pl
/-- what the law keeps -/
def MInv (S : CS) (L R n : Int) : Prop := S.ok = true ∧ S.raw ≤ R ∧ shown S (R - S.raw) = L ∧ S.steps = n
theorem minv_start {s : CS} (h : s.ok = true) : MInv s s.time s.raw s.steps := ⟨h, by omega, by rw [show s.raw - s.raw = 0 by omega, shown_zero h], rfl⟩
theorem call_no {S : CS} {k r x y : Int} (hk : k ≠ 3) (hn : nowE S r ≠ 0) : callS S k r x y = S := by
  unfold callS freqS slewS freqE slewE
  by_cases i1 : inn x 500000 = true <;> by_cases i2 : slewOk x y = true <;> simp [hk, hn, i1, i2]
theorem call_yes {S : CS} {L R n k r x y : Int} (hk : k ≠ 3) (hi : MInv S L R n) (hr : R ≤ r) (hn : nowE S r = 0) : L ≤ nowT S r ∧ MInv (callS S k r x y) (nowT S r) r n := by
  obtain ⟨h1, h2, h3, h4⟩ := hi
  have e : nowT S r = shown S (r - S.raw) := by unfold nowT; rw [if_pos hn]
  refine ⟨by rw [e, ← h3]; exact shown_mono h1 (by omega), ?_⟩
  have hs : MInv S (nowT S r) r n := ⟨h1, by omega, e.symm, h4⟩
  have hok := call_ok h1 k r x y
  unfold callS at hok ⊢
  split
  · exact hs
  · rename_i c0
    rw [if_neg c0] at hok
    split
    · rename_i c1
      rw [if_pos c1] at hok
      unfold freqS at hok ⊢
      split
      · rename_i e1
        rw [if_pos e1] at hok
        exact ⟨hok, by show r ≤ r; omega, by show shown (withPPB (moved S r) x) (r - r) = _; rw [show r - r = 0 by omega, shown_zero hok]; exact e.symm, h4⟩
      · exact hs
    · rename_i c1
      rw [if_neg c1] at hok
      split
      · rename_i c2
        rw [if_pos c2] at hok
        unfold slewS at hok ⊢
        split
        · rename_i e1
          rw [if_pos e1] at hok
          exact ⟨hok, by show r ≤ r; omega, by show shown (withSlew (moved S r) x y) (r - r) = _; rw [show r - r = 0 by omega, shown_zero hok]; exact e.symm, h4⟩
        · exact hs
      · exact hs
end Pl
open Go.RowKit Go.Lib

/-- the state's box and a clock -/
def Mo (w W : World) (b : Nat) (s S : Pl.CS) : Prop := StB w W s ∧ Blk W b 51 (csA S) ∧ w.heap.size + 1 ≤ b
section
variable {w W W' : World} {b : Nat} {s S S' : Pl.CS}
theorem Mo.on (h : Mo w W b s S) (l : Below W.heap.size W W') : Mo w W' b s S := ⟨h.1.on l, h.2.1.below_ l, h.2.2⟩
theorem Mo.drew (h : Mo w W b s S) : Mo w W.drew b s S := ⟨h.1.drew, h.2.1.drew, h.2.2⟩
theorem Mo.turn (h : Mo w W b s S) (l : LeftT 51 b S' W W') : Mo w W' b s S' :=
  ⟨⟨Below.only h.1.1 l.2 (by have := h.2.2; omega) h.1.1.size, h.1.2.grown l.2 (fun e => by injection e with e; have := h.2.2; omega)⟩, l.1, h.2.2⟩
/-- a row of four cells -/
def Row4 (W : World) (b o : Nat) (v0 v1 v2 v3 : Int) : Prop := b < W.heap.size ∧ W.cell? ⟨b, o, none⟩ = some (.int .i64 v0) ∧ W.cell? ⟨b, o + 1, none⟩ = some (.int .i64 v1) ∧ W.cell? ⟨b, o + 2, none⟩ = some (.int .i64 v2) ∧ W.cell? ⟨b, o + 3, none⟩ = some (.int .i64 v3)
theorem Row4.on {o : Nat} {v0 v1 v2 v3 : Int} (h : Row4 W b o v0 v1 v2 v3) (l : Below W.heap.size W W') : Row4 W' b o v0 v1 v2 v3 :=
  ⟨Nat.lt_of_lt_of_le h.1 l.size, (l.cell (p := ⟨b, o, none⟩) h.1).trans h.2.1, (l.cell (p := ⟨b, o + 1, none⟩) h.1).trans h.2.2.1, (l.cell (p := ⟨b, o + 2, none⟩) h.1).trans h.2.2.2.1, (l.cell (p := ⟨b, o + 3, none⟩) h.1).trans h.2.2.2.2⟩
end

set_option maxRecDepth 100000 in
theorem sysclockMonotone_no (s : Pl.CS) (a : Option Addr) (len cap : Nat) (w : World) (h : s.ok = false) :
    Calls Try.prog 5 #[csV s, .slice a len cap] w fun e w' => e = .returned (.bool true) ∧ Below w.heap.size w w' := by
  have O := Lib.hid (cof_no s h)
  have K := stB_mk w s
  obtain ⟨k0, k1, k2, k3, k4, k5⟩ := cs_cells K.2
  have kz := K.2.lt
  clear h
  go_enter Try.func5, Try.ntmps5
  go_wp2_with fail
  refine (O.out _).mono ?_
  rintro _ w1 ⟨rfl, l1⟩
  have K := K.on l1
  go_wp2_with fail
  refine (cawake_any _).mono ?_
  rintro _ w2 ⟨rfl, l2⟩
  have K := K.on l2
  go_wp2
  go_ret
  exact ⟨rfl, K.1⟩

set_option maxRecDepth 100000 in
theorem sysclockMonotone_long (s : Pl.CS) (a : Option Addr) (len cap : Nat) (w : World) (h : s.ok = true) (hl : 80 < len) (hcap : len ≤ 9223372036854775807) :
    Calls Try.prog 5 #[csV s, .slice a len cap] w fun e w' => e = .returned (.bool true) ∧ Below w.heap.size w w' := by
  have O := Lib.hid (cof_yes s h)
  have K := stB_mk w s
  obtain ⟨k0, k1, k2, k3, k4, k5⟩ := cs_cells K.2
  have kz := K.2.lt
  clear h
  go_enter Try.func5, Try.ntmps5
  go_wp2_with fail
  refine (O.out _).mono ?_
  rintro _ w1 ⟨b, rfl, hb, kb, l1⟩
  have K := K.on l1
  go_wp2_with fail
  refine (cawake_any _).mono ?_
  rintro _ w2 ⟨rfl, l2⟩
  have K := K.on l2
  go_wp2
  go_ret
  exact ⟨rfl, K.1⟩

set_option maxRecDepth 100000 in
set_option maxHeartbeats 4000000 in
theorem sysclockMonotone_yes (s : Pl.CS) (a : Option Addr) (len cap : Nat) (z : Nat → Nat → Int) (w : World) (h : s.ok = true) (hs : s.steps ≤ 9223372036854775807) (hl : len ≤ 80) (hz : Fours w a len z) :
    Calls Try.prog 5 #[csV s, .slice a len cap] w fun e w' => e = .returned (.bool true) ∧ Below w.heap.size w w' := by
  have O := Lib.hid (cof_yes s h)
  have K := stB_mk w s
  obtain ⟨k0, k1, k2, k3, k4, k5⟩ := cs_cells K.2
  have kz := K.2.lt
  have HZ := Lib.hid hz
  have HI0 := Lib.hid (Pl.minv_start h)
  have hfl5 : ∀ (x0 x1 x2 x3 x4 x5 : Value) (w : World), (Instr.field 23 (.agg #[x0, x1, x2, x3, x4, x5]) 5).run Try.prog w = .ok x5 w := fun _ _ _ _ _ _ _ => by kernel_rfl
  clear h hz
  go_enter Try.func5, Try.ntmps5
  go_wp2_with fail
  refine (O.out _).mono ?_
  rintro _ w1 ⟨b, rfl, hb, kb, l1⟩
  clear k0 k1 k2 k3 k4 k5 kz
  have K : Mo w w1 b s s := ⟨K.on l1, kb, by simpa using hb⟩
  clear hb kb l1
  obtain ⟨k0, k1, k2, k3, k4, k5⟩ := cs_cells K.1.2
  have kz := K.1.2.lt
  go_wp2_with fail
  go_region_held3 (fun w' => w'.cell? ⟨w.heap.size, 0, none⟩ = some (.int .i64 s.raw) ∧ w'.cell? ⟨w.heap.size, 1, none⟩ = some (.int .i64 s.time) ∧ w'.cell? ⟨w.heap.size, 2, none⟩ = some (.int .i64 s.ppb) ∧ w'.cell? ⟨w.heap.size, 3, none⟩ = some (.int .i64 s.left) ∧ w'.cell? ⟨w.heap.size, 4, none⟩ = some (.int .i64 s.rate) ∧ w'.cell? ⟨w.heap.size, 5, none⟩ = some (.int .i64 s.steps)) (first | exact cs_cells K.1.2 | exact cs_cells K.drew.1.2) ((fail))
  all_goals (
    clear k0 k1 k2 k3 k4 k5 kz
    have HK : Hid (Mo w w1.drew b s s) := Lib.hid K.drew
    clear K
    go_wp2_with fail
    go_loopw [6, 7, 8] (fun l r i wr => ∃ (j : Nat) (L R : Int) (S : Pl.CS), l = .int .i64 L ∧ r = .int .i64 R ∧ i = .int .i64 j ∧ j ≤ len ∧ Hid (Pl.MInv S L R s.steps) ∧ Hid (Mo w wr b s S)) (fun _ _ i _ => len - (RowKit.intOf i).toNat))
  case atStart => exact ⟨0, s.time, s.raw, s, rfl, rfl, rfl, by omega, HI0, HK⟩
  case round =>
    obtain ⟨j, L, R, S, rfl, rfl, rfl, hj, hI, hK⟩ := hrel
    by_cases hlt : j < len
    · obtain ⟨bx, ox, rfl, hb1, hb2, d0, d1, d2, d3⟩ := fours_at HZ.out hK.out.1.1 hlt
      obtain ⟨k, hk⟩ : ∃ k, z j 0 = k := ⟨_, rfl⟩
      obtain ⟨r, hr⟩ : ∃ r, z j 1 = r := ⟨_, rfl⟩
      obtain ⟨x, hx⟩ : ∃ x, z j 2 = x := ⟨_, rfl⟩
      obtain ⟨y, hy⟩ : ∃ y, z j 3 = y := ⟨_, rfl⟩
      rw [hk] at d0
      rw [hr] at d1
      rw [hx] at d2
      rw [hy] at d3
      have hr : Row4 wr bx (ox + j * 4) k r x y := ⟨hb2, d0, d1, d2, d3⟩
      clear hk hx hy d0 d1 d2 d3 hb2 hb1
      by_cases q3 : k = 3
      · have t3 : (k == 3) = true := by simp [q3]
        clear q3
        obtain ⟨cb, c0, c1, c2, c3⟩ := hr
        go_wp2_with fail
        go_roundw
        case rel => exact ⟨j + 1, L, R, S, rfl, rfl, by go_num, by omega, hI, hK⟩
        case measure => simp [RowKit.intOf]; omega
      · have t3 : (k == 3) = false := by simp [q3]
        by_cases c : r < R
        · obtain ⟨cb, c0, c1, c2, c3⟩ := hr
          clear q3
          go_wp2_with fail
          go_roundw
          case rel => exact ⟨j + 1, L, R, S, rfl, rfl, by go_num, by omega, hI, hK⟩
          case measure => simp [RowKit.intOf]; omega
        · have hS := hI.out.1
          have hSs : S.steps ≤ 9223372036854775807 := by rw [hI.out.2.2.2]; exact hs
          obtain ⟨T, hT⟩ : ∃ T, Pl.nowT S r = T := ⟨_, rfl⟩
          obtain ⟨E, hE⟩ : ∃ E, Pl.nowE S r = E := ⟨_, rfl⟩
          obtain ⟨S2, hS2⟩ : ∃ S2, Pl.callS S k r x y = S2 := ⟨_, rfl⟩
          have NO := Lib.hid (cnow_at hS hT hE)
          have CA := Lib.hid (fun b W (hb : Blk W b 51 (csA S)) => ccall_any b S k r x y W hb hS hSs)
          rw [hS2] at CA
          have hrel2 : (E = 0 → L ≤ T ∧ Pl.MInv S2 T r s.steps) ∧ (E ≠ 0 → S2 = S) := by
            rw [← hE, ← hT, ← hS2]
            exact ⟨fun e => Pl.call_yes q3 hI.out (by omega) e, fun e => Pl.call_no q3 e⟩
          clear hT hE hS2 hSs hS q3
          by_cases e0 : E = 0
          · obtain ⟨i1, i2⟩ := hrel2.1 e0
            have t : (E == 0) = true := by simp [e0]
            have hst := i2.2.2.2
            have HI := Lib.hid i2
            clear hrel2 i2 hI
            obtain ⟨p0, p1, p2, p3, p4, p5⟩ := S2
            obtain rfl : p5 = s.steps := hst
            have STX := Lib.hid (fun b W (k : Blk W b 51 (csA ⟨p0, p1, p2, p3, p4, s.steps⟩)) => (cstate_any b ⟨p0, p1, p2, p3, p4, s.steps⟩ W k : Calls Try.prog 13 #[.pointer (some ⟨b, 0, none⟩)] W fun e W' => e = .returned (.agg #[.int .i64 p0, .int .i64 p1, .int .i64 p2, .int .i64 p3, .int .i64 p4, .int .i64 s.steps]) ∧ Below W.heap.size W W'))
            subst e0
            have hr0 := hr
            obtain ⟨cb, c0, c1, c2, c3⟩ := hr
            have hr := hr0
            go_wp2_with fail
            refine (NO.out b _ hK.out.2.1).mono ?_
            rintro _ w2 ⟨rfl, l2⟩
            have hK2 := Lib.hid (hK.out.on l2)
            clear cb c0 c1 c2 c3 hr0
            have hr := hr.on l2
            obtain ⟨cb, c0, c1, c2, c3⟩ := hr
            clear l2 hK
            go_wp2_with fail
            refine (CA.out b _ hK2.out.2.1).mono ?_
            rintro _ w3 ⟨rfl, l3⟩
            have K := hK2.out.turn l3
            clear l3 hK2 cb c0 c1 c2 c3
            have STA := STX.out b
            go_wp2_with fail
            go_region_held3 (fun w' => w'.cell? ⟨w.heap.size, 0, none⟩ = some (.int .i64 s.raw) ∧ w'.cell? ⟨w.heap.size, 1, none⟩ = some (.int .i64 s.time) ∧ w'.cell? ⟨w.heap.size, 2, none⟩ = some (.int .i64 s.ppb) ∧ w'.cell? ⟨w.heap.size, 3, none⟩ = some (.int .i64 s.left) ∧ w'.cell? ⟨w.heap.size, 4, none⟩ = some (.int .i64 s.rate) ∧ w'.cell? ⟨w.heap.size, 5, none⟩ = some (.int .i64 s.steps)) (first | exact cs_cells K.1.2 | exact cs_cells K.drew.1.2) ((go_at_call 13; refine (STA _ (by first | exact K.2.1 | exact K.drew.2.1)).mono ?_; rintro _ w5 ⟨rfl, l5⟩; have K : Mo w w5 b s ⟨p0, p1, p2, p3, p4, s.steps⟩ := (by first | exact K.on l5 | exact K.drew.on l5)))
            all_goals (
              go_wp2_with fail
              go_roundw
              case rel => exact ⟨j + 1, T, r, ⟨p0, p1, p2, p3, p4, s.steps⟩, rfl, rfl, by go_num, by omega, HI, Lib.hid K⟩
              case measure => simp [RowKit.intOf]; omega)
          · have hq := hrel2.2 e0
            have t : (E == 0) = false := by simp [e0]
            have hst := hI.out.2.2.2
            subst hq
            clear hrel2 e0
            obtain ⟨p0, p1, p2, p3, p4, p5⟩ := S2
            obtain rfl : p5 = s.steps := hst
            have STX := Lib.hid (fun b W (k : Blk W b 51 (csA ⟨p0, p1, p2, p3, p4, s.steps⟩)) => (cstate_any b ⟨p0, p1, p2, p3, p4, s.steps⟩ W k : Calls Try.prog 13 #[.pointer (some ⟨b, 0, none⟩)] W fun e W' => e = .returned (.agg #[.int .i64 p0, .int .i64 p1, .int .i64 p2, .int .i64 p3, .int .i64 p4, .int .i64 s.steps]) ∧ Below W.heap.size W W'))
            have hr0 := hr
            obtain ⟨cb, c0, c1, c2, c3⟩ := hr
            have hr := hr0
            go_wp2_with fail
            refine (NO.out b _ hK.out.2.1).mono ?_
            rintro _ w2 ⟨rfl, l2⟩
            have hK2 := Lib.hid (hK.out.on l2)
            clear cb c0 c1 c2 c3 hr0
            have hr := hr.on l2
            obtain ⟨cb, c0, c1, c2, c3⟩ := hr
            clear l2 hK
            go_wp2_with fail
            refine (CA.out b _ hK2.out.2.1).mono ?_
            rintro _ w3 ⟨rfl, l3⟩
            have K := hK2.out.turn l3
            clear l3 hK2 cb c0 c1 c2 c3
            have STA := STX.out b
            go_wp2_with fail
            go_region_held3 (fun w' => w'.cell? ⟨w.heap.size, 0, none⟩ = some (.int .i64 s.raw) ∧ w'.cell? ⟨w.heap.size, 1, none⟩ = some (.int .i64 s.time) ∧ w'.cell? ⟨w.heap.size, 2, none⟩ = some (.int .i64 s.ppb) ∧ w'.cell? ⟨w.heap.size, 3, none⟩ = some (.int .i64 s.left) ∧ w'.cell? ⟨w.heap.size, 4, none⟩ = some (.int .i64 s.rate) ∧ w'.cell? ⟨w.heap.size, 5, none⟩ = some (.int .i64 s.steps)) (first | exact cs_cells K.1.2 | exact cs_cells K.drew.1.2) ((go_at_call 13; refine (STA _ (by first | exact K.2.1 | exact K.drew.2.1)).mono ?_; rintro _ w5 ⟨rfl, l5⟩; have K : Mo w w5 b s ⟨p0, p1, p2, p3, p4, s.steps⟩ := (by first | exact K.on l5 | exact K.drew.on l5)))
            all_goals (
              go_wp2_with fail
              go_roundw
              case rel => exact ⟨j + 1, L, R, ⟨p0, p1, p2, p3, p4, s.steps⟩, rfl, rfl, by go_num, by omega, hI, Lib.hid K⟩
              case measure => simp [RowKit.intOf]; omega)
    · obtain rfl : j = len := by omega
      go_wp2_with fail
      refine (cawake_any _).mono ?_
      rintro _ w6 ⟨rfl, l6⟩
      have K := hK.out.on l6
      go_wp2
      go_ret
      exact ⟨rfl, K.1.1⟩

theorem sysclockMonotone_walk (a b c d e f : Int) (x : Option Addr) (len cap : Nat) (z : Nat → Nat → Int) (w : World) (h : ∀ n ∈ [a, b, c, d, e, f], (Lit.int .i64 n).wf = true) (hz : len ≤ cap ∧ cap ≤ maxLen ∧ Fours w x len z) :
    Calls Try.prog 5 #[.agg ([a, b, c, d, e, f].map (Value.int .i64)).toArray, .slice x len cap] w fun e w' => e = .returned (.bool true) ∧ Below w.heap.size w w' := by
  have hc : cap ≤ 9223372036854775807 := by simpa [maxLen] using hz.2.1
  have hf := (int_bd (h f (by simp))).2
  cases hs : (⟨a, b, c, d, e, f⟩ : Pl.CS).ok with
  | false => exact sysclockMonotone_no ⟨a, b, c, d, e, f⟩ x len cap w hs
  | true =>
    by_cases hl : len ≤ 80
    · exact sysclockMonotone_yes ⟨a, b, c, d, e, f⟩ x len cap z w hs hf hl hz.2.2
    · exact sysclockMonotone_long ⟨a, b, c, d, e, f⟩ x len cap w hs (by omega) (by omega)
end Go.Proofs.Ytcdholgafojjoaa
