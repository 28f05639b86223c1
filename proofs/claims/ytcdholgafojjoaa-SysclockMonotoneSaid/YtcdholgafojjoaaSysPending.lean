/- The walk of SysclockPending. -/
import Derived.Test.YtcdholgafojjoaaClockLaw
import Derived.Test.YtcdholgafojjoaaOpenInts
import Derived.Deep.DeepCutAuto
namespace Go.Proofs.Ytcdholgafojjoaa
namespace Pl
theorem left_mono {s : CS} {e e' : Int} (h : s.ok = true) (h0 : 0 ≤ e) (he : e ≤ e') : (0 ≤ s.left → 0 ≤ leftAfter s e' ∧ leftAfter s e' ≤ leftAfter s e) ∧ (s.left ≤ 0 → leftAfter s e ≤ leftAfter s e' ∧ leftAfter s e' ≤ 0) := by
  obtain ⟨_, _, _, _, h5, _, h7, _⟩ := CS.ok_iff.1 h
  have hp : 0 ≤ part e s.rate := by have := part_up h0 h5; rw [part_zero] at this; exact this
  have hq := part_up he h5
  unfold leftAfter
  split <;> constructor <;> intro _ <;> omega
theorem left_zero {s : CS} : leftAfter s 0 = s.left := by
  unfold leftAfter
  rw [part_zero]
  split <;> omega
theorem now_raw {s : CS} {q : Int} (h : nowE s q = 0) : s.raw ≤ q := by
  unfold nowE at h
  split at h
  · omega
  · omega
/-- what the law keeps -/
def PInv (s : CS) (L R : Int) : Prop := s.raw ≤ R ∧ L = leftAfter s (R - s.raw)
theorem pinv_start (s : CS) : PInv s s.left s.raw := ⟨by omega, by rw [show s.raw - s.raw = 0 by omega, left_zero]⟩
theorem pinv_step {s : CS} {L R q n : Int} (h : s.ok = true) (hi : PInv s L R) (hq : R ≤ q) (hn : nowE s q = 0) (hp : pend s q = n) : PInv s n q ∧ ((0 ≤ n ∧ n ≤ L) ∨ (L ≤ n ∧ n ≤ 0)) := by
  obtain ⟨h1, h2⟩ := hi
  have e : n = leftAfter s (q - s.raw) := by rw [← hp]; unfold pend; rw [if_pos hn]; rfl
  refine ⟨⟨by omega, e⟩, ?_⟩
  have m := left_mono h (e := R - s.raw) (e' := q - s.raw) (by omega) (by omega)
  rw [← e, ← h2] at m
  rcases Int.le_total 0 s.left with c | c
  · exact .inl (m.1 c)
  · exact .inr (by have := m.2 c; exact ⟨this.1, this.2⟩)
end Pl
open Go.RowKit Go.Lib

/-- the state's box and a clock of that state -/
def Pe (w W : World) (b : Nat) (s : Pl.CS) : Prop := StB w W s ∧ Blk W b 51 (csA s) ∧ w.heap.size + 1 ≤ b
theorem Pe.on {w W W' : World} {b : Nat} {s : Pl.CS} (h : Pe w W b s) (l : Below W.heap.size W W') : Pe w W' b s := ⟨h.1.on l, h.2.1.below_ l, h.2.2⟩
theorem Pe.drew {w W : World} {b : Nat} {s : Pl.CS} (h : Pe w W b s) : Pe w W.drew b s := ⟨h.1.drew, h.2.1.drew, h.2.2⟩

set_option maxRecDepth 100000 in
theorem sysclockPending_no (s : Pl.CS) (a : Option Addr) (len cap : Nat) (w : World) (h : s.ok = false) :
    Calls Try.prog 8 #[csV s, .slice a len cap] w fun e w' => e = .returned (.bool true) ∧ Below w.heap.size w w' := by
  have O := Lib.hid (cof_no s h)
  have K := stB_mk w s
  obtain ⟨k0, k1, k2, k3, k4, k5⟩ := cs_cells K.2
  have kz := K.2.lt
  clear h
  go_enter Try.func8, Try.ntmps8
  go_wp2_with fail
  refine (O.out _).mono ?_
  rintro _ w1 ⟨rfl, l1⟩
  have K := K.on l1
  go_wp2_with fail
  refine (cawake_any _).mono ?_
  rintro _ w2 ⟨rfl, l2⟩
  have K := K.on l2
  go_wp2
  go_ret
  exact ⟨rfl, K.1⟩

set_option maxRecDepth 100000 in
theorem sysclockPending_long (s : Pl.CS) (a : Option Addr) (len cap : Nat) (w : World) (h : s.ok = true) (hl : 50 < len) (hcap : len ≤ 9223372036854775807) :
    Calls Try.prog 8 #[csV s, .slice a len cap] w fun e w' => e = .returned (.bool true) ∧ Below w.heap.size w w' := by
  have O := Lib.hid (cof_yes s h)
  have K := stB_mk w s
  obtain ⟨k0, k1, k2, k3, k4, k5⟩ := cs_cells K.2
  have kz := K.2.lt
  clear h
  go_enter Try.func8, Try.ntmps8
  go_wp2_with fail
  refine (O.out _).mono ?_
  rintro _ w1 ⟨b, rfl, hb, kb, l1⟩
  have K := K.on l1
  go_wp2_with fail
  refine (cawake_any _).mono ?_
  rintro _ w2 ⟨rfl, l2⟩
  have K := K.on l2
  go_wp2
  go_ret
  exact ⟨rfl, K.1⟩

set_option maxRecDepth 100000 in
set_option maxHeartbeats 4000000 in
theorem sysclockPending_yes (s : Pl.CS) (a : Option Addr) (len cap : Nat) (z : Nat → Int) (w : World) (h : s.ok = true) (hl : len ≤ 50) (hz : Ints w a len z) :
    Calls Try.prog 8 #[csV s, .slice a len cap] w fun e w' => e = .returned (.bool true) ∧ Below w.heap.size w w' := by
  have O := Lib.hid (cof_yes s h)
  have K := stB_mk w s
  obtain ⟨k0, k1, k2, k3, k4, k5⟩ := cs_cells K.2
  have kz := K.2.lt
  have HZ := Lib.hid hz
  have HO := Lib.hid h
  clear h hz
  go_enter Try.func8, Try.ntmps8
  go_wp2_with fail
  refine (O.out _).mono ?_
  rintro _ w1 ⟨b, rfl, hb, kb, l1⟩
  clear k0 k1 k2 k3 k4 k5 kz
  have K : Pe w w1 b s := ⟨K.on l1, kb, by simpa using hb⟩
  clear hb kb l1
  obtain ⟨k0, k1, k2, k3, k4, k5⟩ := cs_cells K.1.2
  have kz := K.1.2.lt
  go_wp2_with fail
  go_region_held3 (fun w' => w'.cell? ⟨w.heap.size, 0, none⟩ = some (.int .i64 s.raw) ∧ w'.cell? ⟨w.heap.size, 1, none⟩ = some (.int .i64 s.time) ∧ w'.cell? ⟨w.heap.size, 2, none⟩ = some (.int .i64 s.ppb) ∧ w'.cell? ⟨w.heap.size, 3, none⟩ = some (.int .i64 s.left) ∧ w'.cell? ⟨w.heap.size, 4, none⟩ = some (.int .i64 s.rate) ∧ w'.cell? ⟨w.heap.size, 5, none⟩ = some (.int .i64 s.steps)) (first | exact cs_cells K.1.2 | exact cs_cells K.drew.1.2) ((fail))
  all_goals (
    clear k0 k1 k2 k3 k4 k5 kz
    have HK : Hid (Pe w w1.drew b s) := Lib.hid K.drew
    clear K
    go_wp2_with fail
    go_loopw [6, 7, 8] (fun l r i wr => ∃ (j : Nat) (L R : Int), l = .int .i64 L ∧ r = .int .i64 R ∧ i = .int .i64 j ∧ j ≤ len ∧ Hid (Pl.PInv s L R) ∧ Hid (Pe w wr b s)) (fun _ _ i _ => len - (RowKit.intOf i).toNat))
  case atStart => exact ⟨0, s.left, s.raw, rfl, rfl, rfl, by omega, Lib.hid (Pl.pinv_start s), HK⟩
  case round =>
    obtain ⟨j, L, R, rfl, rfl, rfl, hj, hI, hK⟩ := hrel
    by_cases hlt : j < len
    · obtain ⟨bx, ox, rfl, hb1, hb2, c0⟩ := ints_at HZ.out hK.out.1.1 hlt
      obtain ⟨q, hq⟩ : ∃ q, z j = q := ⟨_, rfl⟩
      rw [hq] at c0
      obtain ⟨T, hT⟩ : ∃ T, Pl.nowT s q = T := ⟨_, rfl⟩
      obtain ⟨E, hE⟩ : ∃ E, Pl.nowE s q = E := ⟨_, rfl⟩
      obtain ⟨n, hn⟩ : ∃ n, Pl.pend s q = n := ⟨_, rfl⟩
      have NO := Lib.hid (cnow_at HO.out hT hE)
      have PD := Lib.hid (cpend_at HO.out hn)
      by_cases e0 : E = 0
      · by_cases c : q < R
        · subst e0
          clear hT hE hn hq
          go_wp2_with fail
          refine (NO.out b _ hK.out.2.1).mono ?_
          rintro _ w2 ⟨rfl, l2⟩
          have hK2 := Lib.hid (hK.out.on l2)
          have c0 : w2.cell? ⟨bx, ox + j, none⟩ = some (.int .i64 q) := (l2.cell (p := ⟨bx, ox + j, none⟩) hb2).trans c0
          have hb2 : bx < w2.heap.size := Nat.lt_of_lt_of_le hb2 l2.size
          clear l2 hK
          go_wp2_with fail
          refine (PD.out b _ hK2.out.2.1).mono ?_
          rintro _ w3 ⟨rfl, l3⟩
          have hK3 := Lib.hid (hK2.out.on l3)
          have c0 : w3.cell? ⟨bx, ox + j, none⟩ = some (.int .i64 q) := (l3.cell (p := ⟨bx, ox + j, none⟩) hb2).trans c0
          have hb2 : bx < w3.heap.size := Nat.lt_of_lt_of_le hb2 l3.size
          clear l3 hK2
          go_wp2_with fail
          go_roundw
          case rel => exact ⟨j + 1, L, R, rfl, rfl, by go_num, by omega, hI, hK3⟩
          case measure => simp [RowKit.intOf]; omega
        · obtain ⟨i2, i3⟩ := Pl.pinv_step HO.out hI.out (by omega) (hE.trans e0) hn
          subst e0
          have HI := Lib.hid i2
          clear hT hE hn hq i2 hI
          go_wp2_with fail
          refine (NO.out b _ hK.out.2.1).mono ?_
          rintro _ w2 ⟨rfl, l2⟩
          have hK2 := Lib.hid (hK.out.on l2)
          have c0 : w2.cell? ⟨bx, ox + j, none⟩ = some (.int .i64 q) := (l2.cell (p := ⟨bx, ox + j, none⟩) hb2).trans c0
          have hb2 : bx < w2.heap.size := Nat.lt_of_lt_of_le hb2 l2.size
          clear l2 hK
          go_wp2_with fail
          refine (PD.out b _ hK2.out.2.1).mono ?_
          rintro _ w3 ⟨rfl, l3⟩
          have hK3 := Lib.hid (hK2.out.on l3)
          have c0 : w3.cell? ⟨bx, ox + j, none⟩ = some (.int .i64 q) := (l3.cell (p := ⟨bx, ox + j, none⟩) hb2).trans c0
          have hb2 : bx < w3.heap.size := Nat.lt_of_lt_of_le hb2 l3.size
          clear l3 hK2
          rcases i3 with ⟨i3, i4⟩ | ⟨i3, i4⟩
          · go_wp2_with fail
            all_goals (
              go_roundw
              case rel => exact ⟨j + 1, n, q, rfl, rfl, by go_num, by omega, HI, hK3⟩
              case measure => simp [RowKit.intOf]; omega)
          · go_wp2_with fail
            all_goals (
              go_roundw
              case rel => exact ⟨j + 1, n, q, rfl, rfl, by go_num, by omega, HI, hK3⟩
              case measure => simp [RowKit.intOf]; omega)
      · have n0 : n = 0 := by rw [← hn]; unfold Pl.pend; rw [if_neg (by rw [hE]; exact e0)]
        have t : (E == 0) = false := by simp [e0]
        subst n0
        clear hT hE hn hq e0
        go_wp2_with fail
        refine (NO.out b _ hK.out.2.1).mono ?_
        rintro _ w2 ⟨rfl, l2⟩
        have hK2 := Lib.hid (hK.out.on l2)
        have c0 : w2.cell? ⟨bx, ox + j, none⟩ = some (.int .i64 q) := (l2.cell (p := ⟨bx, ox + j, none⟩) hb2).trans c0
        have hb2 : bx < w2.heap.size := Nat.lt_of_lt_of_le hb2 l2.size
        clear l2 hK
        go_wp2_with fail
        refine (PD.out b _ hK2.out.2.1).mono ?_
        rintro _ w3 ⟨rfl, l3⟩
        have hK3 := Lib.hid (hK2.out.on l3)
        clear l3 hK2
        go_wp2_with fail
        go_roundw
        case rel => exact ⟨j + 1, L, R, rfl, rfl, by go_num, by omega, hI, hK3⟩
        case measure => simp [RowKit.intOf]; omega
    · obtain rfl : j = len := by omega
      have K := hK.out
      have STA := Lib.hid (fun W (k : Blk W b 51 (csA s)) => (cstate_any b s W k : Calls Try.prog 13 #[.pointer (some ⟨b, 0, none⟩)] W fun e W' => e = .returned (.agg #[.int .i64 s.raw, .int .i64 s.time, .int .i64 s.ppb, .int .i64 s.left, .int .i64 s.rate, .int .i64 s.steps]) ∧ Below W.heap.size W W'))
      go_wp2_with fail
      go_region_held3 (fun w' => w'.cell? ⟨w.heap.size, 0, none⟩ = some (.int .i64 s.raw) ∧ w'.cell? ⟨w.heap.size, 1, none⟩ = some (.int .i64 s.time) ∧ w'.cell? ⟨w.heap.size, 2, none⟩ = some (.int .i64 s.ppb) ∧ w'.cell? ⟨w.heap.size, 3, none⟩ = some (.int .i64 s.left) ∧ w'.cell? ⟨w.heap.size, 4, none⟩ = some (.int .i64 s.rate) ∧ w'.cell? ⟨w.heap.size, 5, none⟩ = some (.int .i64 s.steps)) (first | exact cs_cells K.1.2 | exact cs_cells K.drew.1.2) ((first
        | (go_at_call 13; refine (STA.out _ (by first | exact K.2.1 | exact K.drew.2.1)).mono ?_; rintro _ w5 ⟨rfl, l5⟩; have K : Pe w w5 b s := (by first | exact K.on l5 | exact K.drew.on l5))
        | (go_at_call 16; refine (cawake_any _).mono ?_; rintro _ w6 ⟨rfl, l6⟩; have K : Pe w w6 b s := (by first | exact K.on l6 | exact K.drew.on l6))))
      all_goals (go_wp2; go_ret; exact ⟨rfl, K.1.1⟩)

theorem sysclockPending_walk (a b c d e f : Int) (x : Option Addr) (len cap : Nat) (z : Nat → Int) (w : World) (_h : ∀ n ∈ [a, b, c, d, e, f], (Lit.int .i64 n).wf = true) (hz : len ≤ cap ∧ cap ≤ maxLen ∧ Ints w x len z) :
    Calls Try.prog 8 #[.agg ([a, b, c, d, e, f].map (Value.int .i64)).toArray, .slice x len cap] w fun e w' => e = .returned (.bool true) ∧ Below w.heap.size w w' := by
  have hc : cap ≤ 9223372036854775807 := by simpa [maxLen] using hz.2.1
  cases hs : (⟨a, b, c, d, e, f⟩ : Pl.CS).ok with
  | false => exact sysclockPending_no ⟨a, b, c, d, e, f⟩ x len cap w hs
  | true =>
    by_cases hl : len ≤ 50
    · exact sysclockPending_yes ⟨a, b, c, d, e, f⟩ x len cap z w hs hl hz.2.2
    · exact sysclockPending_long ⟨a, b, c, d, e, f⟩ x len cap w hs (by omega) (by omega)
end Go.Proofs.Ytcdholgafojjoaa
