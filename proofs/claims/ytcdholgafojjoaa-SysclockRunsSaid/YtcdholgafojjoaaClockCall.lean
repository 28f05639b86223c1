/- The contract of call. -/
import Derived.Test.YtcdholgafojjoaaClockLaw
namespace Go.Proofs.Ytcdholgafojjoaa
namespace Pl
def callN (s : CS) (k r : Int) : Int := if k = 0 then nowT s r else if k = 1 then 0 else if k = 2 then 0 else if k = 3 then 0 else pend s r
def callE (s : CS) (k r x y : Int) : Int := if k = 0 then nowE s r else if k = 1 then freqE s r x else if k = 2 then slewE s r x y else if k = 3 then stepE s r x else 0
def callS (s : CS) (k r x y : Int) : CS := if k = 0 then s else if k = 1 then freqS s r x else if k = 2 then slewS s r x y else if k = 3 then stepS s r x else s
theorem call_ok {s : CS} (h : s.ok = true) (k r x y : Int) : (callS s k r x y).ok = true := by
  unfold callS
  split
  · exact h
  · split
    · exact freq_ok h
    · split
      · exact slew_ok h
      · split
        · exact step_ok h
        · exact h
theorem steps_le {s : CS} (h : s.steps ≤ 9223372036854775807) (k r x y : Int) : (callS s k r x y).steps ≤ 9223372036854775807 := by
  unfold callS
  split
  · exact h
  · split
    · unfold freqS; split <;> exact h
    · split
      · unfold slewS; split <;> exact h
      · split
        · unfold stepS
          split
          · rename_i e
            unfold stepE at e
            split at e
            · split at e
              · unfold stpE at e
                split at e
                · split at e
                  · omega
                  · rename_i c
                    have c : ¬ s.steps = 9223372036854775807 := c
                    show s.steps + 1 ≤ 9223372036854775807
                    omega
                · omega
              · rename_i c; exact absurd e c
            · omega
          · exact h
        · exact h
/-- a call with an error changes nothing -/
theorem call_err {s : CS} {k r x y : Int} (hk : 0 ≤ k) (hk3 : k ≤ 3) (he : callE s k r x y ≠ 0) : callN s k r = 0 ∧ callS s k r x y = s := by
  unfold callE at he
  unfold callN callS
  split
  · rename_i c
    rw [if_pos c] at he
    exact ⟨by unfold nowT; rw [if_neg he], rfl⟩
  · rename_i c
    rw [if_neg c] at he
    split
    · rename_i c
      rw [if_pos c] at he
      exact ⟨rfl, by unfold freqS; rw [if_neg he]⟩
    · rename_i c
      rw [if_neg c] at he
      split
      · rename_i c
        rw [if_pos c] at he
        exact ⟨rfl, by unfold slewS; rw [if_neg he]⟩
      · rename_i c
        rw [if_neg c] at he
        split
        · rename_i c
          rw [if_pos c] at he
          exact ⟨rfl, by unfold stepS; rw [if_neg he]⟩
        · omega
end Pl
open Go.RowKit Go.Lib

theorem leftT_box {T : TypeId} {b : Nat} {n : Pl.CS} {w w' : World} {o : Obj} (h : LeftT T b n (w.alloc o) w') : LeftT T b n w w' := ⟨h.1, only_trans (only_alloc (only_refl _ _) _) h.2⟩
theorem leftT_same {T : TypeId} {b : Nat} {n : Pl.CS} {w w' : World} (h : Blk w b T (csA n)) (k : Below w.heap.size w w') : LeftT T b n w w' := ⟨h.below_ k, only_of_below k _⟩

set_option maxHeartbeats 1000000 in
theorem ccall_any (b : Nat) (s : Pl.CS) (k r x y : Int) (w : World) (hk : Blk w b 51 (csA s)) (h : s.ok = true) (hs : s.steps ≤ 9223372036854775807) :
    Calls Try.prog 17 #[.pointer (some ⟨b, 0, none⟩), .agg #[.int .i64 k, .int .i64 r, .int .i64 x, .int .i64 y]] w fun e w' => e = .returned (.tuple #[.int .i64 (Pl.callN s k r), .int .i64 (Pl.callE s k r x y)]) ∧ LeftT 51 b (Pl.callS s k r x y) w w' := by
  have K := opB_mk w k r x y
  obtain ⟨c0, c1, c2, c3⟩ := K.cells
  have cz := K.2.lt
  have kb := hk.alloc (.cells #[.int .i64 k, .int .i64 r, .int .i64 x, .int .i64 y] 38)
  unfold Pl.callN Pl.callE Pl.callS
  by_cases q0 : k = 0
  · rw [if_pos q0, if_pos q0, if_pos q0]
    have t0 : (k == 0) = true := by simp [q0]
    have F := Lib.hid (cnow_at h rfl rfl b _ kb (raw := r))
    have HK := Lib.hid kb
    clear q0 hk h K kb
    obtain ⟨A, hA⟩ : ∃ A, Pl.nowT s r = A := ⟨_, rfl⟩
    obtain ⟨B, hB⟩ : ∃ B, Pl.nowE s r = B := ⟨_, rfl⟩
    rw [hA, hB] at F ⊢
    clear hA hB
    go_enter Try.func17, Try.ntmps17
    go_wp2_with fail
    refine F.out.mono ?_
    rintro _ w1 ⟨rfl, l1⟩
    go_wp2
    refine bodyPost_ret (v := .tuple #[.int .i64 A, .int .i64 B]) (by simp [results, Try.results17, go_sem]) rfl ⟨rfl, leftT_box (leftT_same HK.out l1)⟩
  · rw [if_neg q0, if_neg q0, if_neg q0]
    have t0 : (k == 0) = false := by simp [q0]
    by_cases q1 : k = 1
    · rw [if_pos q1, if_pos q1, if_pos q1]
      have t1 : (k == 1) = true := by simp [q1]
      have F := Lib.hid (cfreq_at h (raw := r) (x := x) rfl rfl b _ kb)
      clear q0 q1 hk h hs K kb
      obtain ⟨B, hB⟩ : ∃ B, Pl.freqE s r x = B := ⟨_, rfl⟩
      rw [hB] at F ⊢
      clear hB
      go_enter Try.func17, Try.ntmps17
      go_wp2_with fail
      refine F.out.mono ?_
      rintro _ w1 ⟨rfl, l1⟩
      go_wp2
      refine bodyPost_ret (v := .tuple #[.int .i64 0, .int .i64 B]) (by simp [results, Try.results17, go_sem]) rfl ⟨rfl, leftT_box l1⟩
    · rw [if_neg q1, if_neg q1, if_neg q1]
      have t1 : (k == 1) = false := by simp [q1]
      by_cases q2 : k = 2
      · rw [if_pos q2, if_pos q2, if_pos q2]
        have t2 : (k == 2) = true := by simp [q2]
        have F := Lib.hid (cslew_at h (raw := r) (x := x) (y := y) rfl rfl b _ kb)
        clear q0 q1 q2 hk h hs K kb
        obtain ⟨B, hB⟩ : ∃ B, Pl.slewE s r x y = B := ⟨_, rfl⟩
        rw [hB] at F ⊢
        clear hB
        go_enter Try.func17, Try.ntmps17
        go_wp2_with fail
        refine F.out.mono ?_
        rintro _ w1 ⟨rfl, l1⟩
        go_wp2
        refine bodyPost_ret (v := .tuple #[.int .i64 0, .int .i64 B]) (by simp [results, Try.results17, go_sem]) rfl ⟨rfl, leftT_box l1⟩
      · rw [if_neg q2, if_neg q2, if_neg q2]
        have t2 : (k == 2) = false := by simp [q2]
        by_cases q3 : k = 3
        · rw [if_pos q3, if_pos q3, if_pos q3]
          have t3 : (k == 3) = true := by simp [q3]
          have F := Lib.hid (cstep_at h hs (raw := r) (x := x) rfl rfl b _ kb)
          clear q0 q1 q2 q3 hk h hs K kb
          obtain ⟨B, hB⟩ : ∃ B, Pl.stepE s r x = B := ⟨_, rfl⟩
          rw [hB] at F ⊢
          clear hB
          go_enter Try.func17, Try.ntmps17
          go_wp2_with fail
          refine F.out.mono ?_
          rintro _ w1 ⟨rfl, l1⟩
          go_wp2
          refine bodyPost_ret (v := .tuple #[.int .i64 0, .int .i64 B]) (by simp [results, Try.results17, go_sem]) rfl ⟨rfl, leftT_box l1⟩
        · rw [if_neg q3, if_neg q3, if_neg q3]
          have t3 : (k == 3) = false := by simp [q3]
          have F := Lib.hid (cpend_at h rfl b _ kb (raw := r))
          have HK := Lib.hid kb
          clear q0 q1 q2 q3 hk h hs K kb
          obtain ⟨A, hA⟩ : ∃ A, Pl.pend s r = A := ⟨_, rfl⟩
          rw [hA] at F ⊢
          clear hA
          go_enter Try.func17, Try.ntmps17
          go_wp2_with fail
          refine F.out.mono ?_
          rintro _ w1 ⟨rfl, l1⟩
          go_wp2
          refine bodyPost_ret (v := .tuple #[.int .i64 A, .int .i64 0]) (by simp [results, Try.results17, go_sem]) rfl ⟨rfl, leftT_box (leftT_same HK.out l1)⟩
end Go.Proofs.Ytcdholgafojjoaa
