/- Deeds: the contracts of first and does, and what a list of deeds leaves of a servo. -/
import Derived.Test.YtaaocdgbflifhaaServoAwake
import Derived.Test.YtaaocdgbflifhaaOpen
namespace Go.Proofs.Ytaaocdgbflifhaa
open Go.RowKit Go.Lib

/-- what a deed does to a servo -/
def doesS (c : Pl.Conf) (s : Pl.St) (k o p : Int) : Pl.St := if k = 0 then Pl.stepS c s o p else if k = 1 then ⟨0, 0, s.f⟩ else s

theorem stepS_n (c : Pl.Conf) (s : Pl.St) (o p : Int) : (Pl.stepS c s o p).n ≤ s.n + 1 ∧ s.n ≤ (Pl.stepS c s o p).n := by
  unfold Pl.stepS
  split
  · split
    · exact ⟨Int.le_refl _, by show s.n ≤ s.n + 1; omega⟩
    · exact ⟨Int.le_refl _, by show s.n ≤ s.n + 1; omega⟩
  · exact ⟨by omega, Int.le_refl _⟩

theorem inv_does {c : Pl.Conf} {s : Pl.St} (hc : c.ok = true) (h : Pl.Inv c s) (k o p : Int) : Pl.Inv c (doesS c s k o p) := by
  unfold doesS
  split
  · exact Pl.inv_step hc h o p
  · split
    · have hl := (Pl.Conf.ok_iff.1 hc).2.2.1
      exact ⟨by show -c.lim ≤ 0; omega, by show 0 ≤ c.lim; omega, h.2.2.1, h.2.2.2.1, by show (0 : Int) ≤ 0; omega⟩
    · exact h
theorem does_n {c : Pl.Conf} {s : Pl.St} (h : Pl.Inv c s) (k o p : Int) : (doesS c s k o p).n ≤ s.n + 1 := by
  have h5 := h.2.2.2.2
  unfold doesS
  split
  · exact (stepS_n c s o p).1
  · split
    · show (0 : Int) ≤ s.n + 1; omega
    · omega

theorem first_any (a : Option Addr) (len cap : Nat) (hl : len ≤ cap) (hc : cap ≤ maxLen) (w : World) :
    Calls Try.prog 17 #[.slice a len cap] w fun e w' => e = .returned (.slice a ((min len 200 : Nat)) cap) ∧ w = w' := by
  have hc' : cap ≤ 9223372036854775807 := by simpa [maxLen] using hc
  go_enter Try.func17, Try.ntmps17
  go_wp2
  go_ret
  have e : (min (len : Int) 200).toNat = min len 200 := by omega
  refine ⟨?_, rfl⟩
  simp only [e]
  rfl

theorem does_any (b : Nat) (c : Pl.Conf) (s : Pl.St) (k o p : Int) (w : World) (h : Blk w b 56 (sv c s)) (hc : c.ok = true) (hi : Pl.Inv c s) (hn' : s.n ≤ 1000000) :
    Calls Try.prog 18 #[.pointer (some ⟨b, 0, none⟩), .agg #[.int .i64 k, .int .i64 o, .int .i64 p]] w fun e w' => e = .returned (.tuple #[]) ∧ Left 56 b c (doesS c s k o p) w w' := by
  have HA := Lib.hid (And.intro h (And.intro hc (And.intro hi hn')))
  have HC := Lib.hid (fun W (k : Blk W b 56 (sv c s)) => ssample_any b c s o p W k hc hi hn')
  unfold doesS
  obtain ⟨R, hR⟩ : ∃ R, Pl.stepR c s o p = R := ⟨_, rfl⟩
  obtain ⟨S, hS⟩ : ∃ S, Pl.stepS c s o p = S := ⟨_, rfl⟩
  rw [hR, hS] at HC
  rw [hS]
  clear hR hS h hc hi hn'
  by_cases h0 : k = 0
  · rw [if_pos h0]
    have t0 : (k == 0) = true := by simp [h0]
    have t1 : (k == 1) = false := by simp; omega
    clear h0
    go_enter Try.func18, Try.ntmps18
    go_wp2_with fail
    refine (HC.out _ (HA.out.1.alloc _)).mono ?_
    rintro e w1 ⟨rfl, hs⟩
    obtain ⟨hbx, hz⟩ := left_box hs HA.out.1.lt
    have c0 : w1.cell? ⟨w.heap.size, 0, none⟩ = some (.int .i64 k) := hbx.cell 0
    have HL := Lib.hid hs
    clear hs hbx
    go_wp2
    go_end0
    exact ⟨rfl, HL.out.1, only_trans (only_alloc (only_refl _ _) _) HL.out.2⟩
  · rw [if_neg h0]
    have t0 : (k == 0) = false := by simp; omega
    by_cases h1 : k = 1
    · rw [if_pos h1]
      have t1 : (k == 1) = true := by simp [h1]
      clear h0 h1
      go_enter Try.func18, Try.ntmps18
      go_wp2_with fail
      refine (sreset_any b c s _ (HA.out.1.alloc _)).mono ?_
      rintro e w1 ⟨rfl, hs⟩
      have HL := Lib.hid hs
      clear hs
      go_wp2
      go_end0
      exact ⟨rfl, HL.out.1, only_trans (only_alloc (only_refl _ _) _) HL.out.2⟩
    · rw [if_neg h1]
      have t1 : (k == 1) = false := by simp; omega
      clear h0 h1
      go_enter Try.func18, Try.ntmps18
      go_wp2
      go_end0
      exact ⟨rfl, left_no HA.out.1 _⟩
/-- a list of deeds in memory, one row of three ints a deed -/
def Deeds (w : World) (a : Option Addr) (n : Nat) (z : Nat → Nat → Int) : Prop :=
  ∀ i, i < n → ∃ x, a = some x ∧ x.block < w.heap.size ∧ ∀ j, j < 3 → w.cell? (x.add (i * 3 + j)) = some (.int .i64 (z i j)) ∧ (Lit.int .i64 (z i j)).wf = true

theorem add_none (b o m : Nat) : (⟨b, o, none⟩ : Addr).add m = ⟨b, o + m, none⟩ := by
  unfold Addr.add
  split
  · next h => subst h; rfl
  · rfl
theorem deeds_at {w wr : World} {a : Option Addr} {n k : Nat} {z : Nat → Nat → Int} (hz : Deeds w a n z) (hb : Below w.heap.size w wr) (hk : k < n) :
    ∃ bx ox, a = some ⟨bx, ox, none⟩ ∧ bx < w.heap.size ∧ bx < wr.heap.size ∧ wr.cell? ⟨bx, ox + k * 3, none⟩ = some (.int .i64 (z k 0)) ∧ wr.cell? ⟨bx, ox + k * 3 + 1, none⟩ = some (.int .i64 (z k 1)) ∧ wr.cell? ⟨bx, ox + k * 3 + 2, none⟩ = some (.int .i64 (z k 2)) := by
  obtain ⟨x, hx, hxb, hcl⟩ := hz k hk
  obtain ⟨bx, ox, sp⟩ := x
  have hsp : sp = none := by
    obtain ⟨x0, hx0, _, h0⟩ := hz 0 (by omega)
    rw [hx] at hx0
    cases hx0
    have := World.cell?_spot (h0 0 (by omega)).1
    simpa [Addr.add] using this
  subst hsp
  simp only [add_none] at hcl
  have e := fun j hj => (hb.cell (p := ⟨bx, ox + (k * 3 + j), none⟩) hxb).trans (hcl j hj).1
  exact ⟨bx, ox, hx, hxb, Nat.lt_of_lt_of_le hxb hb.size, e 0 (by omega), e 1 (by omega), e 2 (by omega)⟩

#print axioms does_any
#print axioms first_any
end Go.Proofs.Ytaaocdgbflifhaa
