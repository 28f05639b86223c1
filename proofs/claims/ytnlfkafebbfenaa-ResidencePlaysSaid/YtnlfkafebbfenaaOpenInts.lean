/- Words that open a law's slice of ints. -/
import Derived.Test.YtnlfkafebbfenaaOpen
namespace Go.Proofs.Ytnlfkafebbfenaa
open Go.RowKit Go.ChangeShapes Go.WideShapes Go.ChangeAt Go.Deep

section
variable {H : Type} {enc : TypeId × Value → H} {P : Program} {w : World} {base : Nat} {spare : Nat → Bool} {held : Bool}
theorem open_slice_ints {r : Reach} {b0 : Nat} {t e : TypeId} {v : Value} {d : DataW H} {p : List MemPlace} (ht : P.underlying t = some (.slice e)) (he : P.underlying e = some (.int .i64)) (hC : P.cellsOf e = 1)
    (hv : Value.okWide P w r b0 t v) (h : DataW.Trod enc P w base (fun _ => true) held t v d p) :
    ∃ (a : Option Addr) (len cap : Nat) (z : Nat → Int), v = .slice a len cap ∧ len ≤ cap ∧ cap ≤ maxLen ∧ ∀ i, i < len → ∃ x, a = some x ∧ x.block < w.heap.size ∧ w.cell? (x.add i) = some (.int .i64 (z i)) ∧ (Lit.int .i64 (z i)).wf = true := by
  obtain ⟨a, len, cap, rfl⟩ := okWide_slice ht hv
  obtain ⟨fuel, hf⟩ := h
  rcases open_slice ht hf with ⟨hcs, _⟩ | ⟨x, len', cap', m, n, D, Pl, hcs, hb, hl, hm, hmm, hx, hi⟩
  · simp [Value.cells] at hcs
    obtain ⟨rfl, rfl, rfl⟩ := hcs
    exact ⟨none, 0, 0, fun _ => 0, rfl, Nat.le_refl _, Nat.zero_le _, fun i hi => absurd hi (by omega)⟩
  · simp [Value.cells] at hcs
    obtain ⟨rfl, rfl, rfl⟩ := hcs
    have hmc : m = cap := by simpa using hmm
    have key : ∀ i, i < len → ∃ n, w.cell? (x.add i) = some (Value.int .i64 n) ∧ (Lit.int .i64 n).wf = true := by
      intro i hil
      obtain ⟨cs', hc, ht'⟩ := hi i (by omega)
      rw [hC, Nat.mul_one] at hc
      obtain ⟨_, hcl, hat⟩ := World.cells?_some hc
      have hcell := hat 0 (by omega)
      obtain ⟨c, rfl⟩ : ∃ c, cs' = [c] := by
        match cs', hcl with
        | [c], _ => exact ⟨c, rfl⟩
      obtain ⟨n, hn, _, hw⟩ := DataW.trod_int he ht'
      refine ⟨n, ?_, hw⟩
      injection hn with hn
      rw [Go.Deep.add_add] at hcell
      rw [← hn]
      simpa using hcell
    refine ⟨some x, len, cap, fun i => (match w.cell? (x.add i) with | some (.int _ n) => n | _ => 0), rfl, hl, hm, fun i hil => ⟨x, rfl, ?_, ?_⟩⟩
    · obtain ⟨n, hn, _⟩ := key i hil
      have := World.block_lt_of_cell? w _ hn
      rwa [add_block] at this
    · obtain ⟨n, hn, hw⟩ := key i hil
      simp only [hn]
      exact ⟨trivial, hw⟩
end

/-- a list of ints in memory -/
def Ints (w : World) (a : Option Addr) (n : Nat) (z : Nat → Int) : Prop :=
  ∀ i, i < n → ∃ x, a = some x ∧ x.block < w.heap.size ∧ w.cell? (x.add i) = some (.int .i64 (z i)) ∧ (Lit.int .i64 (z i)).wf = true
theorem add_none' (b o m : Nat) : (⟨b, o, none⟩ : Addr).add m = ⟨b, o + m, none⟩ := by
  unfold Addr.add
  split
  · next h => subst h; rfl
  · rfl
theorem ints_at {w wr : World} {a : Option Addr} {n k : Nat} {z : Nat → Int} (hz : Ints w a n z) (hb : Below w.heap.size w wr) (hk : k < n) :
    ∃ bx ox, a = some ⟨bx, ox, none⟩ ∧ bx < w.heap.size ∧ bx < wr.heap.size ∧ wr.cell? ⟨bx, ox + k, none⟩ = some (.int .i64 (z k)) := by
  obtain ⟨x, hx, hxb, hcl⟩ := hz k hk
  obtain ⟨bx, ox, sp⟩ := x
  have hsp : sp = none := by
    obtain ⟨x0, hx0, _, h0⟩ := hz 0 (by omega)
    rw [hx] at hx0
    cases hx0
    have := World.cell?_spot h0.1
    simpa [Addr.add] using this
  subst hsp
  simp only [add_none'] at hcl
  have e := (hb.cell (p := ⟨bx, ox + k, none⟩) hxb).trans hcl.1
  exact ⟨bx, ox, hx, hxb, Nat.lt_of_lt_of_le hxb hb.size, e⟩
/-- a list of rows of four ints in memory -/
def Fours (w : World) (a : Option Addr) (n : Nat) (z : Nat → Nat → Int) : Prop :=
  ∀ i, i < n → ∃ x, a = some x ∧ x.block < w.heap.size ∧ ∀ j, j < 4 → w.cell? (x.add (i * 4 + j)) = some (.int .i64 (z i j)) ∧ (Lit.int .i64 (z i j)).wf = true
theorem fours_at {w wr : World} {a : Option Addr} {n k : Nat} {z : Nat → Nat → Int} (hz : Fours w a n z) (hb : Below w.heap.size w wr) (hk : k < n) :
    ∃ bx ox, a = some ⟨bx, ox, none⟩ ∧ bx < w.heap.size ∧ bx < wr.heap.size ∧ wr.cell? ⟨bx, ox + k * 4, none⟩ = some (.int .i64 (z k 0)) ∧ wr.cell? ⟨bx, ox + k * 4 + 1, none⟩ = some (.int .i64 (z k 1)) ∧ wr.cell? ⟨bx, ox + k * 4 + 2, none⟩ = some (.int .i64 (z k 2)) ∧ wr.cell? ⟨bx, ox + k * 4 + 3, none⟩ = some (.int .i64 (z k 3)) := by
  obtain ⟨x, hx, hxb, hcl⟩ := hz k hk
  obtain ⟨bx, ox, sp⟩ := x
  have hsp : sp = none := by
    obtain ⟨x0, hx0, _, h0⟩ := hz 0 (by omega)
    rw [hx] at hx0
    cases hx0
    have := World.cell?_spot (h0 0 (by omega)).1
    simpa [Addr.add] using this
  subst hsp
  simp only [add_none'] at hcl
  have e := fun j hj => (hb.cell (p := ⟨bx, ox + (k * 4 + j), none⟩) hxb).trans (hcl j hj).1
  exact ⟨bx, ox, hx, hxb, Nat.lt_of_lt_of_le hxb hb.size, e 0 (by omega), e 1 (by omega), e 2 (by omega), e 3 (by omega)⟩
end Go.Proofs.Ytnlfkafebbfenaa
