/- Words that open a law's slice of integers of one kind. -/
import Derived.Test.YtmdfbcabpmadgaaOpenInts
namespace Go.Proofs.Ytmdfbcabpmadgaa
open Go.RowKit Go.ChangeShapes Go.WideShapes Go.ChangeAt Go.Deep
/-- a list of integers of kind k in memory -/
def IntsK (k : IntKind) (w : World) (a : Option Addr) (n : Nat) (z : Nat → Int) : Prop :=
  ∀ i, i < n → ∃ x, a = some x ∧ x.block < w.heap.size ∧ w.cell? (x.add i) = some (.int k (z i)) ∧ (Lit.int k (z i)).wf = true
section
variable {H : Type} {enc : TypeId × Value → H} {P : Program} {w : World} {base : Nat} {spare : Nat → Bool} {held : Bool}
theorem open_slice_k {k : IntKind} {r : Reach} {b0 : Nat} {t e : TypeId} {v : Value} {d : DataW H} {p : List MemPlace} (ht : P.underlying t = some (.slice e)) (he : P.underlying e = some (.int k)) (hC : P.cellsOf e = 1)
    (hv : Value.okWide P w r b0 t v) (h : DataW.Trod enc P w base (fun _ => true) held t v d p) :
    ∃ (a : Option Addr) (len cap : Nat) (z : Nat → Int), v = .slice a len cap ∧ len ≤ cap ∧ cap ≤ maxLen ∧ IntsK k w a len z := by
  obtain ⟨a, len, cap, rfl⟩ := okWide_slice ht hv
  obtain ⟨fuel, hf⟩ := h
  rcases open_slice ht hf with ⟨hcs, _⟩ | ⟨x, len', cap', m, n, D, Pl, hcs, hb, hl, hm, hmm, hx, hi⟩
  · simp [Value.cells] at hcs
    obtain ⟨rfl, rfl, rfl⟩ := hcs
    exact ⟨none, 0, 0, fun _ => 0, rfl, Nat.le_refl _, Nat.zero_le _, fun i hi => absurd hi (by omega)⟩
  · simp [Value.cells] at hcs
    obtain ⟨rfl, rfl, rfl⟩ := hcs
    have hmc : m = cap := by simpa using hmm
    have key : ∀ i, i < len → ∃ n, w.cell? (x.add i) = some (Value.int k n) ∧ (Lit.int k n).wf = true := by
      intro i hil
      obtain ⟨cs', hc, ht'⟩ := hi i (by omega)
      rw [hC, Nat.mul_one] at hc
      obtain ⟨_, hcl, hat⟩ := World.cells?_some hc
      have hcell := hat 0 (by omega)
      obtain ⟨c, rfl⟩ : ∃ c, cs' = [c] := by
        match cs', hcl with
        | [c], _ => exact ⟨c, rfl⟩
      obtain ⟨n, hn, _, hw⟩ := DataW.trod_int he ht'
      refine ⟨n, ?_, hw⟩
      injection hn with hn
      rw [Go.Deep.add_add] at hcell
      rw [← hn]
      simpa using hcell
    refine ⟨some x, len, cap, fun i => (match w.cell? (x.add i) with | some (.int _ n) => n | _ => 0), rfl, hl, hm, fun i hil => ⟨x, rfl, ?_, ?_⟩⟩
    · obtain ⟨n, hn, _⟩ := key i hil
      have := World.block_lt_of_cell? w _ hn
      rwa [add_block] at this
    · obtain ⟨n, hn, hw⟩ := key i hil
      simp only [hn]
      exact ⟨trivial, hw⟩
end
theorem intsK_at {k : IntKind} {w wr : World} {a : Option Addr} {n j : Nat} {z : Nat → Int} (hz : IntsK k w a n z) (hb : Below w.heap.size w wr) (hk : j < n) :
    ∃ bx ox, a = some ⟨bx, ox, none⟩ ∧ bx < w.heap.size ∧ bx < wr.heap.size ∧ wr.cell? ⟨bx, ox + j, none⟩ = some (.int k (z j)) := by
  obtain ⟨x, hx, hxb, hcl⟩ := hz j hk
  obtain ⟨bx, ox, sp⟩ := x
  have hsp : sp = none := by
    obtain ⟨x0, hx0, _, h0⟩ := hz 0 (by omega)
    rw [hx] at hx0
    cases hx0
    have := World.cell?_spot h0.1
    simpa [Addr.add] using this
  subst hsp
  simp only [add_none'] at hcl
  have e := (hb.cell (p := ⟨bx, ox + j, none⟩) hxb).trans hcl.1
  exact ⟨bx, ox, hx, hxb, Nat.lt_of_lt_of_le hxb hb.size, e⟩
theorem wfu32 {n : Int} (h : (Lit.int .u32 n).wf = true) : 0 ≤ n ∧ n ≤ 4294967295 := by
  have hmin : IntKind.u32.min = 0 := rfl
  have hmax : IntKind.u32.max = 4294967295 := rfl
  simp only [Lit.wf, Bool.and_eq_true, decide_eq_true_eq] at h
  omega
end Go.Proofs.Ytmdfbcabpmadgaa
