/- Rows of four integers of one kind in memory. -/
import Derived.Test.YtmdfbcabpmadgaaOpenK
import Derived.Test.YtmdfbcabpmadgaaOpenFlat
namespace Go.Proofs.Ytmdfbcabpmadgaa
open Go.RowKit Go.ChangeShapes Go.WideShapes Go.ChangeAt Go.Deep
/-- a list of rows of four integers of kind k in memory -/
def FoursK (k : IntKind) (w : World) (a : Option Addr) (n : Nat) (z : Nat → Nat → Int) : Prop :=
  ∀ i, i < n → ∃ x, a = some x ∧ x.block < w.heap.size ∧ ∀ j, j < 4 → w.cell? (x.add (i * 4 + j)) = some (.int k (z i j)) ∧ (Lit.int k (z i j)).wf = true
theorem foursK_at {k : IntKind} {w wr : World} {a : Option Addr} {n i : Nat} {z : Nat → Nat → Int} (hz : FoursK k w a n z) (hb : Below w.heap.size w wr) (hk : i < n) :
    ∃ bx ox, a = some ⟨bx, ox, none⟩ ∧ bx < w.heap.size ∧ bx < wr.heap.size ∧ wr.cell? ⟨bx, ox + i * 4, none⟩ = some (.int k (z i 0)) ∧ wr.cell? ⟨bx, ox + i * 4 + 1, none⟩ = some (.int k (z i 1)) ∧ wr.cell? ⟨bx, ox + i * 4 + 2, none⟩ = some (.int k (z i 2)) ∧ wr.cell? ⟨bx, ox + i * 4 + 3, none⟩ = some (.int k (z i 3)) := by
  obtain ⟨x, hx, hxb, hcl⟩ := hz i hk
  obtain ⟨bx, ox, sp⟩ := x
  have hsp : sp = none := by
    obtain ⟨x0, hx0, _, h0⟩ := hz 0 (by omega)
    rw [hx] at hx0
    cases hx0
    have := World.cell?_spot (h0 0 (by omega)).1
    simpa [Addr.add] using this
  subst hsp
  simp only [add_none'] at hcl
  have e := fun j hj => (hb.cell (p := ⟨bx, ox + (i * 4 + j), none⟩) hxb).trans (hcl j hj).1
  exact ⟨bx, ox, hx, hxb, Nat.lt_of_lt_of_le hxb hb.size, e 0 (by omega), e 1 (by omega), e 2 (by omega), e 3 (by omega)⟩
/-- A slice of structs of four integers of one kind. -/
theorem open_slice_fours {H : Type} {enc : TypeId × Value → H} {P : Program} {w : World} {base : Nat} {held : Bool} {k : IntKind} {r : Reach} {b0 : Nat} {t e : TypeId} {v : Value} {d : DataW H} {p : List MemPlace} (ht : P.underlying t = some (.slice e)) (hf : flatT P 8 e = some [k, k, k, k]) (hC : P.cellsOf e = 4)
    (hv : Value.okWide P w r b0 t v) (h : DataW.Trod enc P w base (fun _ => true) held t v d p) :
    ∃ (a : Option Addr) (len cap : Nat) (z : Nat → Nat → Int), v = .slice a len cap ∧ len ≤ cap ∧ cap ≤ maxLen ∧ FoursK k w a len z := by
  obtain ⟨a, len, cap, z, h1, h2, h3, h4⟩ := open_flat_slice ht hf hC hv h (by simp)
  refine ⟨a, len, cap, z, h1, h2, h3, fun i hi => ?_⟩
  obtain ⟨x, hx, hb, hc⟩ := h4 i hi
  refine ⟨x, hx, hb, fun j hj => ?_⟩
  have := hc j (by simpa using hj)
  have e : [k, k, k, k].getD j .i64 = k := by rcases (by omega : j = 0 ∨ j = 1 ∨ j = 2 ∨ j = 3) with rfl | rfl | rfl | rfl <;> rfl
  rw [e] at this
  simpa using this
end Go.Proofs.Ytmdfbcabpmadgaa
