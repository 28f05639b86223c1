/- Words that open a law's argument: a struct by value, of cells, one of which is a slice. -/
import Derived.Test.YtkdanfhgnpgmmaaOpenInts
namespace Go.Proofs.Ytkdanfhgnpgmmaa
open Go.RowKit Go.ChangeShapes Go.WideShapes Go.ChangeAt Go.Deep

section
variable {H : Type} {enc : TypeId × Value → H} {P : Program} {w : World} {base : Nat} {spare : Nat → Bool} {held : Bool}
/-- A struct by value whose fields are one cell each: every cell by itself. -/
theorem open_cells {r : Reach} {b0 : Nat} {t : TypeId} {fs : Array Field} {v : Value} {d : DataW H} {p : List MemPlace} (hs : P.underlying t = some (.struct fs)) (hone : oneCellFields P fs = true) (hC : P.cellsOf t = fs.size)
    (hv : Value.okWide P w r b0 t v) (h : DataW.Trod enc P w base spare held t v d p) :
    ∃ l : List Value, l.length = fs.size ∧ v = .agg l.toArray ∧ ∀ (j : Nat) (f : Field), fs[j]? = some f → ∃ (c : Value) (n : Nat) (y : DataW H × List MemPlace), l[j]? = some c ∧ DataW.trod enc P w base spare held n f.type [c] = some y := by
  obtain ⟨cs, rfl, hsz⟩ := okWide_struct hs hv
  obtain ⟨fuel, hf⟩ := h
  obtain ⟨ys, n', _, _, _, hyl, hg⟩ := DataW.trod_struct hs hf
  refine ⟨cs.toList, by simp; omega, by simp, fun j f hfj => ?_⟩
  have hj : j < fs.size := (Array.getElem?_eq_some_iff.1 hfj).1
  obtain ⟨ho, hk⟩ := hone_of hone j _ hfj
  have h1 := hg j _ hfj
  rw [ho, hk] at h1
  have hl : j < cs.toList.length := by simp; omega
  have hone' : ((Value.agg cs).cells.toList.drop j).take 1 = [cs.toList[j]] := by
    show (cs.toList.drop j).take 1 = _
    rw [List.drop_eq_getElem_cons hl]
    rfl
  rw [hone'] at h1
  have hys : ys[j]? = some (ys[j]'(by omega)) := List.getElem?_eq_getElem (by omega)
  exact ⟨_, n', _, List.getElem?_eq_getElem hl, h1.trans hys⟩
/-- a cell that is an int -/
theorem cell_int {t : TypeId} {c : Value} {n : Nat} {y : DataW H × List MemPlace} (hu : P.underlying t = some (.int .i64)) (h : DataW.trod enc P w base spare held n t [c] = some y) : ∃ a : Int, c = .int .i64 a ∧ (Lit.int .i64 a).wf = true := by
  obtain ⟨a, ha, _, hw⟩ := DataW.trod_int hu h
  injection ha with ha
  exact ⟨a, ha, hw⟩
/-- a cell that is a slice of ints -/
theorem cell_ints {t e : TypeId} {c : Value} {n : Nat} {y : DataW H × List MemPlace} (ht : P.underlying t = some (.slice e)) (he : P.underlying e = some (.int .i64)) (hC : P.cellsOf e = 1) (hf : DataW.trod enc P w base (fun _ => true) held n t [c] = some y) :
    ∃ (a : Option Addr) (len cap : Nat) (z : Nat → Int), c = .slice a len cap ∧ len ≤ cap ∧ cap ≤ maxLen ∧ Ints w a len z := by
  rcases open_slice ht hf with ⟨hcs, _⟩ | ⟨x, len, cap, m, n, D, Pl, hcs, hb, hl, hm, hmm, hx, hi⟩
  · injection hcs with hcs
    exact ⟨none, 0, 0, fun _ => 0, hcs, Nat.le_refl _, Nat.zero_le _, fun i hi => absurd hi (by omega)⟩
  · injection hcs with hcs
    have hmc : m = cap := by simpa using hmm
    have key : ∀ i, i < len → ∃ n, w.cell? (x.add i) = some (Value.int .i64 n) ∧ (Lit.int .i64 n).wf = true := by
      intro i hil
      obtain ⟨cs', hc, ht'⟩ := hi i (by omega)
      rw [hC, Nat.mul_one] at hc
      obtain ⟨_, hcl, hat⟩ := World.cells?_some hc
      have hcell := hat 0 (by omega)
      obtain ⟨c, rfl⟩ : ∃ c, cs' = [c] := by
        match cs', hcl with
        | [c], _ => exact ⟨c, rfl⟩
      obtain ⟨n, hn, _, hw⟩ := DataW.trod_int he ht'
      refine ⟨n, ?_, hw⟩
      injection hn with hn
      rw [Go.Deep.add_add] at hcell
      rw [← hn]
      simpa using hcell
    refine ⟨some x, len, cap, fun i => (match w.cell? (x.add i) with | some (.int _ n) => n | _ => 0), hcs, hl, hm, fun i hil => ⟨x, rfl, ?_, ?_⟩⟩
    · obtain ⟨n, hn, _⟩ := key i hil
      have := World.block_lt_of_cell? w _ hn
      rwa [add_block] at this
    · obtain ⟨n, hn, hw⟩ := key i hil
      simp only [hn]
      exact ⟨trivial, hw⟩
/-- a list of rows of two ints in memory -/
def Pairs (w : World) (a : Option Addr) (n : Nat) (z : Nat → Nat → Int) : Prop :=
  ∀ i, i < n → ∃ x, a = some x ∧ x.block < w.heap.size ∧ ∀ j, j < 2 → w.cell? (x.add (i * 2 + j)) = some (.int .i64 (z i j)) ∧ (Lit.int .i64 (z i j)).wf = true
/-- a cell that is a slice of structs of two ints -/
theorem cell_pairs {t e : TypeId} {fs : Array Field} {c : Value} {n : Nat} {y : DataW H × List MemPlace} (ht : P.underlying t = some (.slice e)) (he : P.underlying e = some (.struct fs)) (hone : oneCellFields P fs = true) (hC : P.cellsOf e = fs.size) (h2 : fs.size = 2)
    (hint : ∀ (j : Nat) (f : Field), fs[j]? = some f → P.underlying f.type = some (.int .i64)) (hf : DataW.trod enc P w base (fun _ => true) held n t [c] = some y) :
    ∃ (a : Option Addr) (len cap : Nat) (z : Nat → Nat → Int), c = .slice a len cap ∧ len ≤ cap ∧ cap ≤ maxLen ∧ Pairs w a len z := by
  rcases open_slice ht hf with ⟨hcs, _⟩ | ⟨x, len, cap, m, n, D, Pl, hcs, hb, hl, hm, hmm, hx, hi⟩
  · injection hcs with hcs
    exact ⟨none, 0, 0, fun _ _ => 0, hcs, Nat.le_refl _, Nat.zero_le _, fun i hi => absurd hi (by omega)⟩
  · injection hcs with hcs
    have hmc : m = cap := by simpa using hmm
    have key : ∀ i j, i < len → j < 2 → ∃ n, w.cell? (x.add (i * 2 + j)) = some (Value.int .i64 n) ∧ (Lit.int .i64 n).wf = true := by
      intro i j hil hj
      obtain ⟨cs', hc, ht'⟩ := hi i (by omega)
      rw [hC] at hc
      obtain ⟨ys, n', hn', hy, hlen, hyl, hg⟩ := DataW.trod_struct he ht'
      obtain ⟨_, hcl, hat⟩ := World.cells?_some hc
      have hj' : j < fs.size := by omega
      have hfj : fs[j]? = some fs[j] := Array.getElem?_eq_getElem hj'
      obtain ⟨ho, hk⟩ := hone_of hone j _ hfj
      have hcell := hat j hj'
      have h1 := hg j _ hfj
      rw [ho, hk] at h1
      have hone' : (cs'.drop j).take 1 = [cs'[j]'(by omega)] := by
        rw [List.drop_eq_getElem_cons (by omega)]
        rfl
      rw [hone'] at h1
      have hys : ys[j]? = some (ys[j]'(by omega)) := List.getElem?_eq_getElem (by omega)
      obtain ⟨n, hn, _, hw⟩ := DataW.trod_int (hint j _ hfj) (h1.trans hys)
      refine ⟨n, ?_, hw⟩
      rw [h2] at hcell
      rw [← Go.Deep.add_add, hcell, List.getElem?_eq_getElem (by omega)]
      injection hn with hn
      rw [hn]
    refine ⟨some x, len, cap, fun i j => (match w.cell? (x.add (i * 2 + j)) with | some (.int _ n) => n | _ => 0), hcs, hl, hm, fun i hil => ⟨x, rfl, ?_, fun j hj => ?_⟩⟩
    · obtain ⟨n, hn, _⟩ := key i 0 hil (by omega)
      have := World.block_lt_of_cell? w _ hn
      rwa [add_block] at this
    · obtain ⟨n, hn, hw⟩ := key i j hil hj
      simp only [hn]
      exact ⟨trivial, hw⟩
end
theorem pairs_at {w wr : World} {a : Option Addr} {n k : Nat} {z : Nat → Nat → Int} (hz : Pairs w a n z) (hb : Below w.heap.size w wr) (hk : k < n) :
    ∃ bx ox, a = some ⟨bx, ox, none⟩ ∧ bx < w.heap.size ∧ bx < wr.heap.size ∧ wr.cell? ⟨bx, ox + k * 2, none⟩ = some (.int .i64 (z k 0)) ∧ wr.cell? ⟨bx, ox + k * 2 + 1, none⟩ = some (.int .i64 (z k 1)) := by
  obtain ⟨x, hx, hxb, hcl⟩ := hz k hk
  obtain ⟨bx, ox, sp⟩ := x
  have hsp : sp = none := by
    obtain ⟨x0, hx0, _, h0⟩ := hz 0 (by omega)
    rw [hx] at hx0
    cases hx0
    have := World.cell?_spot (h0 0 (by omega)).1
    simpa [Addr.add] using this
  subst hsp
  simp only [add_none'] at hcl
  have e := fun j hj => (hb.cell (p := ⟨bx, ox + (k * 2 + j), none⟩) hxb).trans (hcl j hj).1
  exact ⟨bx, ox, hx, hxb, Nat.lt_of_lt_of_le hxb hb.size, e 0 (by omega), e 1 (by omega)⟩
end Go.Proofs.Ytkdanfhgnpgmmaa
