/- Opens a slice of deeds of layer 40. -/
import Derived.Test.YtnlfkafebbfenaaRes1
import Derived.Test.YtnlfkafebbfenaaOpenFlat
import Derived.Deep.MidRow
namespace Go.Proofs.Ytnlfkafebbfenaa
open Go.RowKit Go.ChangeShapes Go.WideShapes Go.ChangeAt Go.Deep
/-- a deed -/
structure DP where
  k : Int
  s : Int
  m : Pl.PM
abbrev dpA (o : DP) : Array Value := #[.int .i64 o.k, .int .i64 o.s, .int .i64 o.m.k, .int .i64 o.m.d, .int .i64 o.m.fl, .int .i64 o.m.co, .int .u64 o.m.ck, .int .i64 o.m.po, .int .i64 o.m.sq, .int .i64 o.m.lg, .int .i64 o.m.se, .int .i64 o.m.na, .int .u64 o.m.rc, .int .i64 o.m.rp, .int .i64 o.m.ut, .int .i64 o.m.p1, .int .i64 o.m.cl, .int .i64 o.m.ac, .int .i64 o.m.va, .int .i64 o.m.p2, .int .u64 o.m.gm, .int .i64 o.m.st, .int .i64 o.m.so]
def dpOf (z : Nat → Int) : DP := ⟨z 0, z 1, ⟨z 2, z 3, z 4, z 5, z 6, z 7, z 8, z 9, z 10, z 11, z 12, z 13, z 14, z 15, z 16, z 17, z 18, z 19, z 20, z 21, z 22⟩⟩
def ksDp : List IntKind := [.i64, .i64, .i64, .i64, .i64, .i64, .u64, .i64, .i64, .i64, .i64, .i64, .u64, .i64, .i64, .i64, .i64, .i64, .i64, .i64, .u64, .i64, .i64]
structure DpWf (o : DP) : Prop where
  m : PmWf o.m
theorem dpA_at (z : Nat → Int) (j : Nat) (v : Value) (h : (dpA (dpOf z)).toList[j]? = some v) : j < 23 ∧ v = .int (ksDp.getD j .i64) (z j) := by
  have e : (dpA (dpOf z)).toList = (List.range 23).map (fun j => Value.int (ksDp.getD j .i64) (z j)) := by kernel_rfl
  have hj : j < 23 := (List.getElem?_eq_some_iff.1 h).1
  rw [e, List.getElem?_map, List.getElem?_range hj] at h
  injection h with h
  exact ⟨hj, h.symm⟩
/-- a list of deeds in memory -/
def DeedsIn (w : World) (a : Option Addr) (n : Nat) (z : Nat → DP) : Prop :=
  ∀ i, i < n → ∃ x, a = some x ∧ x.block < w.heap.size ∧ (∀ j v, (dpA (z i)).toList[j]? = some v → w.cell? (x.add (i * 23 + j)) = some v) ∧ DpWf (z i)
theorem deeds_at {w wr : World} {a : Option Addr} {n i : Nat} {z : Nat → DP} (hz : DeedsIn w a n z) (hb : Below w.heap.size w wr) (hk : i < n) :
    ∃ bx ox, a = some ⟨bx, ox, none⟩ ∧ bx < w.heap.size ∧ bx < wr.heap.size ∧ wr.rangeAt bx (ox + i * 23) (dpA (z i)).toList ∧ DpWf (z i) := by
  obtain ⟨x, hx, hxb, hcl, hw⟩ := hz i hk
  obtain ⟨bx, ox, sp⟩ := x
  have hsp : sp = none := by
    obtain ⟨x0, hx0, _, h0, _⟩ := hz 0 (by omega)
    rw [hx] at hx0
    cases hx0
    have := World.cell?_spot (h0 0 _ rfl)
    simpa [Addr.add] using this
  subst hsp
  refine ⟨bx, ox, hx, hxb, Nat.lt_of_lt_of_le hxb hb.size, fun j v hv => ?_, hw⟩
  have := hcl j v hv
  rw [add_none'] at this
  rw [show ox + i * 23 + j = ox + (i * 23 + j) by omega]
  exact (hb.cell (p := ⟨bx, ox + (i * 23 + j), none⟩) hxb).trans this
theorem ks_dp : flatT Try.prog 8 44 = some ksDp := by kernel_rfl
theorem cells_dp : Try.prog.cellsOf 44 = 23 := by kernel_rfl
set_option maxRecDepth 100000 in
theorem open_slice_deeds {H : Type} {enc : TypeId × Value → H} {w : World} {base : Nat} {held : Bool} {r : Reach} {b0 : Nat} {t : TypeId} {v : Value} {d : DataW H} {p : List MemPlace} (ht : Try.prog.underlying t = some (.slice 44))
    (hv : Value.okWide Try.prog w r b0 t v) (h : DataW.Trod enc Try.prog w base (fun _ => true) held t v d p) :
    ∃ (a : Option Addr) (len cap : Nat) (z : Nat → DP), v = .slice a len cap ∧ len ≤ cap ∧ cap ≤ maxLen ∧ DeedsIn w a len z := by
  obtain ⟨a, len, cap, z, h1, h2, h3, h4⟩ := open_flat_slice ht ks_dp cells_dp hv h (show 0 < 23 by omega)
  refine ⟨a, len, cap, fun i => dpOf (z i), h1, h2, h3, fun i hi => ?_⟩
  obtain ⟨x, hx, hb, hc⟩ := h4 i hi
  have hw : ∀ j, j < 23 → (Lit.int (ksDp.getD j .i64) (z i j)).wf = true := fun j hj => (hc j hj).2
  refine ⟨x, hx, hb, fun j v hv => ?_, ⟨⟨hw 2 (by omega), hw 3 (by omega), hw 4 (by omega), hw 5 (by omega), hw 6 (by omega), hw 7 (by omega), hw 8 (by omega)⟩⟩⟩
  obtain ⟨hj, rfl⟩ := dpA_at (z i) j v hv
  exact (hc j hj).1
end Go.Proofs.Ytnlfkafebbfenaa
