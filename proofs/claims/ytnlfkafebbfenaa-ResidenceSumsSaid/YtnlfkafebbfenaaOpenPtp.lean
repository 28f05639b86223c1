/- Opens a law's message. -/
import Derived.Test.YtnlfkafebbfenaaRes1
import Derived.Test.YtnlfkafebbfenaaOpenFlat
namespace Go.Proofs.Ytnlfkafebbfenaa
open Go.RowKit Go.ChangeShapes Go.WideShapes Go.ChangeAt Go.Deep

theorem intsOf_cons {k : IntKind} {ks : List IntKind} {cs : List Value} (h : IntsOf (k :: ks) cs) : ∃ n c, cs = .int k n :: c ∧ (Lit.int k n).wf = true ∧ IntsOf ks c := by
  cases cs with
  | nil => cases h
  | cons v r =>
    obtain ⟨⟨n, rfl, hw⟩, hr⟩ := h
    exact ⟨n, r, rfl, hw, hr⟩
theorem intsOf_nil {cs : List Value} (h : IntsOf [] cs) : cs = [] := by
  cases cs with
  | nil => rfl
  | cons v r => cases h
theorem ks_ptp : flatT Try.prog 8 33 = some [.i64, .i64, .i64, .i64, .u64, .i64, .i64, .i64, .i64, .i64, .u64, .i64, .i64, .i64, .i64, .i64, .i64, .i64, .u64, .i64, .i64] := by kernel_rfl
theorem cells_ptp : Try.prog.cellsOf 33 = 21 := by kernel_rfl
set_option maxRecDepth 100000 in
theorem ptp_of {cs : List Value} (h : IntsOf [.i64, .i64, .i64, .i64, .u64, .i64, .i64, .i64, .i64, .i64, .u64, .i64, .i64, .i64, .i64, .i64, .i64, .i64, .u64, .i64, .i64] cs) : ∃ q : Pl.PM, Value.agg cs.toArray = pmV q ∧ PmWf q := by
  obtain ⟨n0, c0, rfl, w0, h⟩ := intsOf_cons h
  obtain ⟨n1, c1, rfl, w1, h⟩ := intsOf_cons h
  obtain ⟨n2, c2, rfl, w2, h⟩ := intsOf_cons h
  obtain ⟨n3, c3, rfl, w3, h⟩ := intsOf_cons h
  obtain ⟨n4, c4, rfl, w4, h⟩ := intsOf_cons h
  obtain ⟨n5, c5, rfl, w5, h⟩ := intsOf_cons h
  obtain ⟨n6, c6, rfl, w6, h⟩ := intsOf_cons h
  obtain ⟨n7, c7, rfl, w7, h⟩ := intsOf_cons h
  obtain ⟨n8, c8, rfl, w8, h⟩ := intsOf_cons h
  obtain ⟨n9, c9, rfl, w9, h⟩ := intsOf_cons h
  obtain ⟨n10, c10, rfl, w10, h⟩ := intsOf_cons h
  obtain ⟨n11, c11, rfl, w11, h⟩ := intsOf_cons h
  obtain ⟨n12, c12, rfl, w12, h⟩ := intsOf_cons h
  obtain ⟨n13, c13, rfl, w13, h⟩ := intsOf_cons h
  obtain ⟨n14, c14, rfl, w14, h⟩ := intsOf_cons h
  obtain ⟨n15, c15, rfl, w15, h⟩ := intsOf_cons h
  obtain ⟨n16, c16, rfl, w16, h⟩ := intsOf_cons h
  obtain ⟨n17, c17, rfl, w17, h⟩ := intsOf_cons h
  obtain ⟨n18, c18, rfl, w18, h⟩ := intsOf_cons h
  obtain ⟨n19, c19, rfl, w19, h⟩ := intsOf_cons h
  obtain ⟨n20, c20, rfl, w20, h⟩ := intsOf_cons h
  obtain rfl := intsOf_nil h
  exact ⟨⟨n0, n1, n2, n3, n4, n5, n6, n7, n8, n9, n10, n11, n12, n13, n14, n15, n16, n17, n18, n19, n20⟩, rfl, ⟨w0, w1, w2, w3, w4, w5, w6⟩⟩
set_option maxRecDepth 100000 in
theorem open_ptp {H : Type} {enc : TypeId × Value → H} {w : World} {base : Nat} {spare : Nat → Bool} {held : Bool} {r : Reach} {b0 : Nat} {v : Value} {d : DataW H} {p : List MemPlace}
    (hv : Value.okWide Try.prog w r b0 33 v) (h : DataW.Trod enc Try.prog w base spare held 33 v d p) : ∃ q : Pl.PM, v = pmV q ∧ PmWf q := by
  obtain ⟨cs, rfl, hi⟩ := open_flat Try.underlying33 ks_ptp cells_ptp hv h
  exact ptp_of hi
end Go.Proofs.Ytnlfkafebbfenaa
