/- Words that open a law's arguments: structs of ints by value, slices of such structs. -/
import Derived.Test.YtnlfkafebbfenaaMem
import Derived.ProofKit
import Derived.OpenShut
import Derived.ChangeOld
import Derived.Below
import Derived.Deep.Slices
import Derived.Deep.Fields
import Derived.Lib.SmallJoins
namespace Go.Proofs.Ytnlfkafebbfenaa
open Go.RowKit Go.ChangeShapes Go.WideShapes Go.ChangeAt Go.Deep

def allI64 (P : Program) (fs : Array Field) : Bool := fs.toList.all fun f => match P.underlying f.type with | some (.int .i64) => true | _ => false
theorem allI64_of {P : Program} {fs : Array Field} (h : allI64 P fs = true) (j : Nat) (f : Field) (hj : fs[j]? = some f) : P.underlying f.type = some (.int .i64) := by
  have hm : f ∈ fs.toList := by
    obtain ⟨hlt, rfl⟩ := Array.getElem?_eq_some_iff.1 hj
    exact Array.getElem_mem_toList hlt
  have := List.all_eq_true.1 h f hm
  split at this
  · assumption
  · cases this
theorem list2 {α : Type} {l : List α} (h : l.length = 2) : ∃ a b, l = [a, b] := by
  match l, h with
  | [a, b], _ => exact ⟨a, b, rfl⟩
theorem list3 {α : Type} {l : List α} (h : l.length = 3) : ∃ a b c, l = [a, b, c] := by
  match l, h with
  | [a, b, c], _ => exact ⟨a, b, c, rfl⟩
theorem list4 {α : Type} {l : List α} (h : l.length = 4) : ∃ a b c d, l = [a, b, c, d] := by
  match l, h with
  | [a, b, c, d], _ => exact ⟨a, b, c, d, rfl⟩
theorem list5 {α : Type} {l : List α} (h : l.length = 5) : ∃ a b c d e, l = [a, b, c, d, e] := by
  match l, h with
  | [a, b, c, d, e], _ => exact ⟨a, b, c, d, e, rfl⟩
theorem list6 {α : Type} {l : List α} (h : l.length = 6) : ∃ a b c d e f, l = [a, b, c, d, e, f] := by
  match l, h with
  | [a, b, c, d, e, f], _ => exact ⟨a, b, c, d, e, f, rfl⟩

section
variable {H : Type} {enc : TypeId × Value → H} {P : Program} {w : World} {base : Nat} {spare : Nat → Bool} {held : Bool}

/-- A struct by value, every field one int. -/
theorem open_ints_agg {r : Reach} {b0 : Nat} {t : TypeId} {fs : Array Field} {v : Value} {d : DataW H} {p : List MemPlace} (hs : P.underlying t = some (.struct fs)) (hone : oneCellFields P fs = true) (hC : P.cellsOf t = fs.size)
    (hint : ∀ (j : Nat) (f : Field), fs[j]? = some f → P.underlying f.type = some (.int .i64)) (hv : Value.okWide P w r b0 t v) (h : DataW.Trod enc P w base spare held t v d p) :
    ∃ l : List Int, l.length = fs.size ∧ v = .agg (l.map (Value.int .i64)).toArray ∧ ∀ n ∈ l, (Lit.int .i64 n).wf = true := by
  obtain ⟨cs, rfl, hsz⟩ := okWide_struct hs hv
  obtain ⟨fuel, hf⟩ := h
  obtain ⟨ys, n', _, _, _, hyl, hg⟩ := DataW.trod_struct hs hf
  have key : ∀ j, j < fs.size → ∃ n, cs.toList[j]? = some (Value.int .i64 n) ∧ (Lit.int .i64 n).wf = true := by
    intro j hj
    have hfj : fs[j]? = some fs[j] := Array.getElem?_eq_getElem hj
    obtain ⟨ho, hk⟩ := hone_of hone j _ hfj
    have h1 := hg j _ hfj
    rw [ho, hk] at h1
    have hl : j < cs.toList.length := by simp; omega
    have hone' : ((Value.agg cs).cells.toList.drop j).take 1 = [cs.toList[j]] := by
      show (cs.toList.drop j).take 1 = _
      rw [List.drop_eq_getElem_cons hl]
      rfl
    rw [hone'] at h1
    have hys : ys[j]? = some (ys[j]'(by omega)) := List.getElem?_eq_getElem (by omega)
    obtain ⟨n, hn, _, hw⟩ := DataW.trod_int (hint j _ hfj) (h1.trans hys)
    refine ⟨n, ?_, hw⟩
    rw [List.getElem?_eq_getElem hl]
    injection hn with hn
    rw [hn]
  refine ⟨cs.toList.map fun v => match v with | .int _ n => n | _ => 0, by simp; omega, ?_, ?_⟩
  · congr 1
    apply Array.ext'
    simp only [List.map_map]
    conv => lhs; rw [← List.map_id cs.toList]
    apply List.map_congr_left
    intro v hv
    obtain ⟨j, hj, rfl⟩ := List.mem_iff_getElem.1 hv
    obtain ⟨n, hn, _⟩ := key j (by simp at hj; omega)
    rw [List.getElem?_eq_getElem hj] at hn
    injection hn with hn
    simp [hn]
  · intro n hn
    obtain ⟨v, hv, rfl⟩ := List.mem_map.1 hn
    obtain ⟨j, hj, rfl⟩ := List.mem_iff_getElem.1 hv
    obtain ⟨n, hn, hw⟩ := key j (by simp at hj; omega)
    rw [List.getElem?_eq_getElem hj] at hn
    injection hn with hn
    simp [hn, hw]

theorem int_bd {n : Int} (h : (Lit.int .i64 n).wf = true) : -9223372036854775808 ≤ n ∧ n ≤ 9223372036854775807 := by
  have hmin : IntKind.i64.min = -9223372036854775808 := rfl
  have hmax : IntKind.i64.max = 9223372036854775807 := rfl
  simp only [Lit.wf, Bool.and_eq_true, decide_eq_true_eq] at h
  omega

theorem add_block (a : Addr) (n : Nat) : (a.add n).block = a.block := by unfold Addr.add; split <;> rfl

/-- A slice of structs of k ints. -/
theorem open_int_slice {r : Reach} {b0 : Nat} {t e : TypeId} {fs : Array Field} {v : Value} {d : DataW H} {p : List MemPlace} (ht : P.underlying t = some (.slice e)) (he : P.underlying e = some (.struct fs)) (hone : oneCellFields P fs = true) (hC : P.cellsOf e = fs.size)
    (hint : ∀ (j : Nat) (f : Field), fs[j]? = some f → P.underlying f.type = some (.int .i64)) (hv : Value.okWide P w r b0 t v) (h : DataW.Trod enc P w base (fun _ => true) held t v d p) (hk0 : 0 < fs.size) :
    ∃ (a : Option Addr) (len cap : Nat) (z : Nat → Nat → Int), v = .slice a len cap ∧ len ≤ cap ∧ cap ≤ maxLen ∧ ∀ i, i < len → ∃ x, a = some x ∧ x.block < w.heap.size ∧ ∀ j, j < fs.size → w.cell? (x.add (i * fs.size + j)) = some (.int .i64 (z i j)) ∧ (Lit.int .i64 (z i j)).wf = true := by
  obtain ⟨a, len, cap, rfl⟩ := okWide_slice ht hv
  obtain ⟨fuel, hf⟩ := h
  rcases open_slice ht hf with ⟨hcs, _⟩ | ⟨x, len', cap', m, n, D, Pl, hcs, hb, hl, hm, hmm, hx, hi⟩
  · simp [Value.cells] at hcs
    obtain ⟨rfl, rfl, rfl⟩ := hcs
    exact ⟨none, 0, 0, fun _ _ => 0, rfl, Nat.le_refl _, Nat.zero_le _, fun i hi => absurd hi (by omega)⟩
  · simp [Value.cells] at hcs
    obtain ⟨rfl, rfl, rfl⟩ := hcs
    have hmc : m = cap := by simpa using hmm
    have key : ∀ i j, i < len → j < fs.size → ∃ n, w.cell? (x.add (i * fs.size + j)) = some (Value.int .i64 n) ∧ (Lit.int .i64 n).wf = true := by
      intro i j hil hj
      obtain ⟨cs', hc, ht'⟩ := hi i (by omega)
      rw [hC] at hc
      obtain ⟨ys, n', hn', hy, hlen, hyl, hg⟩ := DataW.trod_struct he ht'
      obtain ⟨_, hcl, hat⟩ := World.cells?_some hc
      have hfj : fs[j]? = some fs[j] := Array.getElem?_eq_getElem hj
      obtain ⟨ho, hk⟩ := hone_of hone j _ hfj
      have hcell := hat j hj
      have h1 := hg j _ hfj
      rw [ho, hk] at h1
      have hone' : (cs'.drop j).take 1 = [cs'[j]'(by omega)] := by
        rw [List.drop_eq_getElem_cons (by omega)]
        rfl
      rw [hone'] at h1
      have hys : ys[j]? = some (ys[j]'(by omega)) := List.getElem?_eq_getElem (by omega)
      obtain ⟨n, hn, _, hw⟩ := DataW.trod_int (hint j _ hfj) (h1.trans hys)
      refine ⟨n, ?_, hw⟩
      rw [← Go.Deep.add_add, hcell, List.getElem?_eq_getElem (by omega)]
      injection hn with hn
      rw [hn]
    refine ⟨some x, len, cap, fun i j => (match w.cell? (x.add (i * fs.size + j)) with | some (.int _ n) => n | _ => 0), rfl, hl, hm, fun i hil => ⟨x, rfl, ?_, fun j hj => ?_⟩⟩
    · obtain ⟨n, hn, _⟩ := key i 0 hil hk0
      have := World.block_lt_of_cell? w _ hn
      rwa [add_block] at this
    · obtain ⟨n, hn, hw⟩ := key i j hil hj
      simp only [hn]
      exact ⟨trivial, hw⟩
end
end Go.Proofs.Ytnlfkafebbfenaa
