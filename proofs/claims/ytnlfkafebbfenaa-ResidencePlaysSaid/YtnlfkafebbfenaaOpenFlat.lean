/- Words that open a law's arguments: structs that are, flat, integers of whatever kinds, by value and in slices. -/
import Derived.Test.YtnlfkafebbfenaaOpenInts
namespace Go.Proofs.Ytnlfkafebbfenaa
open Go.RowKit Go.ChangeShapes Go.WideShapes Go.ChangeAt Go.Deep

/-- the kinds of the fields' cells, where they lie one behind the other -/
def flatF (P : Program) (g : TypeId → Option (List IntKind)) : List Field → Nat → Option (List IntKind)
  | [], _ => some []
  | f :: r, o =>
    match g f.type with
    | some ks => if f.offset = o ∧ P.cellsOf f.type = ks.length then (match flatF P g r (o + ks.length) with | some k' => some (ks ++ k') | none => none) else none
    | none => none
/-- the kinds of a type's cells, where they are integers -/
def flatT (P : Program) : Nat → TypeId → Option (List IntKind)
  | 0, _ => none
  | n + 1, t =>
    match P.underlying t with
    | some (.int k) => some [k]
    | some (.struct fs) => flatF P (flatT P n) fs.toList 0
    | _ => none

/-- cells that are integers of just these kinds -/
def IntsOf : List IntKind → List Value → Prop
  | [], [] => True
  | k :: ks, v :: vs => (∃ n, v = .int k n ∧ (Lit.int k n).wf = true) ∧ IntsOf ks vs
  | _, _ => False
theorem IntsOf.append : ∀ {ks : List IntKind} {a : List Value} {ks' : List IntKind} {b : List Value}, IntsOf ks a → IntsOf ks' b → IntsOf (ks ++ ks') (a ++ b)
  | [], [], _, _, _, h => h
  | [], _ :: _, _, _, h, _ => by cases h
  | _ :: _, [], _, _, h, _ => by cases h
  | _ :: _, _ :: _, _, _, h, k => ⟨h.1, h.2.append k⟩
theorem IntsOf.length : ∀ {ks : List IntKind} {a : List Value}, IntsOf ks a → a.length = ks.length
  | [], [], _ => rfl
  | [], _ :: _, h => by cases h
  | _ :: _, [], h => by cases h
  | _ :: _, _ :: _, h => by simp [h.2.length]
theorem IntsOf.at : ∀ {ks : List IntKind} {a : List Value}, IntsOf ks a → ∀ j, j < ks.length → ∃ n, a[j]? = some (.int (ks.getD j .i64) n) ∧ (Lit.int (ks.getD j .i64) n).wf = true
  | [], _, _, j, hj => by simp at hj
  | _ :: _, [], h, _, _ => by cases h
  | _ :: _, _ :: _, h, 0, _ => by
    obtain ⟨n, rfl, hw⟩ := h.1
    exact ⟨n, rfl, hw⟩
  | _ :: _, _ :: _, h, j + 1, hj => by
    obtain ⟨n, e, hw⟩ := h.2.at j (by simpa using hj)
    exact ⟨n, by simpa using e, by simpa using hw⟩

section
variable {H : Type} {enc : TypeId × Value → H} {P : Program} {w : World} {base : Nat} {spare : Nat → Bool} {held : Bool}

theorem flatT_ints : ∀ (n : Nat) {t : TypeId} {ks : List IntKind} {fuel : Nat} {cs : List Value} {x : DataW H × List MemPlace}, flatT P n t = some ks → P.cellsOf t = ks.length → DataW.trod enc P w base spare held fuel t cs = some x → IntsOf ks cs
  | 0, _, _, _, _, _, h, _, _ => by simp [flatT] at h
  | n + 1, t, ks, fuel, cs, x, h, hc, ht => by
    unfold flatT at h
    split at h
    · rename_i k hu
      injection h with h
      subst h
      obtain ⟨m, rfl, _, hw⟩ := DataW.trod_int hu ht
      exact ⟨⟨m, rfl, hw⟩, trivial⟩
    · rename_i fs hu
      obtain ⟨ys, n', _, _, hl, hyl, hg⟩ := DataW.trod_struct hu ht
      have key : ∀ (fs' : List Field) (o : Nat) (ks' : List IntKind), flatF P (flatT P n) fs' o = some ks' → (∀ f ∈ fs', ∃ fuel y, DataW.trod enc P w base spare held fuel f.type ((cs.drop f.offset).take (P.cellsOf f.type)) = some y) → cs.length = o + ks'.length → IntsOf ks' (cs.drop o) := by
        intro fs'
        induction fs' with
        | nil =>
          intro o ks' h _ hl
          unfold flatF at h
          injection h with h
          subst h
          have : cs.drop o = [] := List.drop_eq_nil_of_le (by simp at hl; omega)
          rw [this]
          trivial
        | cons f r ih =>
          intro o ks' h hy hl
          unfold flatF at h
          split at h
          · rename_i k1 hk1
            split at h
            · rename_i hcc
              split at h
              · rename_i k2 hk2
                injection h with h
                subst h
                obtain ⟨fuel, y, ht⟩ := hy f (by simp)
                have h1 := flatT_ints n hk1 hcc.2 ht
                rw [hcc.1, hcc.2] at h1
                have h2 := ih (o + k1.length) k2 hk2 (fun g hg => hy g (by simp [hg])) (by simp at hl; omega)
                have e : cs.drop o = (cs.drop o).take k1.length ++ cs.drop (o + k1.length) := by
                  rw [← List.drop_drop, List.take_append_drop]
                rw [e]
                exact h1.append h2
              · cases h
            · cases h
          · cases h
      have := key fs.toList 0 ks h (fun f hf => by
        obtain ⟨j, hj⟩ := List.mem_iff_getElem?.1 hf
        have hj' : fs[j]? = some f := by simpa using hj
        have h1 := hg j f hj'
        have hjl : j < ys.length := by
          have := (Array.getElem?_eq_some_iff.1 hj').1
          omega
        exact ⟨n', ys[j], h1.trans (List.getElem?_eq_getElem hjl)⟩) (by rw [hl, hc]; omega)
      simpa using this
    · cases h

/-- A struct by value that is, flat, integers. -/
theorem open_flat {r : Reach} {b0 : Nat} {t : TypeId} {fs : Array Field} {ks : List IntKind} {v : Value} {d : DataW H} {p : List MemPlace} (hs : P.underlying t = some (.struct fs)) (hf : flatT P 8 t = some ks) (hC : P.cellsOf t = ks.length)
    (hv : Value.okWide P w r b0 t v) (h : DataW.Trod enc P w base spare held t v d p) : ∃ cs : List Value, v = .agg cs.toArray ∧ IntsOf ks cs := by
  obtain ⟨cs, rfl, hsz⟩ := okWide_struct hs hv
  obtain ⟨fuel, hfu⟩ := h
  exact ⟨cs.toList, by simp, flatT_ints 8 hf hC (show DataW.trod enc P w base spare held fuel t cs.toList = some (d, p) from hfu)⟩

/-- A slice of such structs. -/
theorem open_flat_slice {r : Reach} {b0 : Nat} {t e : TypeId} {ks : List IntKind} {v : Value} {d : DataW H} {p : List MemPlace} (ht : P.underlying t = some (.slice e)) (hf : flatT P 8 e = some ks) (hC : P.cellsOf e = ks.length)
    (hv : Value.okWide P w r b0 t v) (h : DataW.Trod enc P w base (fun _ => true) held t v d p) (hk0 : 0 < ks.length) :
    ∃ (a : Option Addr) (len cap : Nat) (z : Nat → Nat → Int), v = .slice a len cap ∧ len ≤ cap ∧ cap ≤ maxLen ∧ ∀ i, i < len → ∃ x, a = some x ∧ x.block < w.heap.size ∧ ∀ j, j < ks.length → w.cell? (x.add (i * ks.length + j)) = some (.int (ks.getD j .i64) (z i j)) ∧ (Lit.int (ks.getD j .i64) (z i j)).wf = true := by
  obtain ⟨a, len, cap, rfl⟩ := okWide_slice ht hv
  obtain ⟨fuel, hfu⟩ := h
  rcases open_slice ht hfu with ⟨hcs, _⟩ | ⟨x, len', cap', m, n, D, Pl, hcs, hb, hl, hm, hmm, hx, hi⟩
  · simp [Value.cells] at hcs
    obtain ⟨rfl, rfl, rfl⟩ := hcs
    exact ⟨none, 0, 0, fun _ _ => 0, rfl, Nat.le_refl _, Nat.zero_le _, fun i hi => absurd hi (by omega)⟩
  · simp [Value.cells] at hcs
    obtain ⟨rfl, rfl, rfl⟩ := hcs
    have hmc : m = cap := by simpa using hmm
    have key : ∀ i j, i < len → j < ks.length → ∃ n, w.cell? (x.add (i * ks.length + j)) = some (Value.int (ks.getD j .i64) n) ∧ (Lit.int (ks.getD j .i64) n).wf = true := by
      intro i j hil hj
      obtain ⟨cs', hc, ht'⟩ := hi i (by omega)
      rw [hC] at hc
      have hI := flatT_ints 8 hf hC ht'
      obtain ⟨_, hcl, hat⟩ := World.cells?_some hc
      have hcell := hat j hj
      obtain ⟨n, hn, hw⟩ := hI.at j hj
      refine ⟨n, ?_, hw⟩
      rw [← Go.Deep.add_add, hcell]
      exact hn
    refine ⟨some x, len, cap, fun i j => (match w.cell? (x.add (i * ks.length + j)) with | some (.int _ n) => n | _ => 0), rfl, hl, hm, fun i hil => ⟨x, rfl, ?_, fun j hj => ?_⟩⟩
    · obtain ⟨n, hn, _⟩ := key i 0 hil hk0
      have := World.block_lt_of_cell? w _ hn
      rwa [add_block] at this
    · obtain ⟨n, hn, hw⟩ := key i j hil hj
      simp only [hn]
      exact ⟨trivial, hw⟩
end
end Go.Proofs.Ytnlfkafebbfenaa
