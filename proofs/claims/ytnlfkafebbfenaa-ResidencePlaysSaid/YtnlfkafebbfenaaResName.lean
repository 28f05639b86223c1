/- The table's keys, and a map of stays against a list. -/
import Derived.Test.YtnlfkafebbfenaaPtp
import Derived.DeepKeys4
namespace Go.Proofs.Ytnlfkafebbfenaa
open Go.RowKit Go.Lib Go.Maps

/-- a message's name: kind, domain, clock, port, number -/
abbrev Nm := Int × Int × Int × Int × Int
abbrev nmV (n : Nm) : Value := .agg #[.int .i64 n.1, .int .i64 n.2.1, .int .u64 n.2.2.1, .int .i64 n.2.2.2.1, .int .i64 n.2.2.2.2]
def NmOk (n : Nm) : Prop := (Lit.int .i64 n.1).wf = true ∧ (Lit.int .i64 n.2.1).wf = true ∧ (Lit.int .u64 n.2.2.1).wf = true ∧ (Lit.int .i64 n.2.2.2.1).wf = true ∧ (Lit.int .i64 n.2.2.2.2).wf = true
def kl (n : Nm) : Lit := .string (keyBytes [.int .i64 n.1, .int .i64 n.2.1, .int .u64 n.2.2.1, .int .i64 n.2.2.2.1, .int .i64 n.2.2.2.2])

theorem laidAll : laidOutB Try.prog = true := by kernel_rfl
set_option maxRecDepth 100000 in
theorem rowNm : (76 : TypeId) < Try.prog.types.size := by
  have h : Nat.blt 76 Try.prog.types.size = true := by kernel_rfl
  exact Nat.le_of_ble_eq_true h
theorem wideNm : (match Try.prog.underlying 76 with | some (.array _ _) | some (.struct _) => true | _ => false) = true := by kernel_rfl
theorem typAt : Try.prog.keyTypeAt 3 76 = true := by kernel_rfl
set_option maxRecDepth 100000 in
theorem lawNm : Keyed Try.prog 76 := Keyed.of_law (deep_law_laid laidAll (m := 3) (by decide) rowNm typAt wideNm)
theorem typNm : Try.prog.keyType 76 = true := by kernel_rfl
theorem cellsNm : Try.prog.cellsOf 76 = 5 := by kernel_rfl
theorem cellsInt : Try.prog.cellsOf 3 = 1 := by kernel_rfl
theorem cellsU64 : Try.prog.cellsOf 27 = 1 := by kernel_rfl
theorem sizeTypes : ∃ m, Try.prog.types.size = m + 1 + 1 := by
  have h : (76 : Nat) < Try.prog.types.size := rowNm
  exact ⟨Try.prog.types.size - 2, by omega⟩

theorem keyOf_nm {n : Nm} (h : NmOk n) : keyOf Try.prog 76 (nmV n) = some (kl n) := by
  obtain ⟨h1, h2, h3, h4, h5⟩ := h
  obtain ⟨m, hm⟩ := sizeTypes
  unfold keyOf
  rw [Try.underlying76]
  simp only
  rw [if_pos (by simp [typNm, Value.formed, Try.underlying76, cellsNm]), hm]
  unfold Program.keyLits
  rw [Try.underlying76]
  simp only [Value.cells]
  simp [cellsNm, Program.keyLits, Try.underlying3, Try.underlying27, cellsInt, cellsU64, h1, h2, h3, h4, h5, kl]
theorem kl_inj {a b : Nm} (ha : NmOk a) (hb : NmOk b) (h : kl a = kl b) : a = b := by
  have k := keyOf_nm hb
  rw [← h] at k
  have e := lawNm.inj (keyOf_nm ha) k
  obtain ⟨a1, a2, a3, a4, a5⟩ := a
  obtain ⟨b1, b2, b3, b4, b5⟩ := b
  simp at e
  obtain ⟨rfl, rfl, rfl, rfl, rfl⟩ := e
  rfl
theorem kl_key (n : Nm) : WideAt.IsKeyLit (kl n) := trivial

/-- a map of stays is the list l of names and stays -/
structure Stays (D : DataW Unit) (l : List (Nm × Int)) : Prop where
  tidy : Tidy D
  ok : ∀ q ∈ l, NmOk q.1 ∧ (Lit.int .i64 q.2).wf = true
  apart : (l.map Prod.fst).Nodup
  has : ∀ n, NmOk n → Maps.has D (kl n) = l.any (fun q => q.1 == n)
  at_ : ∀ q ∈ l, D.atKey (kl q.1) (.lit (.int .i64 0)) = .lit (.int .i64 q.2)
  size : Maps.size D = l.length
theorem stays_nil : Stays (.map []) [] := ⟨tidy_empty, by simp, by simp, fun n _ => rfl, by simp, rfl⟩
theorem Stays.put {D : DataW Unit} {l : List (Nm × Int)} (h : Stays D l) {n : Nm} {s : Int} (hn : NmOk n) (hs : (Lit.int .i64 s).wf = true) (hno : l.any (fun q => q.1 == n) = false) : Stays (D.put (kl n) (.lit (.int .i64 s))) (l ++ [(n, s)]) where
  tidy := h.tidy.put (kl_key n) _
  ok q hq := by
    rcases List.mem_append.1 hq with hq | hq
    · exact h.ok q hq
    · simp at hq
      subst hq
      exact ⟨hn, hs⟩
  apart := by
    rw [List.map_append]
    refine List.nodup_append.2 ⟨h.apart, by simp, ?_⟩
    intro a ha b hb e
    simp at hb
    subst hb e
    obtain ⟨q, hq, rfl⟩ := List.mem_map.1 ha
    have := List.any_eq_false.1 hno q hq
    simp at this
  has m hm := by
    by_cases c : m = n
    · subst c
      rw [has_put_same h.tidy.isMap (kl_key m)]
      simp
    · rw [has_put_other (fun e => c (kl_inj hm hn e)), h.has m hm]
      have : ¬ n = m := fun e => c e.symm
      simp [this]
  at_ q hq := by
    rcases List.mem_append.1 hq with hq | hq
    · have hne : q.1 ≠ n := fun e => by
        have := List.any_eq_false.1 hno q hq
        simp [e] at this
      rw [atKey_put_other (fun e => hne (kl_inj (h.ok q hq).1 hn e))]
      exact h.at_ q hq
    · simp at hq
      subst hq
      exact atKey_put_same h.tidy.isMap (kl_key n) _ _
  size := by
    rw [size_put h.tidy, h.has n hn, hno]
    simp [h.size]
theorem Stays.del {D : DataW Unit} {l : List (Nm × Int)} (h : Stays D l) {n : Nm} (hn : NmOk n) : Stays (D.del (kl n)) (l.filter (fun q => !(q.1 == n))) where
  tidy := h.tidy.del _
  ok q hq := h.ok q (List.mem_filter.1 hq).1
  apart := h.apart.sublist (List.Sublist.map _ List.filter_sublist)
  has m hm := by
    rw [List.any_filter]
    by_cases c : m = n
    · subst c
      rw [has_del_same]
      symm
      rw [List.any_eq_false]
      intro q _
      cases (q.1 == m) <;> simp
    · rw [has_del_other (fun e => c (kl_inj hm hn e)), h.has m hm]
      congr 1
      funext q
      cases c2 : (q.1 == m)
      · simp
      · have : q.1 = m := by simpa using c2
        have : ¬ q.1 = n := fun e => c (this.symm.trans e)
        simp [this]
  at_ q hq := by
    obtain ⟨hq1, hq2⟩ := List.mem_filter.1 hq
    have hne : q.1 ≠ n := fun e => by simp [e] at hq2
    rw [atKey_del_other (fun e => hne (kl_inj (h.ok q hq1).1 hn e))]
    exact h.at_ q hq1
  size := by
    have k := size_del h.tidy (k := kl n)
    rw [h.has n hn, h.size] at k
    have e : (l.filter (fun q => !(q.1 == n))).length + (if l.any (fun q => q.1 == n) = true then 1 else 0) = l.length := by
      have ap := h.apart
      clear h k hn
      induction l with
      | nil => rfl
      | cons q r ih =>
        simp only [List.map_cons, List.nodup_cons] at ap
        have ih := ih ap.2
        by_cases c : q.1 = n
        · have hz : r.any (fun q => q.1 == n) = false := by
            rw [List.any_eq_false]
            intro x hx e
            simp at e
            exact ap.1 (List.mem_map.2 ⟨x, hx, by rw [e, c]⟩)
          rw [hz] at ih
          simp [c] at ih ⊢
          omega
        · have c' : (q.1 == n) = false := by simpa using c
          simp only [List.filter_cons, c', Bool.not_false, if_true, List.any_cons, Bool.false_or, List.length_cons]
          omega
    omega
end Go.Proofs.Ytnlfkafebbfenaa
