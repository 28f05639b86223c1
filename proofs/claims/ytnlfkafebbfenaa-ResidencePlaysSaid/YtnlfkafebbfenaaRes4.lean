/- Contracts of the table of layer 40: New, nameOf, Len, Hold. -/
import Derived.Test.YtnlfkafebbfenaaRes3
import Derived.Test.YtnlfkafebbfenaaResName
import Derived.Deep.QuietTactic
import Derived.BigQuiet
namespace Go.Proofs.Ytnlfkafebbfenaa
open Go.RowKit Go.Lib Go.Maps

theorem box2 (w : World) (a b : Obj) : Below w.heap.size w ((w.alloc a).alloc b) := bel_more (bel_bx' w _) _
abbrev TL := List (Nm × Int)
/-- the table at b: its map lies in block g and is the list l -/
def Tb (W : World) (b g : Nat) (lim : Int) (l : TL) : Prop :=
  Blk W b 57 #[.map (some g), .int .i64 lim] ∧ b ≠ g ∧ ∃ D, W.ownsMap Try.prog 76 (plainElem (H := Unit) Try.prog 3) g l.length D ∧ Stays D l
section
variable {W W' : World} {b g : Nat} {lim : Int} {l : TL}
theorem Tb.on (h : Tb W b g lim l) (k : Below W.heap.size W W') : Tb W' b g lim l := by
  obtain ⟨h1, h2, D, h3, h4⟩ := h
  exact ⟨h1.below_ k, h2, D, h3.kept (only_of_below k none) (by simp), h4⟩
theorem Tb.drew (h : Tb W b g lim l) : Tb W.drew b g lim l := h
theorem Tb.drewN (h : Tb W b g lim l) (n : Nat) : Tb (W.drewN n) b g lim l := h
theorem Tb.far (h : Tb W b g lim l) {x : Nat} (k : W.grownBy W' (some x)) (h1 : b ≠ x) (h2 : g ≠ x) : Tb W' b g lim l := by
  obtain ⟨h3, h4, D, h5, h6⟩ := h
  exact ⟨h3.grown k (fun e => by injection e with e; exact h1 e), h4, D, h5.kept k (fun e => by injection e with e; exact h2 e), h6⟩
theorem Tb.lt (h : Tb W b g lim l) : b < W.heap.size ∧ g < W.heap.size := ⟨h.1.lt, by obtain ⟨_, _, D, h5, _⟩ := h; exact h5.lt⟩
theorem Tb.cells (h : Tb W b g lim l) : W.cell? ⟨b, 0, none⟩ = some (.map (some g)) ∧ W.cell? ⟨b, 1, none⟩ = some (.int .i64 lim) := ⟨h.1.cell 0, h.1.cell 1⟩
end

theorem tnew_yes (n : Int) (h1 : 1 ≤ n) (h2 : n ≤ 64) (w : World) : Calls Try.prog 16 #[.int .i64 n] w fun e w' => ∃ b g, e = .returned (.pointer (some ⟨b, 0, none⟩)) ∧ w.heap.size ≤ b ∧ w.heap.size ≤ g ∧ Tb w' b g n [] ∧ Below w.heap.size w w' := by
  have hmm := @run_makeMap Try.prog
  go_enter Try.func16, Try.ntmps16
  go_wp2_with fail
  go_ret
  refine ⟨w.heap.size + 1, w.heap.size, rfl, Nat.le_succ _, Nat.le_refl _, ⟨?_, by omega, .map [], ?_, stays_nil⟩, bel_more (bel_bx' w _) _⟩
  · have := Blk.new (w.alloc (.map #[] 0)) 57 #[.map (some w.heap.size), .int .i64 n]
    simpa using this
  · exact (World.ownsMap_made w Try.prog 76 _).alloc _
theorem tnew_no (n : Int) (h : n < 1 ∨ 64 < n) (w : World) : Calls Try.prog 16 #[.int .i64 n] w fun e w' => e = .returned (.pointer none) ∧ w = w' := by
  by_cases c : n < 1
  · go_enter Try.func16, Try.ntmps16
    go_wp2
    go_ret
    exact ⟨rfl, rfl⟩
  · have c2 : 64 < n := by omega
    go_enter Try.func16, Try.ntmps16
    go_wp2
    go_ret
    exact ⟨rfl, rfl⟩
set_option maxHeartbeats 1000000 in
set_option maxRecDepth 100000 in
theorem nameOf_any (k : Int) (p : Pl.PM) (w : World) : Calls Try.prog 35 #[.int .i64 k, pmV p] w fun e w' => e = .returned (nmV (k, p.d, p.ck, p.po, p.sq)) ∧ Below w.heap.size w w' := by
  go_enter Try.func35, Try.ntmps35
  go_wp2_with fail
  refine bodyPost_ret (v := nmV (k, p.d, p.ck, p.po, p.sq)) (by simp [results, Try.results35, go_sem]) rfl ⟨rfl, box2 w _ _⟩
theorem tlen_any (b g : Nat) (lim : Int) (l : TL) (w : World) (h : Tb w b g lim l) : Calls Try.prog 23 #[.pointer (some ⟨b, 0, none⟩)] w fun e w' => e = .returned (.int .i64 l.length) ∧ w = w' := by
  obtain ⟨k0, k1⟩ := h.cells
  obtain ⟨_, _, D, ho, hs⟩ := h
  have hlen := ho.len Try.underlying53 3
  rw [hs.size] at hlen
  go_enter Try.func23, Try.ntmps23
  go_wp2_with fail
  go_ret
  exact ⟨rfl, rfl⟩
theorem tlen_nil (w : World) : Calls Try.prog 23 #[.pointer none] w fun e w' => e = .returned (.int .i64 0) ∧ w = w' := by
  go_enter Try.func23, Try.ntmps23
  go_wp2
  go_ret
  exact ⟨rfl, rfl⟩
end Go.Proofs.Ytnlfkafebbfenaa
