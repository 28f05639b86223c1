/- Boxes that a call made for itself: the parameter's and the result's; they stand while callees leave what was there. -/
import Derived.Test.YtnlfkafebbfenaaMem
namespace Go.Proofs.Ytnlfkafebbfenaa
open Go.RowKit

theorem bel_more {w W : World} (h : Below w.heap.size w W) (o : Obj) : Below w.heap.size w (W.alloc o) := h.alloc h.size o

/-- one box behind what was there -/
def One (w W : World) (t : TypeId) (c : Array Value) : Prop := Below w.heap.size w W ∧ Blk W w.heap.size t c
theorem one_mk (w : World) (t : TypeId) (c : Array Value) : One w (w.alloc (.cells c t)) t c := ⟨(Below.refl _ _).alloc (Nat.le_refl _) _, Blk.new w t c⟩
theorem One.on {w W W' : World} {t : TypeId} {c : Array Value} (h : One w W t c) (hb : Below W.heap.size W W') : One w W' t c := ⟨h.1.trans (hb.mono h.1.size), h.2.below_ hb⟩
theorem One.cells {w W : World} {t : TypeId} {x y : Value} (h : One w W t #[x, y]) : W.cell? ⟨w.heap.size, 0, none⟩ = some x ∧ W.cell? ⟨w.heap.size, 1, none⟩ = some y ∧ w.heap.size < W.heap.size :=
  ⟨h.2.cell 0, h.2.cell 1, h.2.lt⟩

theorem One.drew {w W : World} {t : TypeId} {c : Array Value} (h : One w W t c) : One w W.drew t c := ⟨h.1.drew, h.2.drew⟩
theorem One.two {w W : World} {t : TypeId} {x y : Value} (h : One w W t #[x, y]) : W.cell? ⟨w.heap.size, 0, none⟩ = some x ∧ W.cell? ⟨w.heap.size, 1, none⟩ = some y := ⟨h.2.cell 0, h.2.cell 1⟩

/-- two boxes behind what was there -/
def Two (w W : World) (t s : TypeId) (c d : Array Value) : Prop := Below w.heap.size w W ∧ Blk W w.heap.size t c ∧ Blk W (w.heap.size + 1) s d
theorem two_mk (w : World) (t s : TypeId) (c d : Array Value) : Two w ((w.alloc (.cells c t)).alloc (.cells d s)) t s c d :=
  ⟨((Below.refl _ _).alloc (Nat.le_refl _) _).alloc (by simp) _, (Blk.new w t c).alloc _, by have := Blk.new (w.alloc (.cells c t)) s d; simpa using this⟩
theorem Two.on {w W W' : World} {t s : TypeId} {c d : Array Value} (h : Two w W t s c d) (hb : Below W.heap.size W W') : Two w W' t s c d :=
  ⟨h.1.trans (hb.mono h.1.size), h.2.1.below_ hb, h.2.2.below_ hb⟩
theorem Two.drewN {w W : World} {t s : TypeId} {c d : Array Value} (h : Two w W t s c d) (n : Nat) : Two w (W.drewN n) t s c d := ⟨below_drewN h.1 n, h.2.1, h.2.2⟩
theorem Two.drew {w W : World} {t s : TypeId} {c d : Array Value} (h : Two w W t s c d) : Two w W.drew t s c d := ⟨h.1.drew, h.2.1.drew, h.2.2.drew⟩
theorem Two.four {w W : World} {t s : TypeId} {x y u v : Value} (h : Two w W t s #[x, y] #[u, v]) : W.cell? ⟨w.heap.size, 0, none⟩ = some x ∧ W.cell? ⟨w.heap.size, 1, none⟩ = some y ∧ W.cell? ⟨w.heap.size + 1, 0, none⟩ = some u ∧ W.cell? ⟨w.heap.size + 1, 1, none⟩ = some v := ⟨h.2.1.cell 0, h.2.1.cell 1, h.2.2.cell 0, h.2.2.cell 1⟩
theorem Two.lt {w W : World} {t s : TypeId} {c d : Array Value} (h : Two w W t s c d) : w.heap.size + 1 < W.heap.size := h.2.2.lt
theorem Two.cells {w W : World} {t s : TypeId} {x y u v : Value} (h : Two w W t s #[x, y] #[u, v]) :
    W.cell? ⟨w.heap.size, 0, none⟩ = some x ∧ W.cell? ⟨w.heap.size, 1, none⟩ = some y ∧ W.cell? ⟨w.heap.size + 1, 0, none⟩ = some u ∧ W.cell? ⟨w.heap.size + 1, 1, none⟩ = some v ∧ w.heap.size < W.heap.size ∧ w.heap.size + 1 < W.heap.size ∧ W.frozen? ⟨w.heap.size + 1, 0, none⟩ = false ∧ W.frozen? ⟨w.heap.size + 1, 1, none⟩ = false :=
  ⟨h.2.1.cell 0, h.2.1.cell 1, h.2.2.cell 0, h.2.2.cell 1, by have := h.lt; omega, h.lt, h.2.2.frozen 0, h.2.2.frozen 1⟩
theorem Two.fin {w W : World} {t s : TypeId} {c d : Array Value} (h : Two w W t s c d) (u v : Value) :
    Below w.heap.size w ((W.setCell ⟨w.heap.size + 1, 0, none⟩ u).setCell ⟨w.heap.size + 1, 1, none⟩ v) :=
  Below.setCell (p := ⟨w.heap.size + 1, 1, none⟩) (Below.setCell (p := ⟨w.heap.size + 1, 0, none⟩) h.1 (Nat.le_succ _) _) (Nat.le_succ _) _

/-- three boxes behind what was there -/
def Three (w W : World) (t s r : TypeId) (c d e : Array Value) : Prop := Two w W t s c d ∧ Blk W (w.heap.size + 2) r e
theorem three_mk (w : World) (t s r : TypeId) (c d e : Array Value) : Three w (((w.alloc (.cells c t)).alloc (.cells d s)).alloc (.cells e r)) t s r c d e :=
  ⟨⟨(two_mk w t s c d).1.alloc (two_mk w t s c d).1.size _, (two_mk w t s c d).2.1.alloc _, (two_mk w t s c d).2.2.alloc _⟩, by have := Blk.new ((w.alloc (.cells c t)).alloc (.cells d s)) r e; simpa using this⟩
theorem Three.on {w W W' : World} {t s r : TypeId} {c d e : Array Value} (h : Three w W t s r c d e) (hb : Below W.heap.size W W') : Three w W' t s r c d e :=
  ⟨h.1.on hb, h.2.below_ hb⟩
theorem Three.cells {w W : World} {t s r : TypeId} {x y u v p q : Value} (h : Three w W t s r #[x, y] #[u, v] #[p, q]) :
    W.cell? ⟨w.heap.size, 0, none⟩ = some x ∧ W.cell? ⟨w.heap.size, 1, none⟩ = some y ∧ W.cell? ⟨w.heap.size + 1, 0, none⟩ = some u ∧ W.cell? ⟨w.heap.size + 1, 1, none⟩ = some v ∧ W.cell? ⟨w.heap.size + 2, 0, none⟩ = some p ∧ W.cell? ⟨w.heap.size + 2, 1, none⟩ = some q ∧ w.heap.size < W.heap.size ∧ w.heap.size + 1 < W.heap.size ∧ w.heap.size + 2 < W.heap.size ∧ W.frozen? ⟨w.heap.size + 2, 0, none⟩ = false ∧ W.frozen? ⟨w.heap.size + 2, 1, none⟩ = false :=
  ⟨h.1.cells.1, h.1.cells.2.1, h.1.cells.2.2.1, h.1.cells.2.2.2.1, h.2.cell 0, h.2.cell 1, by have := h.1.lt; omega, h.1.lt, h.2.lt, h.2.frozen 0, h.2.frozen 1⟩
theorem Three.fin {w W : World} {t s r : TypeId} {c d e : Array Value} (h : Three w W t s r c d e) (u v : Value) :
    Below w.heap.size w ((W.setCell ⟨w.heap.size + 2, 0, none⟩ u).setCell ⟨w.heap.size + 2, 1, none⟩ v) :=
  Below.setCell (p := ⟨w.heap.size + 2, 1, none⟩) (Below.setCell (p := ⟨w.heap.size + 2, 0, none⟩) h.1.1 (Nat.le_add_right _ _) _) (Nat.le_add_right _ _) _
/-- four boxes behind what was there -/
def Four (w W : World) (t s r q : TypeId) (c d e f : Array Value) : Prop := Three w W t s r c d e ∧ Blk W (w.heap.size + 3) q f
theorem four_mk (w : World) (t s r q : TypeId) (c d e f : Array Value) : Four w ((((w.alloc (.cells c t)).alloc (.cells d s)).alloc (.cells e r)).alloc (.cells f q)) t s r q c d e f :=
  ⟨⟨⟨(three_mk w t s r c d e).1.1.alloc (three_mk w t s r c d e).1.1.size _, (three_mk w t s r c d e).1.2.1.alloc _, (three_mk w t s r c d e).1.2.2.alloc _⟩, (three_mk w t s r c d e).2.alloc _⟩, by have := Blk.new (((w.alloc (.cells c t)).alloc (.cells d s)).alloc (.cells e r)) q f; simpa using this⟩
theorem Four.on {w W W' : World} {t s r q : TypeId} {c d e f : Array Value} (h : Four w W t s r q c d e f) (hb : Below W.heap.size W W') : Four w W' t s r q c d e f :=
  ⟨h.1.on hb, h.2.below_ hb⟩
theorem Four.cells {w W : World} {t s r k : TypeId} {x y u v p q m n : Value} (h : Four w W t s r k #[x, y] #[u, v] #[p, q] #[m, n]) :
    W.cell? ⟨w.heap.size, 0, none⟩ = some x ∧ W.cell? ⟨w.heap.size, 1, none⟩ = some y ∧ W.cell? ⟨w.heap.size + 1, 0, none⟩ = some u ∧ W.cell? ⟨w.heap.size + 1, 1, none⟩ = some v ∧ W.cell? ⟨w.heap.size + 2, 0, none⟩ = some p ∧ W.cell? ⟨w.heap.size + 2, 1, none⟩ = some q ∧ W.cell? ⟨w.heap.size + 3, 0, none⟩ = some m ∧ W.cell? ⟨w.heap.size + 3, 1, none⟩ = some n ∧ w.heap.size < W.heap.size ∧ w.heap.size + 1 < W.heap.size ∧ w.heap.size + 2 < W.heap.size ∧ w.heap.size + 3 < W.heap.size ∧ W.frozen? ⟨w.heap.size + 2, 0, none⟩ = false ∧ W.frozen? ⟨w.heap.size + 2, 1, none⟩ = false :=
  ⟨h.1.cells.1, h.1.cells.2.1, h.1.cells.2.2.1, h.1.cells.2.2.2.1, h.1.2.cell 0, h.1.2.cell 1, h.2.cell 0, h.2.cell 1, by have := h.2.lt; omega, by have := h.2.lt; omega, by have := h.2.lt; omega, h.2.lt, h.1.2.frozen 0, h.1.2.frozen 1⟩
end Go.Proofs.Ytnlfkafebbfenaa
