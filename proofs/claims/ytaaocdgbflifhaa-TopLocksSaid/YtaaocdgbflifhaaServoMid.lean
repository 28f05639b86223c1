/- Words for a servo in the middle of a sample: its own block, the box of the result, and that nothing else has turned. -/
import Derived.Test.YtaaocdgbflifhaaServo
namespace Go.Proofs.Ytaaocdgbflifhaa
open Go.RowKit Go.Lib

theorem sv_set5 (c : Pl.Conf) (s : Pl.St) (x : Int) : (sv c s).setIfInBounds 5 (.int .i64 x) = sv c ⟨x, s.n, s.f⟩ := rfl
theorem sv_set6 (c : Pl.Conf) (s : Pl.St) (x : Int) : (sv c s).setIfInBounds 6 (.int .i64 x) = sv c ⟨s.g, x, s.f⟩ := rfl
theorem sv_set7 (c : Pl.Conf) (s : Pl.St) (x : Int) : (sv c s).setIfInBounds 7 (.int .i64 x) = sv c ⟨s.g, s.n, x⟩ := rfl

/-- the result's box lies at B, the servo (of type T) at b holds s; w is the world at the call -/
structure Mid (T : TypeId) (b : Nat) (c : Pl.Conf) (s : Pl.St) (w : World) (wx : World) : Prop where
  blk : Blk wx b T (sv c s)
  grown : w.grownBy wx (some b)
  box : Blk wx w.heap.size 31 #[.int .i64 0, .int .i64 0]
  lt : b < w.heap.size

section
variable {T : TypeId} {b : Nat} {c : Pl.Conf} {s : Pl.St} {w wx : World}
theorem Mid.start (h : Blk w b T (sv c s)) : Mid T b c s w (w.alloc (.cells #[.int .i64 0, .int .i64 0] 31)) :=
  ⟨h.alloc _, only_alloc (only_refl _ _) _, Blk.new _ _ _, h.lt⟩
theorem Mid.drewN (h : Mid T b c s w wx) (n : Nat) : Mid T b c s w (wx.drewN n) := ⟨h.blk, only_drewN h.grown n, h.box, h.lt⟩
theorem Mid.set5 (h : Mid T b c s w wx) (x : Int) : Mid T b c ⟨x, s.n, s.f⟩ w (wx.setCell ⟨b, 5, none⟩ (.int .i64 x)) :=
  ⟨sv_set5 c s x ▸ h.blk.set_ 5 _, only_setCell h.grown (.inl rfl) _, h.box.far (p := ⟨b, 5, none⟩) (Nat.ne_of_gt h.lt) _, h.lt⟩
theorem Mid.set6 (h : Mid T b c s w wx) (x : Int) : Mid T b c ⟨s.g, x, s.f⟩ w (wx.setCell ⟨b, 6, none⟩ (.int .i64 x)) :=
  ⟨sv_set6 c s x ▸ h.blk.set_ 6 _, only_setCell h.grown (.inl rfl) _, h.box.far (p := ⟨b, 6, none⟩) (Nat.ne_of_gt h.lt) _, h.lt⟩
theorem Mid.set7 (h : Mid T b c s w wx) (x : Int) : Mid T b c ⟨s.g, s.n, x⟩ w (wx.setCell ⟨b, 7, none⟩ (.int .i64 x)) :=
  ⟨sv_set7 c s x ▸ h.blk.set_ 7 _, only_setCell h.grown (.inl rfl) _, h.box.far (p := ⟨b, 7, none⟩) (Nat.ne_of_gt h.lt) _, h.lt⟩
theorem Mid.cells (h : Mid T b c s w wx) : (wx.cell? ⟨w.heap.size, 0, none⟩ = some (.int .i64 0) ∧ wx.cell? ⟨w.heap.size, 1, none⟩ = some (.int .i64 0)) ∧ (wx.frozen? ⟨w.heap.size, 0, none⟩ = false ∧ wx.frozen? ⟨w.heap.size, 1, none⟩ = false) :=
  ⟨⟨h.box.cell 0, h.box.cell 1⟩, h.box.frozen 0, h.box.frozen 1⟩
/-- what a sample leaves -/
def Left (T : TypeId) (b : Nat) (c : Pl.Conf) (s : Pl.St) (w w' : World) : Prop := Blk w' b T (sv c s) ∧ w.grownBy w' (some b)
theorem Mid.end_ (h : Mid T b c s w wx) (x y : Value) : Left T b c s w ((wx.setCell ⟨w.heap.size, 0, none⟩ x).setCell ⟨w.heap.size, 1, none⟩ y) :=
  ⟨(h.blk.far (p := ⟨w.heap.size, 0, none⟩) (Nat.ne_of_lt h.lt) _).far (p := ⟨w.heap.size, 1, none⟩) (Nat.ne_of_lt h.lt) _,
    only_setNew (only_setNew h.grown (p := ⟨w.heap.size, 0, none⟩) (Nat.le_refl _) _) (p := ⟨w.heap.size, 1, none⟩) (Nat.le_refl _) _⟩
theorem Left.alloc (h : Left T b c s w wx) (o : Obj) : Left T b c s w (wx.alloc o) := ⟨h.1.alloc _, only_alloc h.2 _⟩
theorem Left.drewN (h : Left T b c s w wx) (n : Nat) : Left T b c s w (wx.drewN n) := ⟨h.1, only_drewN h.2 n⟩
theorem left_no (h : Blk w b T (sv c s)) (o : Obj) : Left T b c s w (w.alloc o) := ⟨h.alloc _, only_alloc (only_refl _ _) _⟩
theorem left_step (h : Blk w b T (sv c s)) (n : Int) (o : Obj) : Left T b c ⟨s.g, n, s.f⟩ w ((w.setCell ⟨b, 6, none⟩ (.int .i64 n)).alloc o) :=
  ⟨(sv_set6 c s n ▸ h.set_ 6 _ : Blk _ b T (sv c ⟨s.g, n, s.f⟩)).alloc _, only_alloc (only_setCell (only_refl _ _) (.inl rfl) _) _⟩
end
end Go.Proofs.Ytaaocdgbflifhaa
