/- Two servos side by side, and boxes besides; the contracts of the reference's Reset and of its methods at nil. -/
import Derived.Test.YtaaocdgbflifhaaServoDeeds
import Derived.Test.YtaaocdgbflifhaaServoRefSample
namespace Go.Proofs.Ytaaocdgbflifhaa
open Go.RowKit Go.Lib

/-- two servos, both laid since w0, and nothing else turned -/
def Pair (w0 W : World) (T1 T2 : TypeId) (b1 b2 : Nat) (c : Pl.Conf) (s1 s2 : Pl.St) : Prop :=
  Blk W b1 T1 (sv c s1) ∧ Blk W b2 T2 (sv c s2) ∧ Below w0.heap.size w0 W ∧ b1 ≠ b2 ∧ w0.heap.size ≤ b1 ∧ w0.heap.size ≤ b2
section
variable {w0 W W' : World} {T1 T2 : TypeId} {b1 b2 : Nat} {c : Pl.Conf} {s1 s2 s' : Pl.St}
theorem Pair.one (h : Pair w0 W T1 T2 b1 b2 c s1 s2) (k : Left T1 b1 c s' W W') : Pair w0 W' T1 T2 b1 b2 c s' s2 :=
  ⟨k.1, h.2.1.grown k.2 (fun e => h.2.2.2.1 (Option.some.inj e).symm), Below.only h.2.2.1 k.2 h.2.2.2.2.1 h.2.2.1.size, h.2.2.2⟩
theorem Pair.two (h : Pair w0 W T1 T2 b1 b2 c s1 s2) (k : Left T2 b2 c s' W W') : Pair w0 W' T1 T2 b1 b2 c s1 s' :=
  ⟨h.1.grown k.2 (fun e => h.2.2.2.1 (Option.some.inj e)), k.1, Below.only h.2.2.1 k.2 h.2.2.2.2.2 h.2.2.1.size, h.2.2.2⟩
theorem Pair.alloc (h : Pair w0 W T1 T2 b1 b2 c s1 s2) (o : Obj) : Pair w0 (W.alloc o) T1 T2 b1 b2 c s1 s2 := ⟨h.1.alloc o, h.2.1.alloc o, h.2.2.1.alloc h.2.2.1.size o, h.2.2.2⟩
theorem Pair.drew (h : Pair w0 W T1 T2 b1 b2 c s1 s2) : Pair w0 W.drew T1 T2 b1 b2 c s1 s2 := ⟨h.1.drew, h.2.1.drew, h.2.2.1.drew, h.2.2.2⟩
theorem Pair.on (h : Pair w0 W T1 T2 b1 b2 c s1 s2) (k : Below W.heap.size W W') : Pair w0 W' T1 T2 b1 b2 c s1 s2 := ⟨h.1.below_ k, h.2.1.below_ k, h.2.2.1.trans (k.mono h.2.2.1.size), h.2.2.2⟩
/-- a box that is no servo's -/
def Off (W : World) (g : Nat) (t : TypeId) (cs : Array Value) (b1 b2 : Nat) : Prop := Blk W g t cs ∧ g ≠ b1 ∧ g ≠ b2
variable {g : Nat} {t : TypeId} {cs : Array Value}
theorem Pair.box (h : Pair w0 W T1 T2 b1 b2 c s1 s2) (t : TypeId) (cs : Array Value) : Off (W.alloc (.cells cs t)) W.heap.size t cs b1 b2 :=
  ⟨Blk.new W t cs, by have := h.1.lt; omega, by have := h.2.1.lt; omega⟩
theorem Off.one (h : Off W g t cs b1 b2) (k : Left T1 b1 c s' W W') : Off W' g t cs b1 b2 := ⟨h.1.grown k.2 (fun e => h.2.1 (Option.some.inj e)), h.2⟩
theorem Off.two (h : Off W g t cs b1 b2) (k : Left T2 b2 c s' W W') : Off W' g t cs b1 b2 := ⟨h.1.grown k.2 (fun e => h.2.2 (Option.some.inj e)), h.2⟩
theorem Off.alloc (h : Off W g t cs b1 b2) (o : Obj) : Off (W.alloc o) g t cs b1 b2 := ⟨h.1.alloc o, h.2⟩
end

theorem treset_any (b : Nat) (c : Pl.Conf) (s : Pl.St) (w : World) (h : Blk w b 60 (sv c s)) :
    Calls Try.prog 23 #[.pointer (some ⟨b, 0, none⟩)] w fun e w' => e = .returned (.tuple #[]) ∧ Left 60 b c ⟨0, 0, s.f⟩ w w' := by
  obtain ⟨h0, h1, h2, h3, h4, h5, h6, h7, f5, f6, f7⟩ := sv_cells h
  have HB := Lib.hid h
  clear h
  go_enter Try.func23, Try.ntmps23
  go_wp2
  go_end0
  exact ⟨rfl, left_reset HB.out⟩
theorem tsample_as (b : Nat) (c : Pl.Conf) (s : Pl.St) (o p k v x : Int) (s' : Pl.St) (hR : Hid (Pl.stepR c s o p = ⟨k, v, x⟩ ∧ Pl.stepS c s o p = s')) (w : World) (h : Blk w b 60 (sv c s)) (hc : c.ok = true) (hi : Pl.Inv c s) (hn' : s.n ≤ 1000000) :
    Calls Try.prog 21 #[.pointer (some ⟨b, 0, none⟩), .int .i64 o, .int .i64 p] w fun e w' => e = .returned (.tuple #[.agg #[.int .i64 k, .int .i64 v], .int .i64 x]) ∧ Left 60 b c s' w w' := by
  have := tsample_any b c s o p w h hc hi hn'
  rw [hR.out.1, hR.out.2] at this
  exact this
theorem tnil_sample (o p : Int) (w : World) :
    Calls Try.prog 21 #[.pointer none, .int .i64 o, .int .i64 p] w fun e w' => e = .returned (.tuple #[.agg #[.int .i64 0, .int .i64 0], .int .i64 1]) ∧ Below w.heap.size w w' := by
  go_enter Try.func21, Try.ntmps21
  go_wp2
  exact bodyPost_ret (v := .tuple #[.agg #[.int .i64 0, .int .i64 0], .int .i64 1]) (by simp [results, Try.results21, go_sem]) rfl ⟨rfl, (Below.refl _ _).alloc (Nat.le_refl _) _⟩
theorem tnil_freq (w : World) : Calls Try.prog 24 #[.pointer none] w fun e w' => e = .returned (.int .i64 0) ∧ w = w' := by
  go_enter Try.func24, Try.ntmps24
  go_wp2
  go_ret
  exact ⟨rfl, rfl⟩
theorem tnil_samples (w : World) : Calls Try.prog 26 #[.pointer none] w fun e w' => e = .returned (.int .i64 0) ∧ w = w' := by
  go_enter Try.func26, Try.ntmps26
  go_wp2
  go_ret
  exact ⟨rfl, rfl⟩
theorem tnil_reset (w : World) : Calls Try.prog 23 #[.pointer none] w fun e w' => e = .returned (.tuple #[]) ∧ w = w' := by
  go_enter Try.func23, Try.ntmps23
  go_wp2
  go_end0
  exact ⟨rfl, rfl⟩
end Go.Proofs.Ytaaocdgbflifhaa
