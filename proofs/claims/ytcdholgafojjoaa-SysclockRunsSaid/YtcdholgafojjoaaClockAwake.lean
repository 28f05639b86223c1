/- Clocks side by side; the contracts with named results; the chapter's examples. -/
import Derived.Test.YtcdholgafojjoaaClockOps
namespace Go.Proofs.Ytcdholgafojjoaa
open Go.RowKit Go.Lib

/-- two clocks, both laid since w0, and nothing else turned -/
def PairC (w0 W : World) (T1 T2 : TypeId) (b1 b2 : Nat) (s1 s2 : Pl.CS) : Prop :=
  Blk W b1 T1 (csA s1) ∧ Blk W b2 T2 (csA s2) ∧ Below w0.heap.size w0 W ∧ b1 ≠ b2 ∧ w0.heap.size ≤ b1 ∧ w0.heap.size ≤ b2
/-- a change of the clock of type T at b -/
def LeftT (T : TypeId) (b : Nat) (n : Pl.CS) (w w' : World) : Prop := Blk w' b T (csA n) ∧ w.grownBy w' (some b)
theorem LeftC.t {b : Nat} {n : Pl.CS} {w w' : World} (h : LeftC b n w w') : LeftT 51 b n w w' := h
section
variable {w0 W W' : World} {T1 T2 : TypeId} {b1 b2 : Nat} {s1 s2 s' : Pl.CS}
theorem PairC.one (h : PairC w0 W T1 T2 b1 b2 s1 s2) (k : LeftT T1 b1 s' W W') : PairC w0 W' T1 T2 b1 b2 s' s2 :=
  ⟨k.1, h.2.1.grown k.2 (fun e => h.2.2.2.1 (Option.some.inj e).symm), Below.only h.2.2.1 k.2 h.2.2.2.2.1 h.2.2.1.size, h.2.2.2⟩
theorem PairC.two (h : PairC w0 W T1 T2 b1 b2 s1 s2) (k : LeftT T2 b2 s' W W') : PairC w0 W' T1 T2 b1 b2 s1 s' :=
  ⟨h.1.grown k.2 (fun e => h.2.2.2.1 (Option.some.inj e)), k.1, Below.only h.2.2.1 k.2 h.2.2.2.2.2 h.2.2.1.size, h.2.2.2⟩
theorem PairC.alloc (h : PairC w0 W T1 T2 b1 b2 s1 s2) (o : Obj) : PairC w0 (W.alloc o) T1 T2 b1 b2 s1 s2 := ⟨h.1.alloc o, h.2.1.alloc o, bel_more h.2.2.1 o, h.2.2.2⟩
theorem PairC.drew (h : PairC w0 W T1 T2 b1 b2 s1 s2) : PairC w0 W.drew T1 T2 b1 b2 s1 s2 := ⟨h.1.drew, h.2.1.drew, h.2.2.1.drew, h.2.2.2⟩
theorem PairC.on (h : PairC w0 W T1 T2 b1 b2 s1 s2) (k : Below W.heap.size W W') : PairC w0 W' T1 T2 b1 b2 s1 s2 := ⟨h.1.below_ k, h.2.1.below_ k, bel_on h.2.2.1 k, h.2.2.2⟩
/-- one clock, laid since w0 -/
def OneC (w0 W : World) (T : TypeId) (b : Nat) (s : Pl.CS) : Prop := Blk W b T (csA s) ∧ Below w0.heap.size w0 W ∧ w0.heap.size ≤ b
theorem OneC.one (h : OneC w0 W T1 b1 s1) (k : LeftT T1 b1 s' W W') : OneC w0 W' T1 b1 s' := ⟨k.1, Below.only h.2.1 k.2 h.2.2 h.2.1.size, h.2.2⟩
theorem OneC.alloc (h : OneC w0 W T1 b1 s1) (o : Obj) : OneC w0 (W.alloc o) T1 b1 s1 := ⟨h.1.alloc o, bel_more h.2.1 o, h.2.2⟩
theorem OneC.drew (h : OneC w0 W T1 b1 s1) : OneC w0 W.drew T1 b1 s1 := ⟨h.1.drew, h.2.1.drew, h.2.2⟩
theorem OneC.on (h : OneC w0 W T1 b1 s1) (k : Below W.heap.size W W') : OneC w0 W' T1 b1 s1 := ⟨h.1.below_ k, bel_on h.2.1 k, h.2.2⟩
theorem OneC.pair (h : OneC w0 W T1 b1 s1) (l : Below W.heap.size W W') (hb : W.heap.size ≤ b2) (hk : Blk W' b2 T2 (csA s2)) : PairC w0 W' T1 T2 b1 b2 s1 s2 :=
  ⟨h.1.below_ l, hk, bel_on h.2.1 l, by have := h.1.lt; omega, h.2.2, Nat.le_trans h.2.1.size hb⟩
end

section
variable {s S : Pl.CS} {raw x y E : Int}
theorem cfreq_at (h : s.ok = true) (hE : Pl.freqE s raw x = E) (hS : Pl.freqS s raw x = S) (b : Nat) (w : World) (hk : Blk w b 51 (csA s)) :
    Calls Try.prog 21 #[.pointer (some ⟨b, 0, none⟩), .int .i64 raw, .int .i64 x] w fun e w' => e = .returned (.int .i64 E) ∧ LeftT 51 b S w w' := by subst hE hS; exact cfreq_any b s raw x w hk h
theorem cslew_at (h : s.ok = true) (hE : Pl.slewE s raw x y = E) (hS : Pl.slewS s raw x y = S) (b : Nat) (w : World) (hk : Blk w b 51 (csA s)) :
    Calls Try.prog 22 #[.pointer (some ⟨b, 0, none⟩), .int .i64 raw, .int .i64 x, .int .i64 y] w fun e w' => e = .returned (.int .i64 E) ∧ LeftT 51 b S w w' := by subst hE hS; exact cslew_any b s raw x y w hk h
theorem cstep_at (h : s.ok = true) (hs : s.steps ≤ 9223372036854775807) (hE : Pl.stepE s raw x = E) (hS : Pl.stepS s raw x = S) (b : Nat) (w : World) (hk : Blk w b 51 (csA s)) :
    Calls Try.prog 24 #[.pointer (some ⟨b, 0, none⟩), .int .i64 raw, .int .i64 x] w fun e w' => e = .returned (.int .i64 E) ∧ LeftT 51 b S w w' := by subst hE hS; exact cstep_any b s raw x w hk h hs
theorem cpend_at (h : s.ok = true) (hE : Pl.pend s raw = E) (b : Nat) (w : World) (hk : Blk w b 51 (csA s)) :
    Calls Try.prog 23 #[.pointer (some ⟨b, 0, none⟩), .int .i64 raw] w fun e w' => e = .returned (.int .i64 E) ∧ Below w.heap.size w w' := by subst hE; exact cpend_any b s raw w hk h
end

set_option maxRecDepth 100000 in
set_option maxHeartbeats 1000000 in
theorem cawake_any (w : World) : Calls Try.prog 16 #[] w fun e w' => e = .returned (.bool true) ∧ Below w.heap.size w w' := by
  have A0 : (⟨1000, 5000, 0, 0, 0, 0⟩ : Pl.CS).ok = true := by decide
  have A1 : (⟨2000, 6000, 1000, 0, 0, 0⟩ : Pl.CS).ok = true := by decide
  have C0 : (⟨0, 0, 0, 0, 0, 0⟩ : Pl.CS).ok = true := by decide
  have C1 : (⟨0, 0, 0, 10, 1000, 0⟩ : Pl.CS).ok = true := by decide
  have C2 : (⟨20000000, 19999910, 0, 0, 0, 1⟩ : Pl.CS).ok = true := by decide
  have NN := Lib.hid (cnew_yes 1000 5000 A0 w)
  have NM := Lib.hid (cnew_yes 0 0 C0)
  have NO := Lib.hid (cof_no ⟨0, 0, 0, 1, 0, 0⟩ (by decide))
  have X1 := Lib.hid (cnow_at A0 (raw := 1500) (T := 5500) (E := 0) (by decide) (by decide))
  have X2 := Lib.hid (cfreq_at A0 (raw := 2000) (x := 1000) (E := 0) (S := ⟨2000, 6000, 1000, 0, 0, 0⟩) (by decide) (by rfl))
  have X3 := Lib.hid (cslew_at C0 (raw := 0) (x := 10) (y := 1000) (E := 0) (S := ⟨0, 0, 0, 10, 1000, 0⟩) (by decide) (by rfl))
  have X4 := Lib.hid (cnow_at A1 (raw := 1002000) (T := 1006001) (E := 0) (by decide) (by decide))
  have X5 := Lib.hid (cnow_at C1 (raw := 4500000) (T := 4500004) (E := 0) (by decide) (by decide))
  have X6 := Lib.hid (cnow_at C1 (raw := 20000000) (T := 20000010) (E := 0) (by decide) (by decide))
  have X7 := Lib.hid (cpend_at C1 (raw := 4500000) (E := 6) (by decide))
  have X8 := Lib.hid (cstep_at C1 (by show (0 : Int) ≤ 9223372036854775807; omega) (raw := 20000000) (x := -100) (E := 0) (S := ⟨20000000, 19999910, 0, 0, 0, 1⟩) (by decide) (by rfl))
  have X9 := Lib.hid (cnow_at C2 (raw := 19999999) (T := 0) (E := 12) (by decide) (by decide))
  have XA := Lib.hid (fun b W k => cstate_any b ⟨20000000, 19999910, 0, 0, 0, 1⟩ W k)
  have XB := Lib.hid (cfreq_at C2 (raw := 20000000) (x := 500001) (E := 3) (S := ⟨20000000, 19999910, 0, 0, 0, 1⟩) (by decide) (by rfl))
  clear A0 A1 C0 C1 C2
  go_enter Try.func16, Try.ntmps16
  go_wp2_with fail
  refine NN.out.mono ?_
  rintro _ w1 ⟨b1, rfl, h1, k1, l1⟩
  have P : OneC w w1 51 b1 ⟨1000, 5000, 0, 0, 0, 0⟩ := ⟨k1, l1, h1⟩
  clear h1 k1 l1
  go_wp2_with fail
  refine (NM.out _).mono ?_
  rintro _ w2 ⟨b2, rfl, h1, k1, l1⟩
  have P := P.pair l1 h1 k1
  clear h1 k1 l1
  go_wp2_with fail
  refine (NO.out _).mono ?_
  rintro _ w3 ⟨rfl, l1⟩
  have P := P.on l1
  clear l1
  go_wp2_with fail
  refine (X1.out b1 _ P.1).mono ?_
  rintro _ w4 ⟨rfl, l1⟩
  have P := P.on l1
  clear l1
  go_wp2_with fail
  refine (X2.out b1 _ P.1).mono ?_
  rintro _ w4 ⟨rfl, l1⟩
  have P := P.one l1
  clear l1
  go_wp2_with fail
  refine (X3.out b2 _ P.2.1).mono ?_
  rintro _ w4 ⟨rfl, l1⟩
  have P := P.two l1
  clear l1
  go_wp2_with fail
  refine (X4.out b1 _ P.1).mono ?_
  rintro _ w4 ⟨rfl, l1⟩
  have P := P.on l1
  clear l1
  go_wp2_with fail
  refine (X5.out b2 _ P.2.1).mono ?_
  rintro _ w4 ⟨rfl, l1⟩
  have P := P.on l1
  clear l1
  go_wp2_with fail
  refine (X6.out b2 _ P.2.1).mono ?_
  rintro _ w4 ⟨rfl, l1⟩
  have P := P.on l1
  clear l1
  go_wp2_with fail
  refine (X7.out b2 _ P.2.1).mono ?_
  rintro _ w4 ⟨rfl, l1⟩
  have P := P.on l1
  clear l1
  go_wp2_with fail
  refine (X8.out b2 _ P.2.1).mono ?_
  rintro _ w4 ⟨rfl, l1⟩
  have P := P.two l1
  clear l1
  go_wp2_with fail
  refine (X9.out b2 _ P.2.1).mono ?_
  rintro _ w4 ⟨rfl, l1⟩
  have P := P.on l1
  clear l1
  go_wp2_with fail
  refine (XA.out b2 _ P.2.1).mono ?_
  rintro _ w4 ⟨rfl, l1⟩
  have P := P.on l1
  clear l1
  go_wp2_with fail
  refine (XB.out b2 _ P.2.1).mono ?_
  rintro _ w4 ⟨rfl, l1⟩
  have P := P.two l1
  clear l1
  go_wp2
  go_ret
  exact ⟨rfl, P.2.2.1⟩
end Go.Proofs.Ytcdholgafojjoaa
