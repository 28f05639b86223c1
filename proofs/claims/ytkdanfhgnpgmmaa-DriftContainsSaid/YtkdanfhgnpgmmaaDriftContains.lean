/- The walk of DriftContains. -/
import Derived.Test.YtkdanfhgnpgmmaaDriftAwake
import Derived.Test.YtkdanfhgnpgmmaaOpen
import Derived.Test.YtkdanfhgnpgmmaaLaw
namespace Go.Proofs.Ytkdanfhgnpgmmaa
open Go.RowKit Go.Lib

/-- the two parameters' boxes and a result's -/
def Thr (w W : World) (g : Nat) (a b c d x y : Int) : Prop :=
  Two w W 23 23 #[.int .i64 a, .int .i64 b] #[.int .i64 c, .int .i64 d] ∧ Blk W g 23 #[.int .i64 x, .int .i64 y]
theorem Thr.on {w W W' : World} {g : Nat} {a b c d x y : Int} (h : Thr w W g a b c d x y) (k : Below W.heap.size W W') : Thr w W' g a b c d x y := ⟨h.1.on k, h.2.below_ k⟩
theorem Thr.drew {w W : World} {g : Nat} {a b c d x y : Int} (h : Thr w W g a b c d x y) : Thr w W.drew g a b c d x y := ⟨h.1.drew, h.2.drew⟩
theorem Thr.cells {w W : World} {g : Nat} {a b c d x y : Int} (h : Thr w W g a b c d x y) :
    W.cell? ⟨w.heap.size, 0, none⟩ = some (.int .i64 a) ∧ W.cell? ⟨w.heap.size, 1, none⟩ = some (.int .i64 b) ∧ W.cell? ⟨w.heap.size + 1, 0, none⟩ = some (.int .i64 c) ∧ W.cell? ⟨w.heap.size + 1, 1, none⟩ = some (.int .i64 d) ∧ W.cell? ⟨g, 0, none⟩ = some (.int .i64 x) ∧ W.cell? ⟨g, 1, none⟩ = some (.int .i64 y) :=
  ⟨h.1.four.1, h.1.four.2.1, h.1.four.2.2.1, h.1.four.2.2.2, h.2.cell 0, h.2.cell 1⟩

set_option maxRecDepth 100000 in
set_option maxHeartbeats 10000000 in
theorem driftContains_yes (a b c d t : Int) (w : World) (P Q K R G : Bool) (x y u v : Int) (hd : Pl.dok a b = true) (he : Pl.dok c d = true) (hP : Pl.has a b t = P) (hQ : Pl.has c d t = Q) (hM : Pl.meet a b c d = (x, y, K)) (hR : Pl.has x y t = R) (hH : Pl.hull a b c d = (u, v)) (hG : Pl.has u v t = G) (e1 : (P && Q) = (K && R)) (e2 : (P || Q) = true → G = true) :
    Calls Try.prog 7 #[.agg #[.int .i64 a, .int .i64 b], .agg #[.int .i64 c, .int .i64 d], .int .i64 t] w fun e w' => e = .returned (.bool true) ∧ Below w.heap.size w w' := by
  have C1 := dcheck_any a b
  have C2 := dcheck_any c d
  rw [Pl.dchk_yes hd] at C1
  rw [Pl.dchk_yes he] at C2
  have M := dmeet_any a b c d
  rw [hM] at M
  have H1 := dhas_any a b t
  have H2 := dhas_any c d t
  have H3 := dhas_any x y t
  have H4 := dhas_any u v t
  rw [hP] at H1
  rw [hQ] at H2
  rw [hR] at H3
  rw [hG] at H4
  have U := dhull_any a b c d
  rw [hH] at U
  replace C1 := Lib.hid C1
  replace C2 := Lib.hid C2
  replace M := Lib.hid M
  replace H1 := Lib.hid H1
  replace H2 := Lib.hid H2
  replace H3 := Lib.hid H3
  replace H4 := Lib.hid H4
  replace U := Lib.hid U
  clear hd he hP hQ hM hR hH hG
  cases P <;> cases Q <;> cases K <;> cases R <;> simp at e1 <;> (try simp at e2) <;> (try subst e2) <;> clear e1 <;> try clear e2
  case false.false.false.false =>
    go_enter Try.func7, Try.ntmps7
    go_wp2_with fail
    refine (C1.out _).mono ?_
    rintro e w1 ⟨rfl, b1⟩
    have T1 := (two_mk w _ _ _ _).on b1
    obtain ⟨c0, c1, c2, c3, z0, z1, _, _⟩ := T1.cells
    clear b1
    go_wp2_with fail
    refine (C2.out _).mono ?_
    rintro e w2 ⟨rfl, b2⟩
    have T2 := T1.on b2
    clear b2 T1 c0 c1 c2 c3 z0 z1
    obtain ⟨c0, c1, c2, c3, z0, z1, _, _⟩ := T2.cells
    go_wp2_with fail
    refine (M.out _).mono ?_
    rintro e w3 ⟨rfl, b3⟩
    have T3 := T2.on b3
    clear b3 T2 c0 c1 c2 c3 z0 z1
    have K : Thr w (w3.alloc (.cells #[.int .i64 x, .int .i64 y] 23)) w3.heap.size a b c d x y := ⟨T3.on (bel_box w3 _), Blk.new w3 _ _⟩
    clear T3
    obtain ⟨c0, c1, c2, c3, c4, c5⟩ := K.cells
    have z0 := K.1.lt
    have z1 := K.2.lt
    go_wp2_with fail
    refine (H1.out _).mono ?_
    rintro e w6 ⟨rfl, hb⟩
    replace K := K.on hb
    clear c0 c1 c2 c3 c4 c5 z0 z1 hb
    obtain ⟨c0, c1, c2, c3, c4, c5⟩ := K.cells
    have z0 := K.1.lt
    have z1 := K.2.lt
    go_wp2_with fail
    refine (H1.out _).mono ?_
    rintro e w6 ⟨rfl, hb⟩
    replace K := K.on hb
    clear c0 c1 c2 c3 c4 c5 z0 z1 hb
    obtain ⟨c0, c1, c2, c3, c4, c5⟩ := K.cells
    have z0 := K.1.lt
    have z1 := K.2.lt
    go_wp2_with fail
    refine (H2.out _).mono ?_
    rintro e w6 ⟨rfl, hb⟩
    replace K := K.on hb
    clear c0 c1 c2 c3 c4 c5 z0 z1 hb
    obtain ⟨c0, c1, c2, c3, c4, c5⟩ := K.cells
    have z0 := K.1.lt
    have z1 := K.2.lt
    go_wp2_with fail
    refine (dawake_any _).mono ?_
    rintro e w6 ⟨rfl, hb⟩
    replace K := K.on hb
    clear c0 c1 c2 c3 c4 c5 z0 z1 hb
    obtain ⟨c0, c1, c2, c3, c4, c5⟩ := K.cells
    have z0 := K.1.lt
    have z1 := K.2.lt
    go_wp2
    go_ret
    exact ⟨rfl, K.1.1⟩
  case false.false.false.true =>
    go_enter Try.func7, Try.ntmps7
    go_wp2_with fail
    refine (C1.out _).mono ?_
    rintro e w1 ⟨rfl, b1⟩
    have T1 := (two_mk w _ _ _ _).on b1
    obtain ⟨c0, c1, c2, c3, z0, z1, _, _⟩ := T1.cells
    clear b1
    go_wp2_with fail
    refine (C2.out _).mono ?_
    rintro e w2 ⟨rfl, b2⟩
    have T2 := T1.on b2
    clear b2 T1 c0 c1 c2 c3 z0 z1
    obtain ⟨c0, c1, c2, c3, z0, z1, _, _⟩ := T2.cells
    go_wp2_with fail
    refine (M.out _).mono ?_
    rintro e w3 ⟨rfl, b3⟩
    have T3 := T2.on b3
    clear b3 T2 c0 c1 c2 c3 z0 z1
    have K : Thr w (w3.alloc (.cells #[.int .i64 x, .int .i64 y] 23)) w3.heap.size a b c d x y := ⟨T3.on (bel_box w3 _), Blk.new w3 _ _⟩
    clear T3
    obtain ⟨c0, c1, c2, c3, c4, c5⟩ := K.cells
    have z0 := K.1.lt
    have z1 := K.2.lt
    go_wp2_with fail
    refine (H1.out _).mono ?_
    rintro e w6 ⟨rfl, hb⟩
    replace K := K.on hb
    clear c0 c1 c2 c3 c4 c5 z0 z1 hb
    obtain ⟨c0, c1, c2, c3, c4, c5⟩ := K.cells
    have z0 := K.1.lt
    have z1 := K.2.lt
    go_wp2_with fail
    refine (H1.out _).mono ?_
    rintro e w6 ⟨rfl, hb⟩
    replace K := K.on hb
    clear c0 c1 c2 c3 c4 c5 z0 z1 hb
    obtain ⟨c0, c1, c2, c3, c4, c5⟩ := K.cells
    have z0 := K.1.lt
    have z1 := K.2.lt
    go_wp2_with fail
    refine (H2.out _).mono ?_
    rintro e w6 ⟨rfl, hb⟩
    replace K := K.on hb
    clear c0 c1 c2 c3 c4 c5 z0 z1 hb
    obtain ⟨c0, c1, c2, c3, c4, c5⟩ := K.cells
    have z0 := K.1.lt
    have z1 := K.2.lt
    go_wp2_with fail
    refine (dawake_any _).mono ?_
    rintro e w6 ⟨rfl, hb⟩
    replace K := K.on hb
    clear c0 c1 c2 c3 c4 c5 z0 z1 hb
    obtain ⟨c0, c1, c2, c3, c4, c5⟩ := K.cells
    have z0 := K.1.lt
    have z1 := K.2.lt
    go_wp2
    go_ret
    exact ⟨rfl, K.1.1⟩
  case false.false.true.false =>
    go_enter Try.func7, Try.ntmps7
    go_wp2_with fail
    refine (C1.out _).mono ?_
    rintro e w1 ⟨rfl, b1⟩
    have T1 := (two_mk w _ _ _ _).on b1
    obtain ⟨c0, c1, c2, c3, z0, z1, _, _⟩ := T1.cells
    clear b1
    go_wp2_with fail
    refine (C2.out _).mono ?_
    rintro e w2 ⟨rfl, b2⟩
    have T2 := T1.on b2
    clear b2 T1 c0 c1 c2 c3 z0 z1
    obtain ⟨c0, c1, c2, c3, z0, z1, _, _⟩ := T2.cells
    go_wp2_with fail
    refine (M.out _).mono ?_
    rintro e w3 ⟨rfl, b3⟩
    have T3 := T2.on b3
    clear b3 T2 c0 c1 c2 c3 z0 z1
    have K : Thr w (w3.alloc (.cells #[.int .i64 x, .int .i64 y] 23)) w3.heap.size a b c d x y := ⟨T3.on (bel_box w3 _), Blk.new w3 _ _⟩
    clear T3
    obtain ⟨c0, c1, c2, c3, c4, c5⟩ := K.cells
    have z0 := K.1.lt
    have z1 := K.2.lt
    go_wp2_with fail
    refine (H1.out _).mono ?_
    rintro e w6 ⟨rfl, hb⟩
    replace K := K.on hb
    clear c0 c1 c2 c3 c4 c5 z0 z1 hb
    obtain ⟨c0, c1, c2, c3, c4, c5⟩ := K.cells
    have z0 := K.1.lt
    have z1 := K.2.lt
    go_wp2_with fail
    refine (H3.out _).mono ?_
    rintro e w6 ⟨rfl, hb⟩
    replace K := K.on hb
    clear c0 c1 c2 c3 c4 c5 z0 z1 hb
    obtain ⟨c0, c1, c2, c3, c4, c5⟩ := K.cells
    have z0 := K.1.lt
    have z1 := K.2.lt
    go_wp2_with fail
    refine (H1.out _).mono ?_
    rintro e w6 ⟨rfl, hb⟩
    replace K := K.on hb
    clear c0 c1 c2 c3 c4 c5 z0 z1 hb
    obtain ⟨c0, c1, c2, c3, c4, c5⟩ := K.cells
    have z0 := K.1.lt
    have z1 := K.2.lt
    go_wp2_with fail
    refine (H2.out _).mono ?_
    rintro e w6 ⟨rfl, hb⟩
    replace K := K.on hb
    clear c0 c1 c2 c3 c4 c5 z0 z1 hb
    obtain ⟨c0, c1, c2, c3, c4, c5⟩ := K.cells
    have z0 := K.1.lt
    have z1 := K.2.lt
    go_wp2_with fail
    refine (dawake_any _).mono ?_
    rintro e w6 ⟨rfl, hb⟩
    replace K := K.on hb
    clear c0 c1 c2 c3 c4 c5 z0 z1 hb
    obtain ⟨c0, c1, c2, c3, c4, c5⟩ := K.cells
    have z0 := K.1.lt
    have z1 := K.2.lt
    go_wp2
    go_ret
    exact ⟨rfl, K.1.1⟩
  case false.true.false.false =>
    go_enter Try.func7, Try.ntmps7
    go_wp2_with fail
    refine (C1.out _).mono ?_
    rintro e w1 ⟨rfl, b1⟩
    have T1 := (two_mk w _ _ _ _).on b1
    obtain ⟨c0, c1, c2, c3, z0, z1, _, _⟩ := T1.cells
    clear b1
    go_wp2_with fail
    refine (C2.out _).mono ?_
    rintro e w2 ⟨rfl, b2⟩
    have T2 := T1.on b2
    clear b2 T1 c0 c1 c2 c3 z0 z1
    obtain ⟨c0, c1, c2, c3, z0, z1, _, _⟩ := T2.cells
    go_wp2_with fail
    refine (M.out _).mono ?_
    rintro e w3 ⟨rfl, b3⟩
    have T3 := T2.on b3
    clear b3 T2 c0 c1 c2 c3 z0 z1
    have K : Thr w (w3.alloc (.cells #[.int .i64 x, .int .i64 y] 23)) w3.heap.size a b c d x y := ⟨T3.on (bel_box w3 _), Blk.new w3 _ _⟩
    clear T3
    obtain ⟨c0, c1, c2, c3, c4, c5⟩ := K.cells
    have z0 := K.1.lt
    have z1 := K.2.lt
    go_wp2_with fail
    refine (H1.out _).mono ?_
    rintro e w6 ⟨rfl, hb⟩
    replace K := K.on hb
    clear c0 c1 c2 c3 c4 c5 z0 z1 hb
    obtain ⟨c0, c1, c2, c3, c4, c5⟩ := K.cells
    have z0 := K.1.lt
    have z1 := K.2.lt
    go_wp2_with fail
    refine (H1.out _).mono ?_
    rintro e w6 ⟨rfl, hb⟩
    replace K := K.on hb
    clear c0 c1 c2 c3 c4 c5 z0 z1 hb
    obtain ⟨c0, c1, c2, c3, c4, c5⟩ := K.cells
    have z0 := K.1.lt
    have z1 := K.2.lt
    go_wp2_with fail
    refine (H2.out _).mono ?_
    rintro e w6 ⟨rfl, hb⟩
    replace K := K.on hb
    clear c0 c1 c2 c3 c4 c5 z0 z1 hb
    obtain ⟨c0, c1, c2, c3, c4, c5⟩ := K.cells
    have z0 := K.1.lt
    have z1 := K.2.lt
    go_wp2_with fail
    refine (U.out _).mono ?_
    rintro e w6 ⟨rfl, hb⟩
    replace K := K.on hb
    clear c0 c1 c2 c3 c4 c5 z0 z1 hb
    obtain ⟨c0, c1, c2, c3, c4, c5⟩ := K.cells
    have z0 := K.1.lt
    have z1 := K.2.lt
    go_wp2_with fail
    refine (H4.out _).mono ?_
    rintro e w6 ⟨rfl, hb⟩
    replace K := K.on hb
    clear c0 c1 c2 c3 c4 c5 z0 z1 hb
    obtain ⟨c0, c1, c2, c3, c4, c5⟩ := K.cells
    have z0 := K.1.lt
    have z1 := K.2.lt
    go_wp2_with fail
    refine (dawake_any _).mono ?_
    rintro e w6 ⟨rfl, hb⟩
    replace K := K.on hb
    clear c0 c1 c2 c3 c4 c5 z0 z1 hb
    obtain ⟨c0, c1, c2, c3, c4, c5⟩ := K.cells
    have z0 := K.1.lt
    have z1 := K.2.lt
    go_wp2
    go_ret
    exact ⟨rfl, K.1.1⟩
  case false.true.false.true =>
    go_enter Try.func7, Try.ntmps7
    go_wp2_with fail
    refine (C1.out _).mono ?_
    rintro e w1 ⟨rfl, b1⟩
    have T1 := (two_mk w _ _ _ _).on b1
    obtain ⟨c0, c1, c2, c3, z0, z1, _, _⟩ := T1.cells
    clear b1
    go_wp2_with fail
    refine (C2.out _).mono ?_
    rintro e w2 ⟨rfl, b2⟩
    have T2 := T1.on b2
    clear b2 T1 c0 c1 c2 c3 z0 z1
    obtain ⟨c0, c1, c2, c3, z0, z1, _, _⟩ := T2.cells
    go_wp2_with fail
    refine (M.out _).mono ?_
    rintro e w3 ⟨rfl, b3⟩
    have T3 := T2.on b3
    clear b3 T2 c0 c1 c2 c3 z0 z1
    have K : Thr w (w3.alloc (.cells #[.int .i64 x, .int .i64 y] 23)) w3.heap.size a b c d x y := ⟨T3.on (bel_box w3 _), Blk.new w3 _ _⟩
    clear T3
    obtain ⟨c0, c1, c2, c3, c4, c5⟩ := K.cells
    have z0 := K.1.lt
    have z1 := K.2.lt
    go_wp2_with fail
    refine (H1.out _).mono ?_
    rintro e w6 ⟨rfl, hb⟩
    replace K := K.on hb
    clear c0 c1 c2 c3 c4 c5 z0 z1 hb
    obtain ⟨c0, c1, c2, c3, c4, c5⟩ := K.cells
    have z0 := K.1.lt
    have z1 := K.2.lt
    go_wp2_with fail
    refine (H1.out _).mono ?_
    rintro e w6 ⟨rfl, hb⟩
    replace K := K.on hb
    clear c0 c1 c2 c3 c4 c5 z0 z1 hb
    obtain ⟨c0, c1, c2, c3, c4, c5⟩ := K.cells
    have z0 := K.1.lt
    have z1 := K.2.lt
    go_wp2_with fail
    refine (H2.out _).mono ?_
    rintro e w6 ⟨rfl, hb⟩
    replace K := K.on hb
    clear c0 c1 c2 c3 c4 c5 z0 z1 hb
    obtain ⟨c0, c1, c2, c3, c4, c5⟩ := K.cells
    have z0 := K.1.lt
    have z1 := K.2.lt
    go_wp2_with fail
    refine (U.out _).mono ?_
    rintro e w6 ⟨rfl, hb⟩
    replace K := K.on hb
    clear c0 c1 c2 c3 c4 c5 z0 z1 hb
    obtain ⟨c0, c1, c2, c3, c4, c5⟩ := K.cells
    have z0 := K.1.lt
    have z1 := K.2.lt
    go_wp2_with fail
    refine (H4.out _).mono ?_
    rintro e w6 ⟨rfl, hb⟩
    replace K := K.on hb
    clear c0 c1 c2 c3 c4 c5 z0 z1 hb
    obtain ⟨c0, c1, c2, c3, c4, c5⟩ := K.cells
    have z0 := K.1.lt
    have z1 := K.2.lt
    go_wp2_with fail
    refine (dawake_any _).mono ?_
    rintro e w6 ⟨rfl, hb⟩
    replace K := K.on hb
    clear c0 c1 c2 c3 c4 c5 z0 z1 hb
    obtain ⟨c0, c1, c2, c3, c4, c5⟩ := K.cells
    have z0 := K.1.lt
    have z1 := K.2.lt
    go_wp2
    go_ret
    exact ⟨rfl, K.1.1⟩
  case false.true.true.false =>
    go_enter Try.func7, Try.ntmps7
    go_wp2_with fail
    refine (C1.out _).mono ?_
    rintro e w1 ⟨rfl, b1⟩
    have T1 := (two_mk w _ _ _ _).on b1
    obtain ⟨c0, c1, c2, c3, z0, z1, _, _⟩ := T1.cells
    clear b1
    go_wp2_with fail
    refine (C2.out _).mono ?_
    rintro e w2 ⟨rfl, b2⟩
    have T2 := T1.on b2
    clear b2 T1 c0 c1 c2 c3 z0 z1
    obtain ⟨c0, c1, c2, c3, z0, z1, _, _⟩ := T2.cells
    go_wp2_with fail
    refine (M.out _).mono ?_
    rintro e w3 ⟨rfl, b3⟩
    have T3 := T2.on b3
    clear b3 T2 c0 c1 c2 c3 z0 z1
    have K : Thr w (w3.alloc (.cells #[.int .i64 x, .int .i64 y] 23)) w3.heap.size a b c d x y := ⟨T3.on (bel_box w3 _), Blk.new w3 _ _⟩
    clear T3
    obtain ⟨c0, c1, c2, c3, c4, c5⟩ := K.cells
    have z0 := K.1.lt
    have z1 := K.2.lt
    go_wp2_with fail
    refine (H1.out _).mono ?_
    rintro e w6 ⟨rfl, hb⟩
    replace K := K.on hb
    clear c0 c1 c2 c3 c4 c5 z0 z1 hb
    obtain ⟨c0, c1, c2, c3, c4, c5⟩ := K.cells
    have z0 := K.1.lt
    have z1 := K.2.lt
    go_wp2_with fail
    refine (H3.out _).mono ?_
    rintro e w6 ⟨rfl, hb⟩
    replace K := K.on hb
    clear c0 c1 c2 c3 c4 c5 z0 z1 hb
    obtain ⟨c0, c1, c2, c3, c4, c5⟩ := K.cells
    have z0 := K.1.lt
    have z1 := K.2.lt
    go_wp2_with fail
    refine (H1.out _).mono ?_
    rintro e w6 ⟨rfl, hb⟩
    replace K := K.on hb
    clear c0 c1 c2 c3 c4 c5 z0 z1 hb
    obtain ⟨c0, c1, c2, c3, c4, c5⟩ := K.cells
    have z0 := K.1.lt
    have z1 := K.2.lt
    go_wp2_with fail
    refine (H2.out _).mono ?_
    rintro e w6 ⟨rfl, hb⟩
    replace K := K.on hb
    clear c0 c1 c2 c3 c4 c5 z0 z1 hb
    obtain ⟨c0, c1, c2, c3, c4, c5⟩ := K.cells
    have z0 := K.1.lt
    have z1 := K.2.lt
    go_wp2_with fail
    refine (U.out _).mono ?_
    rintro e w6 ⟨rfl, hb⟩
    replace K := K.on hb
    clear c0 c1 c2 c3 c4 c5 z0 z1 hb
    obtain ⟨c0, c1, c2, c3, c4, c5⟩ := K.cells
    have z0 := K.1.lt
    have z1 := K.2.lt
    go_wp2_with fail
    refine (H4.out _).mono ?_
    rintro e w6 ⟨rfl, hb⟩
    replace K := K.on hb
    clear c0 c1 c2 c3 c4 c5 z0 z1 hb
    obtain ⟨c0, c1, c2, c3, c4, c5⟩ := K.cells
    have z0 := K.1.lt
    have z1 := K.2.lt
    go_wp2_with fail
    refine (dawake_any _).mono ?_
    rintro e w6 ⟨rfl, hb⟩
    replace K := K.on hb
    clear c0 c1 c2 c3 c4 c5 z0 z1 hb
    obtain ⟨c0, c1, c2, c3, c4, c5⟩ := K.cells
    have z0 := K.1.lt
    have z1 := K.2.lt
    go_wp2
    go_ret
    exact ⟨rfl, K.1.1⟩
  case true.false.false.false =>
    go_enter Try.func7, Try.ntmps7
    go_wp2_with fail
    refine (C1.out _).mono ?_
    rintro e w1 ⟨rfl, b1⟩
    have T1 := (two_mk w _ _ _ _).on b1
    obtain ⟨c0, c1, c2, c3, z0, z1, _, _⟩ := T1.cells
    clear b1
    go_wp2_with fail
    refine (C2.out _).mono ?_
    rintro e w2 ⟨rfl, b2⟩
    have T2 := T1.on b2
    clear b2 T1 c0 c1 c2 c3 z0 z1
    obtain ⟨c0, c1, c2, c3, z0, z1, _, _⟩ := T2.cells
    go_wp2_with fail
    refine (M.out _).mono ?_
    rintro e w3 ⟨rfl, b3⟩
    have T3 := T2.on b3
    clear b3 T2 c0 c1 c2 c3 z0 z1
    have K : Thr w (w3.alloc (.cells #[.int .i64 x, .int .i64 y] 23)) w3.heap.size a b c d x y := ⟨T3.on (bel_box w3 _), Blk.new w3 _ _⟩
    clear T3
    obtain ⟨c0, c1, c2, c3, c4, c5⟩ := K.cells
    have z0 := K.1.lt
    have z1 := K.2.lt
    go_wp2_with fail
    refine (H1.out _).mono ?_
    rintro e w6 ⟨rfl, hb⟩
    replace K := K.on hb
    clear c0 c1 c2 c3 c4 c5 z0 z1 hb
    obtain ⟨c0, c1, c2, c3, c4, c5⟩ := K.cells
    have z0 := K.1.lt
    have z1 := K.2.lt
    go_wp2_with fail
    refine (H2.out _).mono ?_
    rintro e w6 ⟨rfl, hb⟩
    replace K := K.on hb
    clear c0 c1 c2 c3 c4 c5 z0 z1 hb
    obtain ⟨c0, c1, c2, c3, c4, c5⟩ := K.cells
    have z0 := K.1.lt
    have z1 := K.2.lt
    go_wp2_with fail
    refine (H1.out _).mono ?_
    rintro e w6 ⟨rfl, hb⟩
    replace K := K.on hb
    clear c0 c1 c2 c3 c4 c5 z0 z1 hb
    obtain ⟨c0, c1, c2, c3, c4, c5⟩ := K.cells
    have z0 := K.1.lt
    have z1 := K.2.lt
    go_wp2_with fail
    refine (U.out _).mono ?_
    rintro e w6 ⟨rfl, hb⟩
    replace K := K.on hb
    clear c0 c1 c2 c3 c4 c5 z0 z1 hb
    obtain ⟨c0, c1, c2, c3, c4, c5⟩ := K.cells
    have z0 := K.1.lt
    have z1 := K.2.lt
    go_wp2_with fail
    refine (H4.out _).mono ?_
    rintro e w6 ⟨rfl, hb⟩
    replace K := K.on hb
    clear c0 c1 c2 c3 c4 c5 z0 z1 hb
    obtain ⟨c0, c1, c2, c3, c4, c5⟩ := K.cells
    have z0 := K.1.lt
    have z1 := K.2.lt
    go_wp2_with fail
    refine (dawake_any _).mono ?_
    rintro e w6 ⟨rfl, hb⟩
    replace K := K.on hb
    clear c0 c1 c2 c3 c4 c5 z0 z1 hb
    obtain ⟨c0, c1, c2, c3, c4, c5⟩ := K.cells
    have z0 := K.1.lt
    have z1 := K.2.lt
    go_wp2
    go_ret
    exact ⟨rfl, K.1.1⟩
  case true.false.false.true =>
    go_enter Try.func7, Try.ntmps7
    go_wp2_with fail
    refine (C1.out _).mono ?_
    rintro e w1 ⟨rfl, b1⟩
    have T1 := (two_mk w _ _ _ _).on b1
    obtain ⟨c0, c1, c2, c3, z0, z1, _, _⟩ := T1.cells
    clear b1
    go_wp2_with fail
    refine (C2.out _).mono ?_
    rintro e w2 ⟨rfl, b2⟩
    have T2 := T1.on b2
    clear b2 T1 c0 c1 c2 c3 z0 z1
    obtain ⟨c0, c1, c2, c3, z0, z1, _, _⟩ := T2.cells
    go_wp2_with fail
    refine (M.out _).mono ?_
    rintro e w3 ⟨rfl, b3⟩
    have T3 := T2.on b3
    clear b3 T2 c0 c1 c2 c3 z0 z1
    have K : Thr w (w3.alloc (.cells #[.int .i64 x, .int .i64 y] 23)) w3.heap.size a b c d x y := ⟨T3.on (bel_box w3 _), Blk.new w3 _ _⟩
    clear T3
    obtain ⟨c0, c1, c2, c3, c4, c5⟩ := K.cells
    have z0 := K.1.lt
    have z1 := K.2.lt
    go_wp2_with fail
    refine (H1.out _).mono ?_
    rintro e w6 ⟨rfl, hb⟩
    replace K := K.on hb
    clear c0 c1 c2 c3 c4 c5 z0 z1 hb
    obtain ⟨c0, c1, c2, c3, c4, c5⟩ := K.cells
    have z0 := K.1.lt
    have z1 := K.2.lt
    go_wp2_with fail
    refine (H2.out _).mono ?_
    rintro e w6 ⟨rfl, hb⟩
    replace K := K.on hb
    clear c0 c1 c2 c3 c4 c5 z0 z1 hb
    obtain ⟨c0, c1, c2, c3, c4, c5⟩ := K.cells
    have z0 := K.1.lt
    have z1 := K.2.lt
    go_wp2_with fail
    refine (H1.out _).mono ?_
    rintro e w6 ⟨rfl, hb⟩
    replace K := K.on hb
    clear c0 c1 c2 c3 c4 c5 z0 z1 hb
    obtain ⟨c0, c1, c2, c3, c4, c5⟩ := K.cells
    have z0 := K.1.lt
    have z1 := K.2.lt
    go_wp2_with fail
    refine (U.out _).mono ?_
    rintro e w6 ⟨rfl, hb⟩
    replace K := K.on hb
    clear c0 c1 c2 c3 c4 c5 z0 z1 hb
    obtain ⟨c0, c1, c2, c3, c4, c5⟩ := K.cells
    have z0 := K.1.lt
    have z1 := K.2.lt
    go_wp2_with fail
    refine (H4.out _).mono ?_
    rintro e w6 ⟨rfl, hb⟩
    replace K := K.on hb
    clear c0 c1 c2 c3 c4 c5 z0 z1 hb
    obtain ⟨c0, c1, c2, c3, c4, c5⟩ := K.cells
    have z0 := K.1.lt
    have z1 := K.2.lt
    go_wp2_with fail
    refine (dawake_any _).mono ?_
    rintro e w6 ⟨rfl, hb⟩
    replace K := K.on hb
    clear c0 c1 c2 c3 c4 c5 z0 z1 hb
    obtain ⟨c0, c1, c2, c3, c4, c5⟩ := K.cells
    have z0 := K.1.lt
    have z1 := K.2.lt
    go_wp2
    go_ret
    exact ⟨rfl, K.1.1⟩
  case true.false.true.false =>
    go_enter Try.func7, Try.ntmps7
    go_wp2_with fail
    refine (C1.out _).mono ?_
    rintro e w1 ⟨rfl, b1⟩
    have T1 := (two_mk w _ _ _ _).on b1
    obtain ⟨c0, c1, c2, c3, z0, z1, _, _⟩ := T1.cells
    clear b1
    go_wp2_with fail
    refine (C2.out _).mono ?_
    rintro e w2 ⟨rfl, b2⟩
    have T2 := T1.on b2
    clear b2 T1 c0 c1 c2 c3 z0 z1
    obtain ⟨c0, c1, c2, c3, z0, z1, _, _⟩ := T2.cells
    go_wp2_with fail
    refine (M.out _).mono ?_
    rintro e w3 ⟨rfl, b3⟩
    have T3 := T2.on b3
    clear b3 T2 c0 c1 c2 c3 z0 z1
    have K : Thr w (w3.alloc (.cells #[.int .i64 x, .int .i64 y] 23)) w3.heap.size a b c d x y := ⟨T3.on (bel_box w3 _), Blk.new w3 _ _⟩
    clear T3
    obtain ⟨c0, c1, c2, c3, c4, c5⟩ := K.cells
    have z0 := K.1.lt
    have z1 := K.2.lt
    go_wp2_with fail
    refine (H1.out _).mono ?_
    rintro e w6 ⟨rfl, hb⟩
    replace K := K.on hb
    clear c0 c1 c2 c3 c4 c5 z0 z1 hb
    obtain ⟨c0, c1, c2, c3, c4, c5⟩ := K.cells
    have z0 := K.1.lt
    have z1 := K.2.lt
    go_wp2_with fail
    refine (H2.out _).mono ?_
    rintro e w6 ⟨rfl, hb⟩
    replace K := K.on hb
    clear c0 c1 c2 c3 c4 c5 z0 z1 hb
    obtain ⟨c0, c1, c2, c3, c4, c5⟩ := K.cells
    have z0 := K.1.lt
    have z1 := K.2.lt
    go_wp2_with fail
    refine (H3.out _).mono ?_
    rintro e w6 ⟨rfl, hb⟩
    replace K := K.on hb
    clear c0 c1 c2 c3 c4 c5 z0 z1 hb
    obtain ⟨c0, c1, c2, c3, c4, c5⟩ := K.cells
    have z0 := K.1.lt
    have z1 := K.2.lt
    go_wp2_with fail
    refine (H1.out _).mono ?_
    rintro e w6 ⟨rfl, hb⟩
    replace K := K.on hb
    clear c0 c1 c2 c3 c4 c5 z0 z1 hb
    obtain ⟨c0, c1, c2, c3, c4, c5⟩ := K.cells
    have z0 := K.1.lt
    have z1 := K.2.lt
    go_wp2_with fail
    refine (U.out _).mono ?_
    rintro e w6 ⟨rfl, hb⟩
    replace K := K.on hb
    clear c0 c1 c2 c3 c4 c5 z0 z1 hb
    obtain ⟨c0, c1, c2, c3, c4, c5⟩ := K.cells
    have z0 := K.1.lt
    have z1 := K.2.lt
    go_wp2_with fail
    refine (H4.out _).mono ?_
    rintro e w6 ⟨rfl, hb⟩
    replace K := K.on hb
    clear c0 c1 c2 c3 c4 c5 z0 z1 hb
    obtain ⟨c0, c1, c2, c3, c4, c5⟩ := K.cells
    have z0 := K.1.lt
    have z1 := K.2.lt
    go_wp2_with fail
    refine (dawake_any _).mono ?_
    rintro e w6 ⟨rfl, hb⟩
    replace K := K.on hb
    clear c0 c1 c2 c3 c4 c5 z0 z1 hb
    obtain ⟨c0, c1, c2, c3, c4, c5⟩ := K.cells
    have z0 := K.1.lt
    have z1 := K.2.lt
    go_wp2
    go_ret
    exact ⟨rfl, K.1.1⟩
  case true.true.true.true =>
    go_enter Try.func7, Try.ntmps7
    go_wp2_with fail
    refine (C1.out _).mono ?_
    rintro e w1 ⟨rfl, b1⟩
    have T1 := (two_mk w _ _ _ _).on b1
    obtain ⟨c0, c1, c2, c3, z0, z1, _, _⟩ := T1.cells
    clear b1
    go_wp2_with fail
    refine (C2.out _).mono ?_
    rintro e w2 ⟨rfl, b2⟩
    have T2 := T1.on b2
    clear b2 T1 c0 c1 c2 c3 z0 z1
    obtain ⟨c0, c1, c2, c3, z0, z1, _, _⟩ := T2.cells
    go_wp2_with fail
    refine (M.out _).mono ?_
    rintro e w3 ⟨rfl, b3⟩
    have T3 := T2.on b3
    clear b3 T2 c0 c1 c2 c3 z0 z1
    have K : Thr w (w3.alloc (.cells #[.int .i64 x, .int .i64 y] 23)) w3.heap.size a b c d x y := ⟨T3.on (bel_box w3 _), Blk.new w3 _ _⟩
    clear T3
    obtain ⟨c0, c1, c2, c3, c4, c5⟩ := K.cells
    have z0 := K.1.lt
    have z1 := K.2.lt
    go_wp2_with fail
    refine (H1.out _).mono ?_
    rintro e w6 ⟨rfl, hb⟩
    replace K := K.on hb
    clear c0 c1 c2 c3 c4 c5 z0 z1 hb
    obtain ⟨c0, c1, c2, c3, c4, c5⟩ := K.cells
    have z0 := K.1.lt
    have z1 := K.2.lt
    go_wp2_with fail
    refine (H2.out _).mono ?_
    rintro e w6 ⟨rfl, hb⟩
    replace K := K.on hb
    clear c0 c1 c2 c3 c4 c5 z0 z1 hb
    obtain ⟨c0, c1, c2, c3, c4, c5⟩ := K.cells
    have z0 := K.1.lt
    have z1 := K.2.lt
    go_wp2_with fail
    refine (H3.out _).mono ?_
    rintro e w6 ⟨rfl, hb⟩
    replace K := K.on hb
    clear c0 c1 c2 c3 c4 c5 z0 z1 hb
    obtain ⟨c0, c1, c2, c3, c4, c5⟩ := K.cells
    have z0 := K.1.lt
    have z1 := K.2.lt
    go_wp2_with fail
    refine (H1.out _).mono ?_
    rintro e w6 ⟨rfl, hb⟩
    replace K := K.on hb
    clear c0 c1 c2 c3 c4 c5 z0 z1 hb
    obtain ⟨c0, c1, c2, c3, c4, c5⟩ := K.cells
    have z0 := K.1.lt
    have z1 := K.2.lt
    go_wp2_with fail
    refine (U.out _).mono ?_
    rintro e w6 ⟨rfl, hb⟩
    replace K := K.on hb
    clear c0 c1 c2 c3 c4 c5 z0 z1 hb
    obtain ⟨c0, c1, c2, c3, c4, c5⟩ := K.cells
    have z0 := K.1.lt
    have z1 := K.2.lt
    go_wp2_with fail
    refine (H4.out _).mono ?_
    rintro e w6 ⟨rfl, hb⟩
    replace K := K.on hb
    clear c0 c1 c2 c3 c4 c5 z0 z1 hb
    obtain ⟨c0, c1, c2, c3, c4, c5⟩ := K.cells
    have z0 := K.1.lt
    have z1 := K.2.lt
    go_wp2_with fail
    refine (dawake_any _).mono ?_
    rintro e w6 ⟨rfl, hb⟩
    replace K := K.on hb
    clear c0 c1 c2 c3 c4 c5 z0 z1 hb
    obtain ⟨c0, c1, c2, c3, c4, c5⟩ := K.cells
    have z0 := K.1.lt
    have z1 := K.2.lt
    go_wp2
    go_ret
    exact ⟨rfl, K.1.1⟩

theorem max_out (a b : Int) : a ≤ max a b ∧ b ≤ max a b ∧ (max a b = a ∨ max a b = b) := ⟨Int.le_max_left a b, Int.le_max_right a b, by rcases Int.le_total a b with h | h; exact .inr (Int.max_eq_right h); exact .inl (Int.max_eq_left h)⟩
theorem min_out (a b : Int) : min a b ≤ a ∧ min a b ≤ b ∧ (min a b = a ∨ min a b = b) := ⟨Int.min_le_left a b, Int.min_le_right a b, by rcases Int.le_total a b with h | h; exact .inl (Int.min_eq_left h); exact .inr (Int.min_eq_right h)⟩
theorem meet_has {a b c d t : Int} (hd : Pl.dok a b = true) (he : Pl.dok c d = true) : (Pl.has a b t && Pl.has c d t) = ((Pl.meet a b c d).2.2 && Pl.has (Pl.meet a b c d).1 (Pl.meet a b c d).2.1 t) := by
  have h1 := Pl.dok_iff.1 hd
  have h2 := Pl.dok_iff.1 he
  by_cases hm : max a c ≤ min b d
  · have e : Pl.meet a b c d = (max a c, min b d, true) := by simp only [Pl.meet, hd, he, hm, decide_true, Bool.and_self, if_true]
    rw [e, Bool.eq_iff_iff]
    clear e hd he
    simp only [Pl.has, Pl.dok, Bool.true_and, Bool.and_eq_true, decide_eq_true_eq]
    obtain ⟨x1, x2, x3⟩ := max_out a c
    obtain ⟨y1, y2, y3⟩ := min_out b d
    generalize max a c = M at *
    generalize min b d = N at *
    omega
  · have e : Pl.meet a b c d = (0, 0, false) := by simp only [Pl.meet, hd, he, hm, decide_false, Bool.and_false, Bool.false_eq_true, if_false]
    rw [e, Bool.eq_iff_iff]
    simp only [Pl.has, Pl.dok, Bool.and_eq_true, decide_eq_true_eq, Bool.false_and, Bool.false_eq_true, iff_false]
    clear e hd he
    obtain ⟨x1, x2, x3⟩ := max_out a c
    obtain ⟨y1, y2, y3⟩ := min_out b d
    generalize max a c = M at *
    generalize min b d = N at *
    omega
theorem hull_has {a b c d t : Int} (hd : Pl.dok a b = true) (he : Pl.dok c d = true) (h : (Pl.has a b t || Pl.has c d t) = true) : Pl.has (Pl.hull a b c d).1 (Pl.hull a b c d).2 t = true := by
  have h1 := Pl.dok_iff.1 hd
  have h2 := Pl.dok_iff.1 he
  have e : Pl.hull a b c d = (min a c, max b d) := by simp only [Pl.hull, hd, he, Bool.and_self, if_true]
  rw [e]
  simp only [Pl.has, Pl.dok, Bool.and_eq_true, Bool.or_eq_true, decide_eq_true_eq] at h ⊢
  clear e hd he
  obtain ⟨x1, x2, x3⟩ := min_out a c
  obtain ⟨y1, y2, y3⟩ := max_out b d
  generalize min a c = M at *
  generalize max b d = N at *
  omega

theorem driftContains_no1 (a b c d t : Int) (w : World) (hd : Pl.dok a b = false) :
    Calls Try.prog 7 #[.agg #[.int .i64 a, .int .i64 b], .agg #[.int .i64 c, .int .i64 d], .int .i64 t] w fun e w' => e = .returned (.bool true) ∧ Below w.heap.size w w' := by
  have C1 := dcheck_any a b
  rw [Pl.dchk_no hd] at C1
  replace C1 := Lib.hid C1
  clear hd
  go_enter Try.func7, Try.ntmps7
  go_wp2_with fail
  refine (C1.out _).mono ?_
  rintro e w1 ⟨rfl, b1⟩
  have T1 := (two_mk w _ _ _ _).on b1
  clear b1
  go_wp2_with fail
  refine (dawake_any _).mono ?_
  rintro e w2 ⟨rfl, b2⟩
  go_wp2
  go_ret
  exact ⟨rfl, bel_on T1.1 b2⟩
theorem driftContains_no2 (a b c d t : Int) (w : World) (hd : Pl.dok a b = true) (he : Pl.dok c d = false) :
    Calls Try.prog 7 #[.agg #[.int .i64 a, .int .i64 b], .agg #[.int .i64 c, .int .i64 d], .int .i64 t] w fun e w' => e = .returned (.bool true) ∧ Below w.heap.size w w' := by
  have C1 := dcheck_any a b
  have C2 := dcheck_any c d
  rw [Pl.dchk_yes hd] at C1
  rw [Pl.dchk_no he] at C2
  replace C1 := Lib.hid C1
  replace C2 := Lib.hid C2
  clear hd he
  go_enter Try.func7, Try.ntmps7
  go_wp2_with fail
  refine (C1.out _).mono ?_
  rintro e w1 ⟨rfl, b1⟩
  have T1 := (two_mk w _ _ _ _).on b1
  obtain ⟨c0, c1, c2, c3, z0, z1, _, _⟩ := T1.cells
  clear b1
  go_wp2_with fail
  refine (C2.out _).mono ?_
  rintro e w2 ⟨rfl, b2⟩
  have T2 := T1.on b2
  go_wp2_with fail
  refine (dawake_any _).mono ?_
  rintro e w3 ⟨rfl, b3⟩
  go_wp2
  go_ret
  exact ⟨rfl, bel_on T2.1 b3⟩

theorem driftContains_walk (a b c d t : Int) (w : World) (_h : ∀ n ∈ [a, b], (Lit.int .i64 n).wf = true) (_k : ∀ n ∈ [c, d], (Lit.int .i64 n).wf = true) (_h1 : (Lit.int .i64 t).wf = true) :
    Calls Try.prog 7 #[.agg ([a, b].map (Value.int .i64)).toArray, .agg ([c, d].map (Value.int .i64)).toArray, .int .i64 t] w fun e w' => e = .returned (.bool true) ∧ Below w.heap.size w w' := by
  cases hd : Pl.dok a b with
  | false => exact driftContains_no1 a b c d t w hd
  | true =>
    cases he : Pl.dok c d with
    | false => exact driftContains_no2 a b c d t w hd he
    | true => exact driftContains_yes a b c d t w _ _ (Pl.meet a b c d).2.2 _ _ (Pl.meet a b c d).1 (Pl.meet a b c d).2.1 (Pl.hull a b c d).1 (Pl.hull a b c d).2 hd he rfl rfl rfl rfl rfl rfl (meet_has hd he) (hull_has hd he)
end Go.Proofs.Ytkdanfhgnpgmmaa
