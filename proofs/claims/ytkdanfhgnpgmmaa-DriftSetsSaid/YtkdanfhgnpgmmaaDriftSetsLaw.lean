/- The walk of DriftSets. -/
import Derived.Test.YtkdanfhgnpgmmaaDriftAwake
import Derived.Test.YtkdanfhgnpgmmaaOpen
import Derived.Test.YtkdanfhgnpgmmaaLaw
namespace Go.Proofs.Ytkdanfhgnpgmmaa
open Go.RowKit Go.Lib

/-- the two parameters' boxes and the four results' -/
def Six (w W : World) (g1 g2 g3 g4 : Nat) (a b c d x y p q : Int) : Prop :=
  Two w W 23 23 #[.int .i64 a, .int .i64 b] #[.int .i64 c, .int .i64 d] ∧ Blk W g1 23 #[.int .i64 x, .int .i64 y] ∧ Blk W g2 23 #[.int .i64 x, .int .i64 y] ∧ Blk W g3 23 #[.int .i64 p, .int .i64 q] ∧ Blk W g4 23 #[.int .i64 p, .int .i64 q]
theorem Six.on {w W W' : World} {g1 g2 g3 g4 : Nat} {a b c d x y p q : Int} (h : Six w W g1 g2 g3 g4 a b c d x y p q) (k : Below W.heap.size W W') : Six w W' g1 g2 g3 g4 a b c d x y p q :=
  ⟨h.1.on k, h.2.1.below_ k, h.2.2.1.below_ k, h.2.2.2.1.below_ k, h.2.2.2.2.below_ k⟩
theorem Six.drew {w W : World} {g1 g2 g3 g4 : Nat} {a b c d x y p q : Int} (h : Six w W g1 g2 g3 g4 a b c d x y p q) : Six w W.drew g1 g2 g3 g4 a b c d x y p q :=
  ⟨h.1.drew, h.2.1.drew, h.2.2.1.drew, h.2.2.2.1.drew, h.2.2.2.2.drew⟩
theorem Six.cells {w W : World} {g1 g2 g3 g4 : Nat} {a b c d x y p q : Int} (h : Six w W g1 g2 g3 g4 a b c d x y p q) :
    W.cell? ⟨w.heap.size, 0, none⟩ = some (.int .i64 a) ∧ W.cell? ⟨w.heap.size, 1, none⟩ = some (.int .i64 b) ∧ W.cell? ⟨w.heap.size + 1, 0, none⟩ = some (.int .i64 c) ∧ W.cell? ⟨w.heap.size + 1, 1, none⟩ = some (.int .i64 d) ∧ W.cell? ⟨g1, 0, none⟩ = some (.int .i64 x) ∧ W.cell? ⟨g1, 1, none⟩ = some (.int .i64 y) ∧ W.cell? ⟨g2, 0, none⟩ = some (.int .i64 x) ∧ W.cell? ⟨g2, 1, none⟩ = some (.int .i64 y) ∧ W.cell? ⟨g3, 0, none⟩ = some (.int .i64 p) ∧ W.cell? ⟨g3, 1, none⟩ = some (.int .i64 q) ∧ W.cell? ⟨g4, 0, none⟩ = some (.int .i64 p) ∧ W.cell? ⟨g4, 1, none⟩ = some (.int .i64 q) :=
  ⟨h.1.four.1, h.1.four.2.1, h.1.four.2.2.1, h.1.four.2.2.2, h.2.1.cell 0, h.2.1.cell 1, h.2.2.1.cell 0, h.2.2.1.cell 1, h.2.2.2.1.cell 0, h.2.2.2.1.cell 1, h.2.2.2.2.cell 0, h.2.2.2.2.cell 1⟩

set_option maxRecDepth 100000 in
set_option maxHeartbeats 4000000 in
theorem driftSets_walk (a b c d t : Int) (w : World) (_h : ∀ n ∈ [a, b], (Lit.int .i64 n).wf = true) (_k : ∀ n ∈ [c, d], (Lit.int .i64 n).wf = true) (h1 : (Lit.int .i64 t).wf = true) :
    Calls Try.prog 10 #[.agg ([a, b].map (Value.int .i64)).toArray, .agg ([c, d].map (Value.int .i64)).toArray, .int .i64 t] w fun e w' => e = .returned (.bool true) ∧ Below w.heap.size w w' := by
  obtain ⟨t1, t2⟩ := int_bd h1
  clear _h _k h1
  show Calls Try.prog 10 #[.agg #[.int .i64 a, .int .i64 b], .agg #[.int .i64 c, .int .i64 d], .int .i64 t] w _
  have M1 := dmeet_any a b c d
  have M2 := rmeet_any a b c d
  obtain ⟨X, hX⟩ : ∃ X, Pl.meet a b c d = X := ⟨_, rfl⟩
  simp only [hX] at M1 M2
  obtain ⟨x, y, z⟩ := X
  have S1 := dshift_any a b t t1 t2
  have S2 := rshift_any a b t t1 t2
  obtain ⟨Y, hY⟩ : ∃ Y, Pl.shift a b t = Y := ⟨_, rfl⟩
  simp only [hY] at S1 S2
  obtain ⟨p, q, r⟩ := Y
  have H1 := dhull_any a b c d
  have H2 := rhull_any a b c d
  obtain ⟨Z, hZ⟩ : ∃ Z, Pl.hull a b c d = Z := ⟨_, rfl⟩
  simp only [hZ] at H1 H2
  obtain ⟨u, v⟩ := Z
  have A1 := dhas_any a b t
  have A2 := rhas_any a b t
  obtain ⟨V, hV⟩ : ∃ V, Pl.has a b t = V := ⟨_, rfl⟩
  simp only [hV] at A1 A2
  have W1 := dwidth_any a b
  have W2 := rwidth_any a b
  obtain ⟨U, hU⟩ : ∃ U, Pl.width a b = U := ⟨_, rfl⟩
  simp only [hU] at W1 W2
  replace M1 := Lib.hid M1
  replace M2 := Lib.hid M2
  replace S1 := Lib.hid S1
  replace S2 := Lib.hid S2
  replace H1 := Lib.hid H1
  replace H2 := Lib.hid H2
  replace A1 := Lib.hid A1
  replace A2 := Lib.hid A2
  replace W1 := Lib.hid W1
  replace W2 := Lib.hid W2
  clear hX hY hZ hV hU t1 t2
  go_enter Try.func10, Try.ntmps10
  go_wp2_with fail
  refine (M1.out _).mono ?_
  rintro e w1 ⟨rfl, b1⟩
  have T1 := (two_mk w _ _ _ _).on b1
  obtain ⟨c0, c1, c2, c3, z0, z1, _, _⟩ := T1.cells
  clear b1
  go_wp2_with fail
  refine (M2.out _).mono ?_
  rintro e w2 ⟨rfl, b2⟩
  have T2 := T1.on ((bel_box w1 _).trans (b2.mono (bel_box w1 _).size))
  have k1 := blk_new b2
  clear b2 T1 c0 c1 c2 c3 z0 z1
  obtain ⟨c0, c1, c2, c3, z0, z1, _, _⟩ := T2.cells
  go_wp2_with fail
  refine (S1.out _).mono ?_
  rintro e w3 ⟨rfl, b3⟩
  have T3 := T2.on ((bel_box w2 _).trans (b3.mono (bel_box w2 _).size))
  have k2 := blk_new b3
  have k1 := k1.then_ b3
  clear b3 T2 c0 c1 c2 c3 z0 z1
  obtain ⟨c0, c1, c2, c3, z0, z1, _, _⟩ := T3.cells
  go_wp2_with fail
  refine (S2.out _).mono ?_
  rintro e w4 ⟨rfl, b4⟩
  have T4 := T3.on ((bel_box w3 _).trans (b4.mono (bel_box w3 _).size))
  have k3 := blk_new b4
  have k1 := k1.then_ b4
  have k2 := k2.then_ b4
  clear b4 T3 c0 c1 c2 c3 z0 z1
  go_wp2_with fail
  have K : Six w (w4.alloc (.cells #[.int .i64 p, .int .i64 q] 23)) w1.heap.size w2.heap.size w3.heap.size w4.heap.size a b c d x y p q := ⟨T4.on (bel_box w4 _), k1.alloc _, k2.alloc _, k3.alloc _, Blk.new w4 _ _⟩
  clear k1 k2 k3 T4
  go_region_held3 (fun w' => w'.cell? ⟨w.heap.size, 0, none⟩ = some (.int .i64 a) ∧ w'.cell? ⟨w.heap.size, 1, none⟩ = some (.int .i64 b) ∧ w'.cell? ⟨w.heap.size + 1, 0, none⟩ = some (.int .i64 c) ∧ w'.cell? ⟨w.heap.size + 1, 1, none⟩ = some (.int .i64 d) ∧ w'.cell? ⟨w1.heap.size, 0, none⟩ = some (.int .i64 x) ∧ w'.cell? ⟨w1.heap.size, 1, none⟩ = some (.int .i64 y) ∧ w'.cell? ⟨w2.heap.size, 0, none⟩ = some (.int .i64 x) ∧ w'.cell? ⟨w2.heap.size, 1, none⟩ = some (.int .i64 y) ∧ w'.cell? ⟨w3.heap.size, 0, none⟩ = some (.int .i64 p) ∧ w'.cell? ⟨w3.heap.size, 1, none⟩ = some (.int .i64 q) ∧ w'.cell? ⟨w4.heap.size, 0, none⟩ = some (.int .i64 p) ∧ w'.cell? ⟨w4.heap.size, 1, none⟩ = some (.int .i64 q)) (first | exact K.cells | exact K.drew.cells) ((first
    | (go_at_call 23; refine (H1.out _).mono ?_; rintro e w6 ⟨rfl, hb⟩; have K : Six w w6 _ _ _ _ a b c d x y p q := (by first | exact K.on hb | exact K.drew.on hb))
    | (go_at_call 32; refine (H2.out _).mono ?_; rintro e w6 ⟨rfl, hb⟩; have K : Six w w6 _ _ _ _ a b c d x y p q := (by first | exact K.on hb | exact K.drew.on hb))
    | (go_at_call 22; refine (A1.out _).mono ?_; rintro e w6 ⟨rfl, hb⟩; have K : Six w w6 _ _ _ _ a b c d x y p q := (by first | exact K.on hb | exact K.drew.on hb))
    | (go_at_call 33; refine (A2.out _).mono ?_; rintro e w6 ⟨rfl, hb⟩; have K : Six w w6 _ _ _ _ a b c d x y p q := (by first | exact K.on hb | exact K.drew.on hb))
    | (go_at_call 28; refine (W1.out _).mono ?_; rintro e w6 ⟨rfl, hb⟩; have K : Six w w6 _ _ _ _ a b c d x y p q := (by first | exact K.on hb | exact K.drew.on hb))
    | (go_at_call 34; refine (W2.out _).mono ?_; rintro e w6 ⟨rfl, hb⟩; have K : Six w w6 _ _ _ _ a b c d x y p q := (by first | exact K.on hb | exact K.drew.on hb))
    | (go_at_call 15; refine (dawake_any _).mono ?_; rintro e w6 ⟨rfl, hb⟩; have K : Six w w6 _ _ _ _ a b c d x y p q := (by first | exact K.on hb | exact K.drew.on hb))))
  all_goals (go_wp2; go_ret; exact ⟨rfl, K.1.1⟩)
end Go.Proofs.Ytkdanfhgnpgmmaa
