/- The contract of New; the chapter's examples, where the listed variable holds what it is laid with. -/
import Derived.Test.YtdjfbghdnkjdoaaDoorPll5
namespace Go.Proofs.YtdjfbghdnkjdoaaDoor
namespace Pl
def exC : LC := ⟨3, 17, 128000000, 900, 500000⟩
end Pl
open Go.RowKit Go.Lib

theorem pnew_yes (c : Pl.LC) (hc : c.err = 0) (w : World) :
    Calls Tryd.prog 12 #[lcV c] w fun e w' => ∃ g, e = .returned (.pointer (some ⟨g, 0, none⟩)) ∧ w.heap.size ≤ g ∧ Blk w' g 46 (lvA c ⟨0, 0, 0, false, 0, 0, 0⟩) ∧ Below w.heap.size w w' := by
  have V := fun W => pcheck_any c W
  rw [hc] at V
  have V := Lib.hid V
  clear hc
  go_enter Tryd.func12, Tryd.ntmps12
  go_wp2_with fail
  refine (V.out _).mono ?_
  rintro _ w1 ⟨rfl, b1⟩
  have T := (one_mk w 23 #[.int .i64 c.lo, .int .i64 c.hi, .int .i64 c.sa, .int .i64 c.so, .int .i64 c.lim]).on b1
  have k0 : w1.cell? ⟨w.heap.size, 0, none⟩ = some (.int .i64 c.lo) := T.2.cell 0
  have k1 : w1.cell? ⟨w.heap.size, 1, none⟩ = some (.int .i64 c.hi) := T.2.cell 1
  have k2 : w1.cell? ⟨w.heap.size, 2, none⟩ = some (.int .i64 c.sa) := T.2.cell 2
  have k3 : w1.cell? ⟨w.heap.size, 3, none⟩ = some (.int .i64 c.so) := T.2.cell 3
  have k4 : w1.cell? ⟨w.heap.size, 4, none⟩ = some (.int .i64 c.lim) := T.2.cell 4
  have kz := T.2.lt
  have HT := Lib.hid T
  clear b1 T
  go_wp2
  go_ret
  exact ⟨w1.heap.size, rfl, HT.out.1.size, Blk.new w1 _ _, bel_more HT.out.1 _⟩
theorem pnew_no (c : Pl.LC) (hc : c.err ≠ 0) (w : World) :
    Calls Tryd.prog 12 #[lcV c] w fun e w' => e = .returned (.pointer none) ∧ Below w.heap.size w w' := by
  have V := fun W => pcheck_any c W
  obtain ⟨E, hE⟩ : ∃ E, c.err = E := ⟨_, rfl⟩
  rw [hE] at V hc
  have V := Lib.hid V
  have t : (E == 0) = false := by simp [hc]
  clear hE hc
  go_enter Tryd.func12, Tryd.ntmps12
  go_wp2_with fail
  refine (V.out _).mono ?_
  rintro _ w1 ⟨rfl, b1⟩
  go_wp2
  go_ret
  exact ⟨rfl, bel_on (bel_bx w _) b1⟩

/-- the listed variable, block 0, holds its five numbers -/
def ConfAt (w : World) : Prop := 0 < w.heap.size ∧ w.cell? ⟨0, 0, none⟩ = some (.int .i64 3) ∧ w.cell? ⟨0, 1, none⟩ = some (.int .i64 17) ∧ w.cell? ⟨0, 2, none⟩ = some (.int .i64 128000000) ∧ w.cell? ⟨0, 3, none⟩ = some (.int .i64 900) ∧ w.cell? ⟨0, 4, none⟩ = some (.int .i64 500000)
theorem ConfAt.on {w W : World} (h : ConfAt w) (l : Below w.heap.size w W) : ConfAt W :=
  ⟨Nat.lt_of_lt_of_le h.1 l.size, (l.cell (p := ⟨0, 0, none⟩) h.1).trans h.2.1, (l.cell (p := ⟨0, 1, none⟩) h.1).trans h.2.2.1, (l.cell (p := ⟨0, 2, none⟩) h.1).trans h.2.2.2.1, (l.cell (p := ⟨0, 3, none⟩) h.1).trans h.2.2.2.2.1, (l.cell (p := ⟨0, 4, none⟩) h.1).trans h.2.2.2.2.2⟩

abbrev awS : Array Value := #[.int .i64 0, .int .i64 10, .int .i64 1000, .int .i64 6, .int .i64 0, .int .i64 100, .int .i64 5000, .int .i64 6, .int .i64 0, .int .i64 1010, .int .i64 50000, .int .i64 6, .int .i64 0, .int .i64 1074, .int .i64 64000, .int .i64 6, .int .i64 1, .int .i64 1138, .int .i64 128000000, .int .i64 6, .int .i64 0, .int .i64 2037, .int .i64 (-128000000), .int .i64 6, .int .i64 0, .int .i64 2038, .int .i64 (-128000000), .int .i64 6]
abbrev awW : Array Value := #[.int .i64 1, .int .i64 0, .int .i64 0, .int .i64 0, .int .i64 1, .int .i64 50, .int .i64 1, .int .i64 112, .int .i64 0, .int .i64 0, .int .i64 0, .int .i64 0, .int .i64 2, .int .i64 (-128000000)]
abbrev awT : Array Value := #[.int .i64 1, .int .i64 1, .int .i64 3, .int .i64 3, .int .i64 2, .int .i64 2, .int .i64 3]
abbrev awP : Array Value := #[.int .i64 1000, .int .i64 1000, .int .i64 50000, .int .i64 64000, .int .i64 63938, .int .i64 63938, .int .i64 0]
def awL : Nat → Pl.LS
  | 0 => ⟨0, 0, 0, false, 0, 0, 0⟩
  | 1 => ⟨1, 0, 1000, true, 10, 6, 0⟩
  | 2 => ⟨1, 0, 1000, true, 10, 6, 0⟩
  | 3 => ⟨3, 50, 50000, true, 1010, 6, 0⟩
  | 4 => ⟨3, 112, 64000, true, 1074, 6, 0⟩
  | 5 => ⟨2, 112, 63938, true, 1138, 6, 1138⟩
  | 6 => ⟨2, 112, 63938, true, 2037, 6, 1138⟩
  | _ => ⟨3, 112, 0, true, 2038, 6, 0⟩
/-- the loop, and the four tables from block g on -/
def Aw (w W : World) (b g : Nat) (s : Pl.LS) : Prop :=
  Below w.heap.size w W ∧ Blk W b 46 (lvA Pl.exC s) ∧ w.heap.size ≤ b ∧ b < g ∧ Blk W g 35 awS ∧ Blk W (g + 1) 38 awW ∧ Blk W (g + 2) 3 awT ∧ Blk W (g + 3) 3 awP
section
variable {w W W' : World} {b g : Nat} {s s' : Pl.LS}
theorem Aw.on (h : Aw w W b g s) (l : Below W.heap.size W W') : Aw w W' b g s := ⟨bel_on h.1 l, h.2.1.below_ l, h.2.2.1, h.2.2.2.1, h.2.2.2.2.1.below_ l, h.2.2.2.2.2.1.below_ l, h.2.2.2.2.2.2.1.below_ l, h.2.2.2.2.2.2.2.below_ l⟩
theorem Aw.alloc (h : Aw w W b g s) (o : Obj) : Aw w (W.alloc o) b g s := h.on (bel_bx W o)
theorem Aw.drew (h : Aw w W b g s) : Aw w W.drew b g s := ⟨h.1.drew, h.2.1.drew, h.2.2.1, h.2.2.2.1, h.2.2.2.2.1.drew, h.2.2.2.2.2.1.drew, h.2.2.2.2.2.2.1.drew, h.2.2.2.2.2.2.2.drew⟩
theorem Aw.turn (h : Aw w W b g s) (l : LeftP b Pl.exC s' W W') : Aw w W' b g s' :=
  ⟨Below.only h.1 l.2 h.2.2.1 h.1.size, l.1, h.2.2.1, h.2.2.2.1, h.2.2.2.2.1.grown l.2 (fun e => by injection e with e; have := h.2.2.2.1; omega), h.2.2.2.2.2.1.grown l.2 (fun e => by injection e with e; have := h.2.2.2.1; omega), h.2.2.2.2.2.2.1.grown l.2 (fun e => by injection e with e; have := h.2.2.2.1; omega), h.2.2.2.2.2.2.2.grown l.2 (fun e => by injection e with e; have := h.2.2.2.1; omega)⟩
end

theorem aw_set {w W : World} {b g e : Nat} {s : Pl.LS} (h : Aw w W b g s) (hx : Blk W e 38 #[.int .i64 0, .int .i64 0]) (he : g + 3 < e) (u v : Value) :
    Aw w ((W.setCell ⟨e, 0, none⟩ u).setCell ⟨e, 1, none⟩ v) b g s ∧ Blk ((W.setCell ⟨e, 0, none⟩ u).setCell ⟨e, 1, none⟩ v) e 38 #[u, v] := by
  obtain ⟨h1, h2, h3, h4, h5, h6, h7, h8⟩ := h
  have F : ∀ {x : Nat} {t : TypeId} {cs : Array Value}, Blk W x t cs → x ≠ e → Blk ((W.setCell ⟨e, 0, none⟩ u).setCell ⟨e, 1, none⟩ v) x t cs := fun k q => (k.far (p := ⟨e, 0, none⟩) q u).far (p := ⟨e, 1, none⟩) q v
  have b1 := Below.setCell (p := ⟨e, 0, none⟩) h1 (by show w.heap.size ≤ e; omega) u
  have b2 := Below.setCell (p := ⟨e, 1, none⟩) b1 (by show w.heap.size ≤ e; omega) v
  refine ⟨⟨b2, F h2 (by omega), h3, h4, F h5 (by omega), F h6 (by omega), F h7 (by omega), F h8 (by omega)⟩, ?_⟩
  have := (hx.set_ 0 u).set_ 1 v
  exact this

set_option maxRecDepth 100000 in
set_option maxHeartbeats 8000000 in
theorem pawake_any (w : World) (hc : ConfAt w) : Calls Tryd.prog 13 #[] w fun e w' => e = .returned (.bool true) ∧ Below w.heap.size w w' := by
  have c0 : Pl.exC.err = 0 := by decide
  have N1 := Lib.hid (fun W => pnew_yes Pl.exC c0 W)
  have N2 := Lib.hid (fun W => pnew_no ⟨0, 0, 0, 0, 0⟩ (by decide) W)
  obtain ⟨g0, g1, g2, g3, g4, g5⟩ := hc
  go_enter Tryd.func13, Tryd.ntmps13
  go_wp2_with fail
  refine (N1.out _).mono ?_
  rintro _ w1 ⟨b, rfl, hb, hk, l1⟩
  go_wp2_with fail
  refine (N2.out _).mono ?_
  rintro _ w2 ⟨rfl, l2⟩
  have hb2 : Below w.heap.size w w2 := bel_on l1 l2
  have hk2 := hk.below_ l2
  have C0 := Lib.hid c0
  have hws := hb2.size
  have K0 : Aw w ((((w2.alloc (.cells awS 35)).alloc (.cells awW 38)).alloc (.cells awT 3)).alloc (.cells awP 3)) b w2.heap.size ⟨0, 0, 0, false, 0, 0, 0⟩ := by
    refine ⟨bel_more (bel_more (bel_more (bel_more hb2 _) _) _) _, (((hk2.alloc _).alloc _).alloc _).alloc _, hb, hk2.lt, (((Blk.new w2 _ _).alloc _).alloc _).alloc _, ?_, ?_, ?_⟩
    · have := ((Blk.new (w2.alloc (.cells awS 35)) 38 awW).alloc (.cells awT 3)).alloc (.cells awP 3)
      simpa using this
    · have := (Blk.new ((w2.alloc (.cells awS 35)).alloc (.cells awW 38)) 3 awT).alloc (.cells awP 3)
      simpa using this
    · have := Blk.new (((w2.alloc (.cells awS 35)).alloc (.cells awW 38)).alloc (.cells awT 3)) 3 awP
      simpa using this
  have HK0 := Lib.hid K0
  clear c0 hk hk2 l1 l2 hb2 K0 g0 g1 g2 g3 g4 g5 hws hb
  go_wp2_with fail
  go_loopw [6] (fun i wr => ∃ k : Nat, i = .int .i64 k ∧ k ≤ 7 ∧ Hid (Aw w wr b w2.heap.size (awL k))) (fun i _ => 7 - (RowKit.intOf i).toNat)
  case atStart => exact ⟨0, rfl, by omega, HK0⟩
  case round =>
    obtain ⟨k, rfl, hk7, hK⟩ := hrel
    by_cases hlt : k < 7
    · rcases (by omega : k = 0 ∨ k = 1 ∨ k = 2 ∨ k = 3 ∨ k = 4 ∨ k = 5 ∨ k = 6) with rfl | rfl | rfl | rfl | rfl | rfl | rfl
      · have K : Aw w wr b w2.heap.size ⟨0, 0, 0, false, 0, 0, 0⟩ := hK.out
        have UP := Lib.hid (pupdate_at (c := Pl.exC) (s := ⟨0, 0, 0, false, 0, 0, 0⟩) (S := ⟨1, 0, 1000, true, 10, 6, 0⟩) (t := 10) (o := 1000) (po := 6) (k := 1) (v := 0) (e := 0) C0.out (by unfold Pl.LInv; decide) (by kernel_rfl) (by kernel_rfl))
        have c0 : wr.cell? ⟨w2.heap.size, 0, none⟩ = some (.int .i64 0) := K.2.2.2.2.1.cell 0
        have z0 := K.2.2.2.2.1.lt
        have z1 := K.2.2.2.2.2.1.lt
        have z2 := K.2.2.2.2.2.2.1.lt
        have z3 := K.2.2.2.2.2.2.2.lt
        clear hK
        go_upto_region 13 with fail
        go_cut [7, 8] (fun v7 v8 wx => ∃ e, v7 = .pointer (some ⟨e, 0, none⟩) ∧ v8 = .int .i64 0 ∧ Hid (Aw w wx b w2.heap.size ⟨1, 0, 1000, true, 10, 6, 0⟩ ∧ Blk wx e 38 #[.int .i64 1, .int .i64 0]))
        case first =>
          go_region_held3 (fun w' => w'.cell? ⟨w2.heap.size, 1, none⟩ = some (.int .i64 10) ∧ w'.cell? ⟨w2.heap.size, 2, none⟩ = some (.int .i64 1000) ∧ w'.cell? ⟨w2.heap.size, 3, none⟩ = some (.int .i64 6)) (first | exact ⟨K.2.2.2.2.1.cell 1, K.2.2.2.2.1.cell 2, K.2.2.2.2.1.cell 3⟩ | exact ⟨K.drew.2.2.2.2.1.cell 1, K.drew.2.2.2.2.1.cell 2, K.drew.2.2.2.2.1.cell 3⟩ | exact ⟨(K.alloc _).2.2.2.2.1.cell 1, (K.alloc _).2.2.2.2.1.cell 2, (K.alloc _).2.2.2.2.1.cell 3⟩ | exact ⟨(K.alloc _).drew.2.2.2.2.1.cell 1, (K.alloc _).drew.2.2.2.2.1.cell 2, (K.alloc _).drew.2.2.2.2.1.cell 3⟩ | exact ⟨(aw_set K hx d5 _ _).1.2.2.2.2.1.cell 1, (aw_set K hx d5 _ _).1.2.2.2.2.1.cell 2, (aw_set K hx d5 _ _).1.2.2.2.2.1.cell 3⟩ | go_keep) ((go_at_call 18; first
            | (refine (UP.out b _ K.2.1).mono ?_; rintro _ w6 ⟨rfl, l6⟩; have K : Aw w w6 b w2.heap.size ⟨1, 0, 1000, true, 10, 6, 0⟩ := K.turn l6)
            | (refine (UP.out b _ K.drew.2.1).mono ?_; rintro _ w6 ⟨rfl, l6⟩; have K : Aw w w6 b w2.heap.size ⟨1, 0, 1000, true, 10, 6, 0⟩ := K.drew.turn l6)
            | (refine (UP.out b _ (K.alloc _).drew.2.1).mono ?_; rintro _ w6 ⟨rfl, l6⟩; have hx := (Blk.new wr 38 #[.int .i64 0, .int .i64 0]).drew.grown l6.2 (fun e => by injection e with e; have := K.2.1.lt; omega); have d0 : w6.cell? ⟨wr.heap.size, 0, none⟩ = some (.int .i64 0) := hx.cell 0; have d1 : w6.cell? ⟨wr.heap.size, 1, none⟩ = some (.int .i64 0) := hx.cell 1; have d2 := hx.frozen 0; have d3 := hx.frozen 1; have d4 := hx.lt; have d5 := z3; have K : Aw w w6 b w2.heap.size ⟨1, 0, 1000, true, 10, 6, 0⟩ := (K.alloc _).drew.turn l6)))
          all_goals (
            go_wp2_with fail
            go_meet
            first
              | exact ⟨_, rfl, rfl, Lib.hid ⟨(K.alloc _).drew, (Blk.new _ _ _).drew⟩⟩
              | exact ⟨_, rfl, rfl, Lib.hid ⟨K.alloc _, Blk.new _ _ _⟩⟩
              | exact ⟨_, rfl, rfl, Lib.hid (aw_set K hx d5 _ _)⟩)
        case rest =>
          obtain ⟨e, rfl, rfl, HK6⟩ := hcut
          clear K UP c0 z0 z1 z2 z3
          have K := HK6.out
          have z1 := K.1.2.2.2.2.2.1.lt
          have z2 := K.1.2.2.2.2.2.2.1.lt
          have z3 := K.1.2.2.2.2.2.2.2.lt
          have z4 := K.2.lt
          go_wp2_with fail
          go_region_held3 (fun w' => (w'.cell? ⟨w2.heap.size + 1, 0, none⟩ = some (.int .i64 1) ∧ w'.cell? ⟨w2.heap.size + 1, 1, none⟩ = some (.int .i64 0) ∧ w'.cell? ⟨w2.heap.size + 2, 0, none⟩ = some (.int .i64 1) ∧ w'.cell? ⟨w2.heap.size + 3, 0, none⟩ = some (.int .i64 1000)) ∧ w'.cell? ⟨e, 0, none⟩ = some (.int .i64 1) ∧ w'.cell? ⟨e, 1, none⟩ = some (.int .i64 0)) (first | exact ⟨⟨K.1.2.2.2.2.2.1.cell 0, K.1.2.2.2.2.2.1.cell 1, K.1.2.2.2.2.2.2.1.cell 0, K.1.2.2.2.2.2.2.2.cell 0⟩, K.2.cell 0, K.2.cell 1⟩ | exact ⟨⟨K.1.drew.2.2.2.2.2.1.cell 0, K.1.drew.2.2.2.2.2.1.cell 1, K.1.drew.2.2.2.2.2.2.1.cell 0, K.1.drew.2.2.2.2.2.2.2.cell 0⟩, K.2.drew.cell 0, K.2.drew.cell 1⟩) ((first
            | (go_at_call 20; refine (pstate_any b Pl.exC ⟨1, 0, 1000, true, 10, 6, 0⟩ _ (by first | exact K.1.2.1 | exact K.1.drew.2.1)).mono ?_; rintro _ w7 ⟨rfl, rfl⟩)
            | (go_at_call 24; refine (pphase_any b Pl.exC ⟨1, 0, 1000, true, 10, 6, 0⟩ _ (by first | exact K.1.2.1 | exact K.1.drew.2.1)).mono ?_; rintro _ w7 ⟨rfl, rfl⟩)))
          all_goals (
            go_wp2_with fail
            go_roundw
            case rel => exact ⟨1, rfl, by omega, Lib.hid K.1.drew⟩
            case measure => simp [RowKit.intOf])
      · have K : Aw w wr b w2.heap.size ⟨1, 0, 1000, true, 10, 6, 0⟩ := hK.out
        have UP := Lib.hid (pupdate_at (c := Pl.exC) (s := ⟨1, 0, 1000, true, 10, 6, 0⟩) (S := ⟨1, 0, 1000, true, 10, 6, 0⟩) (t := 100) (o := 5000) (po := 6) (k := 0) (v := 0) (e := 0) C0.out (by unfold Pl.LInv; decide) (by kernel_rfl) (by kernel_rfl))
        have c0 : wr.cell? ⟨w2.heap.size, 4, none⟩ = some (.int .i64 0) := K.2.2.2.2.1.cell 4
        have z0 := K.2.2.2.2.1.lt
        have z1 := K.2.2.2.2.2.1.lt
        have z2 := K.2.2.2.2.2.2.1.lt
        have z3 := K.2.2.2.2.2.2.2.lt
        clear hK
        go_upto_region 13 with fail
        go_cut [7, 8] (fun v7 v8 wx => ∃ e, v7 = .pointer (some ⟨e, 0, none⟩) ∧ v8 = .int .i64 0 ∧ Hid (Aw w wx b w2.heap.size ⟨1, 0, 1000, true, 10, 6, 0⟩ ∧ Blk wx e 38 #[.int .i64 0, .int .i64 0]))
        case first =>
          go_region_held3 (fun w' => w'.cell? ⟨w2.heap.size, 5, none⟩ = some (.int .i64 100) ∧ w'.cell? ⟨w2.heap.size, 6, none⟩ = some (.int .i64 5000) ∧ w'.cell? ⟨w2.heap.size, 7, none⟩ = some (.int .i64 6)) (first | exact ⟨K.2.2.2.2.1.cell 5, K.2.2.2.2.1.cell 6, K.2.2.2.2.1.cell 7⟩ | exact ⟨K.drew.2.2.2.2.1.cell 5, K.drew.2.2.2.2.1.cell 6, K.drew.2.2.2.2.1.cell 7⟩ | exact ⟨(K.alloc _).2.2.2.2.1.cell 5, (K.alloc _).2.2.2.2.1.cell 6, (K.alloc _).2.2.2.2.1.cell 7⟩ | exact ⟨(K.alloc _).drew.2.2.2.2.1.cell 5, (K.alloc _).drew.2.2.2.2.1.cell 6, (K.alloc _).drew.2.2.2.2.1.cell 7⟩ | exact ⟨(aw_set K hx d5 _ _).1.2.2.2.2.1.cell 5, (aw_set K hx d5 _ _).1.2.2.2.2.1.cell 6, (aw_set K hx d5 _ _).1.2.2.2.2.1.cell 7⟩ | go_keep) ((go_at_call 18; first
            | (refine (UP.out b _ K.2.1).mono ?_; rintro _ w6 ⟨rfl, l6⟩; have K : Aw w w6 b w2.heap.size ⟨1, 0, 1000, true, 10, 6, 0⟩ := K.turn l6)
            | (refine (UP.out b _ K.drew.2.1).mono ?_; rintro _ w6 ⟨rfl, l6⟩; have K : Aw w w6 b w2.heap.size ⟨1, 0, 1000, true, 10, 6, 0⟩ := K.drew.turn l6)
            | (refine (UP.out b _ (K.alloc _).drew.2.1).mono ?_; rintro _ w6 ⟨rfl, l6⟩; have hx := (Blk.new wr 38 #[.int .i64 0, .int .i64 0]).drew.grown l6.2 (fun e => by injection e with e; have := K.2.1.lt; omega); have d0 : w6.cell? ⟨wr.heap.size, 0, none⟩ = some (.int .i64 0) := hx.cell 0; have d1 : w6.cell? ⟨wr.heap.size, 1, none⟩ = some (.int .i64 0) := hx.cell 1; have d2 := hx.frozen 0; have d3 := hx.frozen 1; have d4 := hx.lt; have d5 := z3; have K : Aw w w6 b w2.heap.size ⟨1, 0, 1000, true, 10, 6, 0⟩ := (K.alloc _).drew.turn l6)))
          all_goals (
            go_wp2_with fail
            go_meet
            first
              | exact ⟨_, rfl, rfl, Lib.hid ⟨(K.alloc _).drew, (Blk.new _ _ _).drew⟩⟩
              | exact ⟨_, rfl, rfl, Lib.hid ⟨K.alloc _, Blk.new _ _ _⟩⟩
              | exact ⟨_, rfl, rfl, Lib.hid (aw_set K hx d5 _ _)⟩)
        case rest =>
          obtain ⟨e, rfl, rfl, HK6⟩ := hcut
          clear K UP c0 z0 z1 z2 z3
          have K := HK6.out
          have z1 := K.1.2.2.2.2.2.1.lt
          have z2 := K.1.2.2.2.2.2.2.1.lt
          have z3 := K.1.2.2.2.2.2.2.2.lt
          have z4 := K.2.lt
          go_wp2_with fail
          go_region_held3 (fun w' => (w'.cell? ⟨w2.heap.size + 1, 2, none⟩ = some (.int .i64 0) ∧ w'.cell? ⟨w2.heap.size + 1, 3, none⟩ = some (.int .i64 0) ∧ w'.cell? ⟨w2.heap.size + 2, 1, none⟩ = some (.int .i64 1) ∧ w'.cell? ⟨w2.heap.size + 3, 1, none⟩ = some (.int .i64 1000)) ∧ w'.cell? ⟨e, 0, none⟩ = some (.int .i64 0) ∧ w'.cell? ⟨e, 1, none⟩ = some (.int .i64 0)) (first | exact ⟨⟨K.1.2.2.2.2.2.1.cell 2, K.1.2.2.2.2.2.1.cell 3, K.1.2.2.2.2.2.2.1.cell 1, K.1.2.2.2.2.2.2.2.cell 1⟩, K.2.cell 0, K.2.cell 1⟩ | exact ⟨⟨K.1.drew.2.2.2.2.2.1.cell 2, K.1.drew.2.2.2.2.2.1.cell 3, K.1.drew.2.2.2.2.2.2.1.cell 1, K.1.drew.2.2.2.2.2.2.2.cell 1⟩, K.2.drew.cell 0, K.2.drew.cell 1⟩) ((first
            | (go_at_call 20; refine (pstate_any b Pl.exC ⟨1, 0, 1000, true, 10, 6, 0⟩ _ (by first | exact K.1.2.1 | exact K.1.drew.2.1)).mono ?_; rintro _ w7 ⟨rfl, rfl⟩)
            | (go_at_call 24; refine (pphase_any b Pl.exC ⟨1, 0, 1000, true, 10, 6, 0⟩ _ (by first | exact K.1.2.1 | exact K.1.drew.2.1)).mono ?_; rintro _ w7 ⟨rfl, rfl⟩)))
          all_goals (
            go_wp2_with fail
            go_roundw
            case rel => exact ⟨2, rfl, by omega, Lib.hid K.1.drew⟩
            case measure => simp [RowKit.intOf])
      · have K : Aw w wr b w2.heap.size ⟨1, 0, 1000, true, 10, 6, 0⟩ := hK.out
        have UP := Lib.hid (pupdate_at (c := Pl.exC) (s := ⟨1, 0, 1000, true, 10, 6, 0⟩) (S := ⟨3, 50, 50000, true, 1010, 6, 0⟩) (t := 1010) (o := 50000) (po := 6) (k := 1) (v := 50) (e := 0) C0.out (by unfold Pl.LInv; decide) (by kernel_rfl) (by kernel_rfl))
        have c0 : wr.cell? ⟨w2.heap.size, 8, none⟩ = some (.int .i64 0) := K.2.2.2.2.1.cell 8
        have z0 := K.2.2.2.2.1.lt
        have z1 := K.2.2.2.2.2.1.lt
        have z2 := K.2.2.2.2.2.2.1.lt
        have z3 := K.2.2.2.2.2.2.2.lt
        clear hK
        go_upto_region 13 with fail
        go_cut [7, 8] (fun v7 v8 wx => ∃ e, v7 = .pointer (some ⟨e, 0, none⟩) ∧ v8 = .int .i64 0 ∧ Hid (Aw w wx b w2.heap.size ⟨3, 50, 50000, true, 1010, 6, 0⟩ ∧ Blk wx e 38 #[.int .i64 1, .int .i64 50]))
        case first =>
          go_region_held3 (fun w' => w'.cell? ⟨w2.heap.size, 9, none⟩ = some (.int .i64 1010) ∧ w'.cell? ⟨w2.heap.size, 10, none⟩ = some (.int .i64 50000) ∧ w'.cell? ⟨w2.heap.size, 11, none⟩ = some (.int .i64 6)) (first | exact ⟨K.2.2.2.2.1.cell 9, K.2.2.2.2.1.cell 10, K.2.2.2.2.1.cell 11⟩ | exact ⟨K.drew.2.2.2.2.1.cell 9, K.drew.2.2.2.2.1.cell 10, K.drew.2.2.2.2.1.cell 11⟩ | exact ⟨(K.alloc _).2.2.2.2.1.cell 9, (K.alloc _).2.2.2.2.1.cell 10, (K.alloc _).2.2.2.2.1.cell 11⟩ | exact ⟨(K.alloc _).drew.2.2.2.2.1.cell 9, (K.alloc _).drew.2.2.2.2.1.cell 10, (K.alloc _).drew.2.2.2.2.1.cell 11⟩ | exact ⟨(aw_set K hx d5 _ _).1.2.2.2.2.1.cell 9, (aw_set K hx d5 _ _).1.2.2.2.2.1.cell 10, (aw_set K hx d5 _ _).1.2.2.2.2.1.cell 11⟩ | go_keep) ((go_at_call 18; first
            | (refine (UP.out b _ K.2.1).mono ?_; rintro _ w6 ⟨rfl, l6⟩; have K : Aw w w6 b w2.heap.size ⟨3, 50, 50000, true, 1010, 6, 0⟩ := K.turn l6)
            | (refine (UP.out b _ K.drew.2.1).mono ?_; rintro _ w6 ⟨rfl, l6⟩; have K : Aw w w6 b w2.heap.size ⟨3, 50, 50000, true, 1010, 6, 0⟩ := K.drew.turn l6)
            | (refine (UP.out b _ (K.alloc _).drew.2.1).mono ?_; rintro _ w6 ⟨rfl, l6⟩; have hx := (Blk.new wr 38 #[.int .i64 0, .int .i64 0]).drew.grown l6.2 (fun e => by injection e with e; have := K.2.1.lt; omega); have d0 : w6.cell? ⟨wr.heap.size, 0, none⟩ = some (.int .i64 0) := hx.cell 0; have d1 : w6.cell? ⟨wr.heap.size, 1, none⟩ = some (.int .i64 0) := hx.cell 1; have d2 := hx.frozen 0; have d3 := hx.frozen 1; have d4 := hx.lt; have d5 := z3; have K : Aw w w6 b w2.heap.size ⟨3, 50, 50000, true, 1010, 6, 0⟩ := (K.alloc _).drew.turn l6)))
          all_goals (
            go_wp2_with fail
            go_meet
            first
              | exact ⟨_, rfl, rfl, Lib.hid ⟨(K.alloc _).drew, (Blk.new _ _ _).drew⟩⟩
              | exact ⟨_, rfl, rfl, Lib.hid ⟨K.alloc _, Blk.new _ _ _⟩⟩
              | exact ⟨_, rfl, rfl, Lib.hid (aw_set K hx d5 _ _)⟩)
        case rest =>
          obtain ⟨e, rfl, rfl, HK6⟩ := hcut
          clear K UP c0 z0 z1 z2 z3
          have K := HK6.out
          have z1 := K.1.2.2.2.2.2.1.lt
          have z2 := K.1.2.2.2.2.2.2.1.lt
          have z3 := K.1.2.2.2.2.2.2.2.lt
          have z4 := K.2.lt
          go_wp2_with fail
          go_region_held3 (fun w' => (w'.cell? ⟨w2.heap.size + 1, 4, none⟩ = some (.int .i64 1) ∧ w'.cell? ⟨w2.heap.size + 1, 5, none⟩ = some (.int .i64 50) ∧ w'.cell? ⟨w2.heap.size + 2, 2, none⟩ = some (.int .i64 3) ∧ w'.cell? ⟨w2.heap.size + 3, 2, none⟩ = some (.int .i64 50000)) ∧ w'.cell? ⟨e, 0, none⟩ = some (.int .i64 1) ∧ w'.cell? ⟨e, 1, none⟩ = some (.int .i64 50)) (first | exact ⟨⟨K.1.2.2.2.2.2.1.cell 4, K.1.2.2.2.2.2.1.cell 5, K.1.2.2.2.2.2.2.1.cell 2, K.1.2.2.2.2.2.2.2.cell 2⟩, K.2.cell 0, K.2.cell 1⟩ | exact ⟨⟨K.1.drew.2.2.2.2.2.1.cell 4, K.1.drew.2.2.2.2.2.1.cell 5, K.1.drew.2.2.2.2.2.2.1.cell 2, K.1.drew.2.2.2.2.2.2.2.cell 2⟩, K.2.drew.cell 0, K.2.drew.cell 1⟩) ((first
            | (go_at_call 20; refine (pstate_any b Pl.exC ⟨3, 50, 50000, true, 1010, 6, 0⟩ _ (by first | exact K.1.2.1 | exact K.1.drew.2.1)).mono ?_; rintro _ w7 ⟨rfl, rfl⟩)
            | (go_at_call 24; refine (pphase_any b Pl.exC ⟨3, 50, 50000, true, 1010, 6, 0⟩ _ (by first | exact K.1.2.1 | exact K.1.drew.2.1)).mono ?_; rintro _ w7 ⟨rfl, rfl⟩)))
          all_goals (
            go_wp2_with fail
            go_roundw
            case rel => exact ⟨3, rfl, by omega, Lib.hid K.1.drew⟩
            case measure => simp [RowKit.intOf])
      · have K : Aw w wr b w2.heap.size ⟨3, 50, 50000, true, 1010, 6, 0⟩ := hK.out
        have UP := Lib.hid (pupdate_at (c := Pl.exC) (s := ⟨3, 50, 50000, true, 1010, 6, 0⟩) (S := ⟨3, 112, 64000, true, 1074, 6, 0⟩) (t := 1074) (o := 64000) (po := 6) (k := 1) (v := 112) (e := 0) C0.out (by unfold Pl.LInv; decide) (by kernel_rfl) (by kernel_rfl))
        have c0 : wr.cell? ⟨w2.heap.size, 12, none⟩ = some (.int .i64 0) := K.2.2.2.2.1.cell 12
        have z0 := K.2.2.2.2.1.lt
        have z1 := K.2.2.2.2.2.1.lt
        have z2 := K.2.2.2.2.2.2.1.lt
        have z3 := K.2.2.2.2.2.2.2.lt
        clear hK
        go_upto_region 13 with fail
        go_cut [7, 8] (fun v7 v8 wx => ∃ e, v7 = .pointer (some ⟨e, 0, none⟩) ∧ v8 = .int .i64 0 ∧ Hid (Aw w wx b w2.heap.size ⟨3, 112, 64000, true, 1074, 6, 0⟩ ∧ Blk wx e 38 #[.int .i64 1, .int .i64 112]))
        case first =>
          go_region_held3 (fun w' => w'.cell? ⟨w2.heap.size, 13, none⟩ = some (.int .i64 1074) ∧ w'.cell? ⟨w2.heap.size, 14, none⟩ = some (.int .i64 64000) ∧ w'.cell? ⟨w2.heap.size, 15, none⟩ = some (.int .i64 6)) (first | exact ⟨K.2.2.2.2.1.cell 13, K.2.2.2.2.1.cell 14, K.2.2.2.2.1.cell 15⟩ | exact ⟨K.drew.2.2.2.2.1.cell 13, K.drew.2.2.2.2.1.cell 14, K.drew.2.2.2.2.1.cell 15⟩ | exact ⟨(K.alloc _).2.2.2.2.1.cell 13, (K.alloc _).2.2.2.2.1.cell 14, (K.alloc _).2.2.2.2.1.cell 15⟩ | exact ⟨(K.alloc _).drew.2.2.2.2.1.cell 13, (K.alloc _).drew.2.2.2.2.1.cell 14, (K.alloc _).drew.2.2.2.2.1.cell 15⟩ | exact ⟨(aw_set K hx d5 _ _).1.2.2.2.2.1.cell 13, (aw_set K hx d5 _ _).1.2.2.2.2.1.cell 14, (aw_set K hx d5 _ _).1.2.2.2.2.1.cell 15⟩ | go_keep) ((go_at_call 18; first
            | (refine (UP.out b _ K.2.1).mono ?_; rintro _ w6 ⟨rfl, l6⟩; have K : Aw w w6 b w2.heap.size ⟨3, 112, 64000, true, 1074, 6, 0⟩ := K.turn l6)
            | (refine (UP.out b _ K.drew.2.1).mono ?_; rintro _ w6 ⟨rfl, l6⟩; have K : Aw w w6 b w2.heap.size ⟨3, 112, 64000, true, 1074, 6, 0⟩ := K.drew.turn l6)
            | (refine (UP.out b _ (K.alloc _).drew.2.1).mono ?_; rintro _ w6 ⟨rfl, l6⟩; have hx := (Blk.new wr 38 #[.int .i64 0, .int .i64 0]).drew.grown l6.2 (fun e => by injection e with e; have := K.2.1.lt; omega); have d0 : w6.cell? ⟨wr.heap.size, 0, none⟩ = some (.int .i64 0) := hx.cell 0; have d1 : w6.cell? ⟨wr.heap.size, 1, none⟩ = some (.int .i64 0) := hx.cell 1; have d2 := hx.frozen 0; have d3 := hx.frozen 1; have d4 := hx.lt; have d5 := z3; have K : Aw w w6 b w2.heap.size ⟨3, 112, 64000, true, 1074, 6, 0⟩ := (K.alloc _).drew.turn l6)))
          all_goals (
            go_wp2_with fail
            go_meet
            first
              | exact ⟨_, rfl, rfl, Lib.hid ⟨(K.alloc _).drew, (Blk.new _ _ _).drew⟩⟩
              | exact ⟨_, rfl, rfl, Lib.hid ⟨K.alloc _, Blk.new _ _ _⟩⟩
              | exact ⟨_, rfl, rfl, Lib.hid (aw_set K hx d5 _ _)⟩)
        case rest =>
          obtain ⟨e, rfl, rfl, HK6⟩ := hcut
          clear K UP c0 z0 z1 z2 z3
          have K := HK6.out
          have z1 := K.1.2.2.2.2.2.1.lt
          have z2 := K.1.2.2.2.2.2.2.1.lt
          have z3 := K.1.2.2.2.2.2.2.2.lt
          have z4 := K.2.lt
          go_wp2_with fail
          go_region_held3 (fun w' => (w'.cell? ⟨w2.heap.size + 1, 6, none⟩ = some (.int .i64 1) ∧ w'.cell? ⟨w2.heap.size + 1, 7, none⟩ = some (.int .i64 112) ∧ w'.cell? ⟨w2.heap.size + 2, 3, none⟩ = some (.int .i64 3) ∧ w'.cell? ⟨w2.heap.size + 3, 3, none⟩ = some (.int .i64 64000)) ∧ w'.cell? ⟨e, 0, none⟩ = some (.int .i64 1) ∧ w'.cell? ⟨e, 1, none⟩ = some (.int .i64 112)) (first | exact ⟨⟨K.1.2.2.2.2.2.1.cell 6, K.1.2.2.2.2.2.1.cell 7, K.1.2.2.2.2.2.2.1.cell 3, K.1.2.2.2.2.2.2.2.cell 3⟩, K.2.cell 0, K.2.cell 1⟩ | exact ⟨⟨K.1.drew.2.2.2.2.2.1.cell 6, K.1.drew.2.2.2.2.2.1.cell 7, K.1.drew.2.2.2.2.2.2.1.cell 3, K.1.drew.2.2.2.2.2.2.2.cell 3⟩, K.2.drew.cell 0, K.2.drew.cell 1⟩) ((first
            | (go_at_call 20; refine (pstate_any b Pl.exC ⟨3, 112, 64000, true, 1074, 6, 0⟩ _ (by first | exact K.1.2.1 | exact K.1.drew.2.1)).mono ?_; rintro _ w7 ⟨rfl, rfl⟩)
            | (go_at_call 24; refine (pphase_any b Pl.exC ⟨3, 112, 64000, true, 1074, 6, 0⟩ _ (by first | exact K.1.2.1 | exact K.1.drew.2.1)).mono ?_; rintro _ w7 ⟨rfl, rfl⟩)))
          all_goals (
            go_wp2_with fail
            go_roundw
            case rel => exact ⟨4, rfl, by omega, Lib.hid K.1.drew⟩
            case measure => simp [RowKit.intOf])
      · have K : Aw w wr b w2.heap.size ⟨3, 112, 64000, true, 1074, 6, 0⟩ := hK.out
        have UP := Lib.hid (pupdate_at (c := Pl.exC) (s := ⟨3, 112, 63938, true, 1074, 6, 0⟩) (S := ⟨2, 112, 63938, true, 1138, 6, 1138⟩) (t := 1138) (o := 128000000) (po := 6) (k := 0) (v := 0) (e := 0) C0.out (by unfold Pl.LInv; decide) (by kernel_rfl) (by kernel_rfl))
        have c0 : wr.cell? ⟨w2.heap.size, 16, none⟩ = some (.int .i64 1) := K.2.2.2.2.1.cell 16
        have z0 := K.2.2.2.2.1.lt
        have z1 := K.2.2.2.2.2.1.lt
        have z2 := K.2.2.2.2.2.2.1.lt
        have z3 := K.2.2.2.2.2.2.2.lt
        clear hK
        go_wp2_with fail
        refine ((ptick_any b Pl.exC ⟨3, 112, 64000, true, 1074, 6, 0⟩ _ K.2.1 C0.out (by unfold Pl.LInv; decide)).mono ?_)
        rintro _ w5 ⟨rfl, l5⟩
        have e5 : Pl.tk Pl.exC ⟨3, 112, 64000, true, 1074, 6, 0⟩ = 62 := by kernel_rfl
        have K : Aw w w5 b w2.heap.size ⟨3, 112, 63938, true, 1074, 6, 0⟩ := K.turn l5
        rw [e5]
        clear l5 c0 z0 z1 z2 z3
        have c0 := K.2.1.lt
        have z0 := K.2.2.2.2.1.lt
        have z1 := K.2.2.2.2.2.1.lt
        have z2 := K.2.2.2.2.2.2.1.lt
        have z3 := K.2.2.2.2.2.2.2.lt
        go_upto_region 13 with fail
        go_cut [7, 8] (fun v7 v8 wx => ∃ e, v7 = .pointer (some ⟨e, 0, none⟩) ∧ v8 = .int .i64 0 ∧ Hid (Aw w wx b w2.heap.size ⟨2, 112, 63938, true, 1138, 6, 1138⟩ ∧ Blk wx e 38 #[.int .i64 0, .int .i64 0]))
        case first =>
          go_region_held3 (fun w' => w'.cell? ⟨w2.heap.size, 17, none⟩ = some (.int .i64 1138) ∧ w'.cell? ⟨w2.heap.size, 18, none⟩ = some (.int .i64 128000000) ∧ w'.cell? ⟨w2.heap.size, 19, none⟩ = some (.int .i64 6)) (first | exact ⟨K.2.2.2.2.1.cell 17, K.2.2.2.2.1.cell 18, K.2.2.2.2.1.cell 19⟩ | exact ⟨K.drew.2.2.2.2.1.cell 17, K.drew.2.2.2.2.1.cell 18, K.drew.2.2.2.2.1.cell 19⟩ | exact ⟨(K.alloc _).2.2.2.2.1.cell 17, (K.alloc _).2.2.2.2.1.cell 18, (K.alloc _).2.2.2.2.1.cell 19⟩ | exact ⟨(K.alloc _).drew.2.2.2.2.1.cell 17, (K.alloc _).drew.2.2.2.2.1.cell 18, (K.alloc _).drew.2.2.2.2.1.cell 19⟩ | exact ⟨(aw_set K hx d5 _ _).1.2.2.2.2.1.cell 17, (aw_set K hx d5 _ _).1.2.2.2.2.1.cell 18, (aw_set K hx d5 _ _).1.2.2.2.2.1.cell 19⟩ | go_keep) ((go_at_call 18; first
            | (refine (UP.out b _ K.2.1).mono ?_; rintro _ w6 ⟨rfl, l6⟩; have K : Aw w w6 b w2.heap.size ⟨2, 112, 63938, true, 1138, 6, 1138⟩ := K.turn l6)
            | (refine (UP.out b _ K.drew.2.1).mono ?_; rintro _ w6 ⟨rfl, l6⟩; have K : Aw w w6 b w2.heap.size ⟨2, 112, 63938, true, 1138, 6, 1138⟩ := K.drew.turn l6)
            | (refine (UP.out b _ (K.alloc _).drew.2.1).mono ?_; rintro _ w6 ⟨rfl, l6⟩; have hx := (Blk.new w5 38 #[.int .i64 0, .int .i64 0]).drew.grown l6.2 (fun e => by injection e with e; have := K.2.1.lt; omega); have d0 : w6.cell? ⟨w5.heap.size, 0, none⟩ = some (.int .i64 0) := hx.cell 0; have d1 : w6.cell? ⟨w5.heap.size, 1, none⟩ = some (.int .i64 0) := hx.cell 1; have d2 := hx.frozen 0; have d3 := hx.frozen 1; have d4 := hx.lt; have d5 := z3; have K : Aw w w6 b w2.heap.size ⟨2, 112, 63938, true, 1138, 6, 1138⟩ := (K.alloc _).drew.turn l6)))
          all_goals (
            go_wp2_with fail
            go_meet
            first
              | exact ⟨_, rfl, rfl, Lib.hid ⟨(K.alloc _).drew, (Blk.new _ _ _).drew⟩⟩
              | exact ⟨_, rfl, rfl, Lib.hid ⟨K.alloc _, Blk.new _ _ _⟩⟩
              | exact ⟨_, rfl, rfl, Lib.hid (aw_set K hx d5 _ _)⟩)
        case rest =>
          obtain ⟨e, rfl, rfl, HK6⟩ := hcut
          clear K UP c0 z0 z1 z2 z3
          have K := HK6.out
          have z1 := K.1.2.2.2.2.2.1.lt
          have z2 := K.1.2.2.2.2.2.2.1.lt
          have z3 := K.1.2.2.2.2.2.2.2.lt
          have z4 := K.2.lt
          go_wp2_with fail
          go_region_held3 (fun w' => (w'.cell? ⟨w2.heap.size + 1, 8, none⟩ = some (.int .i64 0) ∧ w'.cell? ⟨w2.heap.size + 1, 9, none⟩ = some (.int .i64 0) ∧ w'.cell? ⟨w2.heap.size + 2, 4, none⟩ = some (.int .i64 2) ∧ w'.cell? ⟨w2.heap.size + 3, 4, none⟩ = some (.int .i64 63938)) ∧ w'.cell? ⟨e, 0, none⟩ = some (.int .i64 0) ∧ w'.cell? ⟨e, 1, none⟩ = some (.int .i64 0)) (first | exact ⟨⟨K.1.2.2.2.2.2.1.cell 8, K.1.2.2.2.2.2.1.cell 9, K.1.2.2.2.2.2.2.1.cell 4, K.1.2.2.2.2.2.2.2.cell 4⟩, K.2.cell 0, K.2.cell 1⟩ | exact ⟨⟨K.1.drew.2.2.2.2.2.1.cell 8, K.1.drew.2.2.2.2.2.1.cell 9, K.1.drew.2.2.2.2.2.2.1.cell 4, K.1.drew.2.2.2.2.2.2.2.cell 4⟩, K.2.drew.cell 0, K.2.drew.cell 1⟩) ((first
            | (go_at_call 20; refine (pstate_any b Pl.exC ⟨2, 112, 63938, true, 1138, 6, 1138⟩ _ (by first | exact K.1.2.1 | exact K.1.drew.2.1)).mono ?_; rintro _ w7 ⟨rfl, rfl⟩)
            | (go_at_call 24; refine (pphase_any b Pl.exC ⟨2, 112, 63938, true, 1138, 6, 1138⟩ _ (by first | exact K.1.2.1 | exact K.1.drew.2.1)).mono ?_; rintro _ w7 ⟨rfl, rfl⟩)))
          all_goals (
            go_wp2_with fail
            go_roundw
            case rel => exact ⟨5, rfl, by omega, Lib.hid K.1.drew⟩
            case measure => simp [RowKit.intOf])
      · have K : Aw w wr b w2.heap.size ⟨2, 112, 63938, true, 1138, 6, 1138⟩ := hK.out
        have UP := Lib.hid (pupdate_at (c := Pl.exC) (s := ⟨2, 112, 63938, true, 1138, 6, 1138⟩) (S := ⟨2, 112, 63938, true, 2037, 6, 1138⟩) (t := 2037) (o := (-128000000)) (po := 6) (k := 0) (v := 0) (e := 0) C0.out (by unfold Pl.LInv; decide) (by kernel_rfl) (by kernel_rfl))
        have c0 : wr.cell? ⟨w2.heap.size, 20, none⟩ = some (.int .i64 0) := K.2.2.2.2.1.cell 20
        have z0 := K.2.2.2.2.1.lt
        have z1 := K.2.2.2.2.2.1.lt
        have z2 := K.2.2.2.2.2.2.1.lt
        have z3 := K.2.2.2.2.2.2.2.lt
        clear hK
        go_upto_region 13 with fail
        go_cut [7, 8] (fun v7 v8 wx => ∃ e, v7 = .pointer (some ⟨e, 0, none⟩) ∧ v8 = .int .i64 0 ∧ Hid (Aw w wx b w2.heap.size ⟨2, 112, 63938, true, 2037, 6, 1138⟩ ∧ Blk wx e 38 #[.int .i64 0, .int .i64 0]))
        case first =>
          go_region_held3 (fun w' => w'.cell? ⟨w2.heap.size, 21, none⟩ = some (.int .i64 2037) ∧ w'.cell? ⟨w2.heap.size, 22, none⟩ = some (.int .i64 (-128000000)) ∧ w'.cell? ⟨w2.heap.size, 23, none⟩ = some (.int .i64 6)) (first | exact ⟨K.2.2.2.2.1.cell 21, K.2.2.2.2.1.cell 22, K.2.2.2.2.1.cell 23⟩ | exact ⟨K.drew.2.2.2.2.1.cell 21, K.drew.2.2.2.2.1.cell 22, K.drew.2.2.2.2.1.cell 23⟩ | exact ⟨(K.alloc _).2.2.2.2.1.cell 21, (K.alloc _).2.2.2.2.1.cell 22, (K.alloc _).2.2.2.2.1.cell 23⟩ | exact ⟨(K.alloc _).drew.2.2.2.2.1.cell 21, (K.alloc _).drew.2.2.2.2.1.cell 22, (K.alloc _).drew.2.2.2.2.1.cell 23⟩ | exact ⟨(aw_set K hx d5 _ _).1.2.2.2.2.1.cell 21, (aw_set K hx d5 _ _).1.2.2.2.2.1.cell 22, (aw_set K hx d5 _ _).1.2.2.2.2.1.cell 23⟩ | go_keep) ((go_at_call 18; first
            | (refine (UP.out b _ K.2.1).mono ?_; rintro _ w6 ⟨rfl, l6⟩; have K : Aw w w6 b w2.heap.size ⟨2, 112, 63938, true, 2037, 6, 1138⟩ := K.turn l6)
            | (refine (UP.out b _ K.drew.2.1).mono ?_; rintro _ w6 ⟨rfl, l6⟩; have K : Aw w w6 b w2.heap.size ⟨2, 112, 63938, true, 2037, 6, 1138⟩ := K.drew.turn l6)
            | (refine (UP.out b _ (K.alloc _).drew.2.1).mono ?_; rintro _ w6 ⟨rfl, l6⟩; have hx := (Blk.new wr 38 #[.int .i64 0, .int .i64 0]).drew.grown l6.2 (fun e => by injection e with e; have := K.2.1.lt; omega); have d0 : w6.cell? ⟨wr.heap.size, 0, none⟩ = some (.int .i64 0) := hx.cell 0; have d1 : w6.cell? ⟨wr.heap.size, 1, none⟩ = some (.int .i64 0) := hx.cell 1; have d2 := hx.frozen 0; have d3 := hx.frozen 1; have d4 := hx.lt; have d5 := z3; have K : Aw w w6 b w2.heap.size ⟨2, 112, 63938, true, 2037, 6, 1138⟩ := (K.alloc _).drew.turn l6)))
          all_goals (
            go_wp2_with fail
            go_meet
            first
              | exact ⟨_, rfl, rfl, Lib.hid ⟨(K.alloc _).drew, (Blk.new _ _ _).drew⟩⟩
              | exact ⟨_, rfl, rfl, Lib.hid ⟨K.alloc _, Blk.new _ _ _⟩⟩
              | exact ⟨_, rfl, rfl, Lib.hid (aw_set K hx d5 _ _)⟩)
        case rest =>
          obtain ⟨e, rfl, rfl, HK6⟩ := hcut
          clear K UP c0 z0 z1 z2 z3
          have K := HK6.out
          have z1 := K.1.2.2.2.2.2.1.lt
          have z2 := K.1.2.2.2.2.2.2.1.lt
          have z3 := K.1.2.2.2.2.2.2.2.lt
          have z4 := K.2.lt
          go_wp2_with fail
          go_region_held3 (fun w' => (w'.cell? ⟨w2.heap.size + 1, 10, none⟩ = some (.int .i64 0) ∧ w'.cell? ⟨w2.heap.size + 1, 11, none⟩ = some (.int .i64 0) ∧ w'.cell? ⟨w2.heap.size + 2, 5, none⟩ = some (.int .i64 2) ∧ w'.cell? ⟨w2.heap.size + 3, 5, none⟩ = some (.int .i64 63938)) ∧ w'.cell? ⟨e, 0, none⟩ = some (.int .i64 0) ∧ w'.cell? ⟨e, 1, none⟩ = some (.int .i64 0)) (first | exact ⟨⟨K.1.2.2.2.2.2.1.cell 10, K.1.2.2.2.2.2.1.cell 11, K.1.2.2.2.2.2.2.1.cell 5, K.1.2.2.2.2.2.2.2.cell 5⟩, K.2.cell 0, K.2.cell 1⟩ | exact ⟨⟨K.1.drew.2.2.2.2.2.1.cell 10, K.1.drew.2.2.2.2.2.1.cell 11, K.1.drew.2.2.2.2.2.2.1.cell 5, K.1.drew.2.2.2.2.2.2.2.cell 5⟩, K.2.drew.cell 0, K.2.drew.cell 1⟩) ((first
            | (go_at_call 20; refine (pstate_any b Pl.exC ⟨2, 112, 63938, true, 2037, 6, 1138⟩ _ (by first | exact K.1.2.1 | exact K.1.drew.2.1)).mono ?_; rintro _ w7 ⟨rfl, rfl⟩)
            | (go_at_call 24; refine (pphase_any b Pl.exC ⟨2, 112, 63938, true, 2037, 6, 1138⟩ _ (by first | exact K.1.2.1 | exact K.1.drew.2.1)).mono ?_; rintro _ w7 ⟨rfl, rfl⟩)))
          all_goals (
            go_wp2_with fail
            go_roundw
            case rel => exact ⟨6, rfl, by omega, Lib.hid K.1.drew⟩
            case measure => simp [RowKit.intOf])
      · have K : Aw w wr b w2.heap.size ⟨2, 112, 63938, true, 2037, 6, 1138⟩ := hK.out
        have UP := Lib.hid (pupdate_at (c := Pl.exC) (s := ⟨2, 112, 63938, true, 2037, 6, 1138⟩) (S := ⟨3, 112, 0, true, 2038, 6, 0⟩) (t := 2038) (o := (-128000000)) (po := 6) (k := 2) (v := (-128000000)) (e := 0) C0.out (by unfold Pl.LInv; decide) (by kernel_rfl) (by kernel_rfl))
        have c0 : wr.cell? ⟨w2.heap.size, 24, none⟩ = some (.int .i64 0) := K.2.2.2.2.1.cell 24
        have z0 := K.2.2.2.2.1.lt
        have z1 := K.2.2.2.2.2.1.lt
        have z2 := K.2.2.2.2.2.2.1.lt
        have z3 := K.2.2.2.2.2.2.2.lt
        clear hK
        go_upto_region 13 with fail
        go_cut [7, 8] (fun v7 v8 wx => ∃ e, v7 = .pointer (some ⟨e, 0, none⟩) ∧ v8 = .int .i64 0 ∧ Hid (Aw w wx b w2.heap.size ⟨3, 112, 0, true, 2038, 6, 0⟩ ∧ Blk wx e 38 #[.int .i64 2, .int .i64 (-128000000)]))
        case first =>
          go_region_held3 (fun w' => w'.cell? ⟨w2.heap.size, 25, none⟩ = some (.int .i64 2038) ∧ w'.cell? ⟨w2.heap.size, 26, none⟩ = some (.int .i64 (-128000000)) ∧ w'.cell? ⟨w2.heap.size, 27, none⟩ = some (.int .i64 6)) (first | exact ⟨K.2.2.2.2.1.cell 25, K.2.2.2.2.1.cell 26, K.2.2.2.2.1.cell 27⟩ | exact ⟨K.drew.2.2.2.2.1.cell 25, K.drew.2.2.2.2.1.cell 26, K.drew.2.2.2.2.1.cell 27⟩ | exact ⟨(K.alloc _).2.2.2.2.1.cell 25, (K.alloc _).2.2.2.2.1.cell 26, (K.alloc _).2.2.2.2.1.cell 27⟩ | exact ⟨(K.alloc _).drew.2.2.2.2.1.cell 25, (K.alloc _).drew.2.2.2.2.1.cell 26, (K.alloc _).drew.2.2.2.2.1.cell 27⟩ | exact ⟨(aw_set K hx d5 _ _).1.2.2.2.2.1.cell 25, (aw_set K hx d5 _ _).1.2.2.2.2.1.cell 26, (aw_set K hx d5 _ _).1.2.2.2.2.1.cell 27⟩ | go_keep) ((go_at_call 18; first
            | (refine (UP.out b _ K.2.1).mono ?_; rintro _ w6 ⟨rfl, l6⟩; have K : Aw w w6 b w2.heap.size ⟨3, 112, 0, true, 2038, 6, 0⟩ := K.turn l6)
            | (refine (UP.out b _ K.drew.2.1).mono ?_; rintro _ w6 ⟨rfl, l6⟩; have K : Aw w w6 b w2.heap.size ⟨3, 112, 0, true, 2038, 6, 0⟩ := K.drew.turn l6)
            | (refine (UP.out b _ (K.alloc _).drew.2.1).mono ?_; rintro _ w6 ⟨rfl, l6⟩; have hx := (Blk.new wr 38 #[.int .i64 0, .int .i64 0]).drew.grown l6.2 (fun e => by injection e with e; have := K.2.1.lt; omega); have d0 : w6.cell? ⟨wr.heap.size, 0, none⟩ = some (.int .i64 0) := hx.cell 0; have d1 : w6.cell? ⟨wr.heap.size, 1, none⟩ = some (.int .i64 0) := hx.cell 1; have d2 := hx.frozen 0; have d3 := hx.frozen 1; have d4 := hx.lt; have d5 := z3; have K : Aw w w6 b w2.heap.size ⟨3, 112, 0, true, 2038, 6, 0⟩ := (K.alloc _).drew.turn l6)))
          all_goals (
            go_wp2_with fail
            go_meet
            first
              | exact ⟨_, rfl, rfl, Lib.hid ⟨(K.alloc _).drew, (Blk.new _ _ _).drew⟩⟩
              | exact ⟨_, rfl, rfl, Lib.hid ⟨K.alloc _, Blk.new _ _ _⟩⟩
              | exact ⟨_, rfl, rfl, Lib.hid (aw_set K hx d5 _ _)⟩)
        case rest =>
          obtain ⟨e, rfl, rfl, HK6⟩ := hcut
          clear K UP c0 z0 z1 z2 z3
          have K := HK6.out
          have z1 := K.1.2.2.2.2.2.1.lt
          have z2 := K.1.2.2.2.2.2.2.1.lt
          have z3 := K.1.2.2.2.2.2.2.2.lt
          have z4 := K.2.lt
          go_wp2_with fail
          go_region_held3 (fun w' => (w'.cell? ⟨w2.heap.size + 1, 12, none⟩ = some (.int .i64 2) ∧ w'.cell? ⟨w2.heap.size + 1, 13, none⟩ = some (.int .i64 (-128000000)) ∧ w'.cell? ⟨w2.heap.size + 2, 6, none⟩ = some (.int .i64 3) ∧ w'.cell? ⟨w2.heap.size + 3, 6, none⟩ = some (.int .i64 0)) ∧ w'.cell? ⟨e, 0, none⟩ = some (.int .i64 2) ∧ w'.cell? ⟨e, 1, none⟩ = some (.int .i64 (-128000000))) (first | exact ⟨⟨K.1.2.2.2.2.2.1.cell 12, K.1.2.2.2.2.2.1.cell 13, K.1.2.2.2.2.2.2.1.cell 6, K.1.2.2.2.2.2.2.2.cell 6⟩, K.2.cell 0, K.2.cell 1⟩ | exact ⟨⟨K.1.drew.2.2.2.2.2.1.cell 12, K.1.drew.2.2.2.2.2.1.cell 13, K.1.drew.2.2.2.2.2.2.1.cell 6, K.1.drew.2.2.2.2.2.2.2.cell 6⟩, K.2.drew.cell 0, K.2.drew.cell 1⟩) ((first
            | (go_at_call 20; refine (pstate_any b Pl.exC ⟨3, 112, 0, true, 2038, 6, 0⟩ _ (by first | exact K.1.2.1 | exact K.1.drew.2.1)).mono ?_; rintro _ w7 ⟨rfl, rfl⟩)
            | (go_at_call 24; refine (pphase_any b Pl.exC ⟨3, 112, 0, true, 2038, 6, 0⟩ _ (by first | exact K.1.2.1 | exact K.1.drew.2.1)).mono ?_; rintro _ w7 ⟨rfl, rfl⟩)))
          all_goals (
            go_wp2_with fail
            go_roundw
            case rel => exact ⟨7, rfl, by omega, Lib.hid K.1.drew⟩
            case measure => simp [RowKit.intOf])
    · obtain rfl : k = 7 := by omega
      have K : Aw w wr b w2.heap.size ⟨3, 112, 0, true, 2038, 6, 0⟩ := hK.out
      have UP := Lib.hid (pupdate_at (c := Pl.exC) (s := ⟨3, 112, 0, true, 2038, 6, 0⟩) (S := ⟨3, 112, 0, true, 2038, 6, 0⟩) (t := 2038) (o := 0) (po := 6) (k := 0) (v := 0) (e := 12) C0.out (by unfold Pl.LInv; decide) (by kernel_rfl) (by kernel_rfl))
      clear hK
      go_wp2_with fail
      refine (UP.out b _ K.2.1).mono ?_
      rintro _ w6 ⟨rfl, l6⟩
      have K := K.turn l6
      clear l6
      go_wp2_with fail
      refine (pfreq_any b Pl.exC ⟨3, 112, 0, true, 2038, 6, 0⟩ _ (K.alloc _).2.1).mono ?_
      rintro _ w7 ⟨rfl, rfl⟩
      go_wp2
      go_ret
      exact ⟨rfl, (K.alloc _).1⟩
end Go.Proofs.YtdjfbghdnkjdoaaDoor
