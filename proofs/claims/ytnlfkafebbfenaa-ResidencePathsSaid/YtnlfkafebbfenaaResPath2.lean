/- The reference's Path of layer 40. -/
import Derived.Test.YtnlfkafebbfenaaResPath
import Derived.Laws.Tables
import Derived.Laws.Rows
namespace Go.Proofs.Ytnlfkafebbfenaa
open Go.RowKit Go.Lib
theorem wanted_none {o : Oper} {y : Nat → Option Bool} (h : o.guard = none) : Region.wanted o y = true := by
  unfold Region.wanted
  rw [h]
theorem step_load_blk {P : Program} {ops : Array Oper} {o : Oper} {a : Act} {w : World} {K : Act → World → Prop} {Q : Exit → Act → World → Prop} (hgd : o.guard = none) (ty : TypeId) (x : Operand) (ho : o.op = .load ty x)
    (g : Nat) (hx : a.eval x = .pointer (some ⟨g, 0, none⟩)) (t : TypeId) (cs : Array Value) (d : TypeDesc) (hg : Blk w g t cs)
    (hu : P.underlying ty = some d) (hd : (match d with | .struct _ | .array _ _ => true | _ => false) = true) (hi : (P.info? ty).map (·.size) = some cs.size)
    (h : K (a.put o.dst (.agg cs)) w) : if Region.wanted o (yielded ops a.tmps) = true then Oper.wp P o a w K Q else K (a.put o.dst undef) w := by
  rw [if_pos (wanted_none hgd)]
  exact wp_load_row ty x ho g hx t cs (0, 0) d hg hu hd hi h
theorem step_store_blk {P : Program} {ops : Array Oper} {o : Oper} {a : Act} {w : World} {K : Act → World → Prop} {Q : Exit → Act → World → Prop} (hgd : o.guard = none) (ty : TypeId) (x y : Operand) (ho : o.op = .store ty x y)
    (g : Nat) (cells : Array Value) (hx : a.eval x = .pointer (some ⟨g, 0, none⟩)) (hy : a.eval y = .agg cells)
    (t : TypeId) (old : Array Value) (hg : Blk w g t old) (hi : (P.info? ty).map (·.size) = some cells.size) (hold : old.size = cells.size) (h1 : cells.all (·.oneCell') = true)
    (h : ∀ W, Blk W g t cells → w.grownBy W (some g) → K (a.put o.dst undef) W) : if Region.wanted o (yielded ops a.tmps) = true then Oper.wp P o a w K Q else K (a.put o.dst undef) w := by
  rw [if_pos (wanted_none hgd)]
  exact wp_store_row ty x y ho g cells hx hy t old hg hi hold h1 (h _ (blk_setRow hg) (only_setRow w g cells))
set_option maxHeartbeats 8000000 in
set_option maxRecDepth 100000 in
theorem rpath_any (p : Pl.PM) (a : Option Addr) (len cap : Nat) (z : Nat → Nat → Int) (w : World) (hw : PmWf p) (hl : len ≤ 300) (hz : Fours w a len z) :
    Calls Try.prog 26 #[pmV p, .slice a len cap] w fun e w' => e = .returned (.tuple #[pmV (Pl.pthR z len 0 p).1, .int .i64 (Pl.pthR z len 0 p).2]) ∧ Below w.heap.size w w' := by
  obtain ⟨RP, hRP⟩ : ∃ RP, Pl.pthR z len 0 p = RP := ⟨_, rfl⟩
  rw [hRP]
  have R0 : Hid (Pl.pthR z (len - 0) 0 p = RP) := Lib.hid hRP
  have W0 := Lib.hid hw
  have HZ := Lib.hid hz
  clear hRP hw hz
  go_enter Try.func26, Try.ntmps26
  go_wp2_with fail
  go_loopw [6] (fun i wr => ∃ (k : Nat) (q : Pl.PM), i = .int .i64 k ∧ k ≤ len ∧ Hid (PmWf q) ∧ Hid (Rz w wr q zA) ∧ Hid (Pl.pthR z (len - k) k q = RP)) (fun i _ => len - (RowKit.intOf i).toNat)
  case atStart => exact ⟨0, p, rfl, by omega, W0, Lib.hid (Rz.mk w p), R0⟩
  case round =>
    obtain ⟨k, q, rfl, hk, hW, hR, hP⟩ := hrel
    by_cases hlt : k < len
    · obtain ⟨bx, ox, rfl, hb1, hb2, d0, d1, d2, d3⟩ := fours_at HZ.out hR.out.1 hlt
      have hP' := hP.out
      rw [show len - k = (len - (k + 1)) + 1 by omega, Pl.pthR] at hP'
      obtain ⟨r0, h0⟩ : ∃ r, z k 0 = r := ⟨_, rfl⟩
      obtain ⟨r1, h1⟩ : ∃ r, z k 1 = r := ⟨_, rfl⟩
      obtain ⟨r2, h2⟩ : ∃ r, z k 2 = r := ⟨_, rfl⟩
      obtain ⟨r3, h3⟩ : ∃ r, z k 3 = r := ⟨_, rfl⟩
      rw [h0] at d0 hP'
      rw [h1] at d1 hP'
      rw [h2] at d2 hP'
      rw [h3] at d3 hP'
      have SY := fun W => rstay_any r0 r1 r2 W
      have t2 : decide ((k : Int) < (len : Int)) = true := by simp [hlt]
      have hk0 : (0 : Int) ≤ (k : Int) := by omega
      have hk8 : (k : Int) < (len : Int) := by omega
      obtain ⟨sn, hsn⟩ : ∃ n, Pl.stayN r0 r1 r2 = n := ⟨_, rfl⟩
      obtain ⟨se, hse⟩ : ∃ n, Pl.stayE r0 r1 r2 = n := ⟨_, rfl⟩
      rw [hsn, hse] at SY hP'
      have hbw : bx ≠ w.heap.size := by omega
      have kw2 : IntKind.i64.wrap ((k : Int) + 1) = (k : Int) + 1 := IntWalk.i64_in _ (by omega)
      clear h0 h1 h2 h3 hsn hse hP
      by_cases c : se = 0
      · rw [if_pos c] at hP'
        have AD := fun W => radd40_any q sn r3 hW.out W
        have hwf := fun h => wf_add (s := sn) (l := r3) hW.out h
        obtain ⟨an, han⟩ : ∃ n, Pl.addP q sn r3 = n := ⟨_, rfl⟩
        obtain ⟨ae, hae⟩ : ∃ n, Pl.addE q sn r3 = n := ⟨_, rfl⟩
        rw [han, hae] at AD hP' hwf
        have t0 : (se != 0) = false := by simp [c]
        replace SY := Lib.hid SY
        replace AD := Lib.hid AD
        by_cases d : ae = 0
        · rw [if_pos d] at hP'
          have t1 : (ae != 0) = false := by simp [d]
          have hwf := Lib.hid (hwf d)
          have hP := Lib.hid hP'
          have ha0 := d
          clear hP' c d han hae ha0
          have d0' := d0
          have d1' := d1
          have d2' := d2
          have d3' := d3
          go_wp2_with fail
          go_region_held3 (fun w' => w'.cell? ⟨bx, ox + k * 4, none⟩ = some (.int .i64 r0) ∧ w'.cell? ⟨bx, ox + k * 4 + 1, none⟩ = some (.int .i64 r1) ∧ w'.cell? ⟨bx, ox + k * 4 + 2, none⟩ = some (.int .i64 r2)) (first | exact ⟨d0, d1, d2⟩ | exact ⟨e0, e1, e2⟩) ((go_at_call 12; refine (SY.out _).mono ?_; rintro _ w2 ⟨rfl, l2⟩; have K2 : Rz w w2 q zA := (by first | exact hR.out.on l2 | exact Rz.on (W := wr.drew) ⟨hR.out.1.drew, hR.out.2.1, hR.out.2.2⟩ l2); have e0 := ((bcell l2).1 bx (ox + k * 4) hb2).trans d0; have e1 := ((bcell l2).1 bx (ox + k * 4 + 1) hb2).trans d1; have e2 := ((bcell l2).1 bx (ox + k * 4 + 2) hb2).trans d2; have e3 := ((bcell l2).1 bx (ox + k * 4 + 3) hb2).trans d3; have hb3 := Nat.lt_of_lt_of_le hb2 l2.size; clear l2))
          go_wp2_with fail
          have K2a : Blk w2.drew w.heap.size 33 (pmA q) := K2.2.1
          refine wp_region_held_drew (S := fun w' => w'.cell? ⟨bx, ox + k * 4 + 3, none⟩ = some (.int .i64 r3)) (by kernel_rfl) e3 (fun hHeld => ?_)
          refine wpAnyH_take (i := 1) (oi := _) (v := ?_) rfl (by kernel_rfl) (by kernel_rfl) (by kernel_rfl) (fun _ _ _ h => h) (Or.inl ⟨by rfl, ?_⟩) (by assumption) ?_
          rotate_left
          focus (intro w hSw; (try dsimp only at hSw); go_simp; try with_reducible rfl)
          try simp only [Act.put, List.getElem_toArray, List.getElem_cons_zero, List.getElem_cons_succ, List.setIfInBounds_toArray, List.set_cons_zero, List.set_cons_succ]
          refine wpAnyH_take (i := 2) (oi := _) (v := ?_) rfl (by kernel_rfl) (by kernel_rfl) (by kernel_rfl) (fun _ _ _ h => h) (Or.inl ⟨by rfl, ?_⟩) (by assumption) ?_
          rotate_left
          focus (intro w hSw; (try dsimp only at hSw); go_simp; try with_reducible rfl)
          try simp only [Act.put, List.getElem_toArray, List.getElem_cons_zero, List.getElem_cons_succ, List.setIfInBounds_toArray, List.set_cons_zero, List.set_cons_succ]
          refine wpAnyH_take (i := 3) (oi := _) (v := ?_) rfl (by kernel_rfl) (by kernel_rfl) (by kernel_rfl) (fun _ _ _ h => h) (Or.inl ⟨by rfl, ?_⟩) (by assumption) ?_
          rotate_left
          focus (intro w hSw; (try dsimp only at hSw); go_simp; try with_reducible rfl)
          try simp only [Act.put, List.getElem_toArray, List.getElem_cons_zero, List.getElem_cons_succ, List.setIfInBounds_toArray, List.set_cons_zero, List.set_cons_succ]
          refine wpAnyH_take (i := 4) (oi := _) (v := ?_) rfl (by kernel_rfl) (by kernel_rfl) (by kernel_rfl) (fun _ _ _ h => h) (Or.inl ⟨by rfl, ?_⟩) (by assumption) ?_
          rotate_left
          focus (intro w hSw; (try dsimp only at hSw); go_simp; try with_reducible rfl)
          try simp only [Act.put, List.getElem_toArray, List.getElem_cons_zero, List.getElem_cons_succ, List.setIfInBounds_toArray, List.set_cons_zero, List.set_cons_succ]
          refine wpAnyH_take (i := 5) (oi := _) (v := ?_) rfl (by kernel_rfl) (by kernel_rfl) (by kernel_rfl) (fun _ _ _ h => h) (Or.inl ⟨by rfl, ?_⟩) (by assumption) ?_
          rotate_left
          focus (intro w hSw; (try dsimp only at hSw); go_simp; try with_reducible rfl)
          try simp only [Act.put, List.getElem_toArray, List.getElem_cons_zero, List.getElem_cons_succ, List.setIfInBounds_toArray, List.set_cons_zero, List.set_cons_succ]
          refine wpAnyH_take (i := 6) (oi := _) (v := ?_) rfl (by kernel_rfl) (by kernel_rfl) (by kernel_rfl) (fun _ _ _ h => h) (Or.inl ⟨by rfl, ?_⟩) (by assumption) ?_
          rotate_left
          focus (intro w hSw; (try dsimp only at hSw); go_simp; try with_reducible rfl)
          try simp only [Act.put, List.getElem_toArray, List.getElem_cons_zero, List.getElem_cons_succ, List.setIfInBounds_toArray, List.set_cons_zero, List.set_cons_succ]
          refine wpAnyH_ready (rs := [0]) (by kernel_rfl) (by simp) ?_
          refine AllReadyH.cons (o := { dst := some 39, op := .load 33 (.tmp 2), type := 33, pos := "ref.go:62", after := #[], guard := none }) rfl (fun K hK => ?_) AllReadyH.nil
          refine step_load_blk (by rfl) 33 _ (by rfl) w.heap.size (by rfl) 33 (pmA q) _ K2a Try.underlying33 rfl (by kernel_rfl) ?_
          refine hK.out _ _ e3 (fun hHeld2 => ?_)
          clear hHeld2
          clear hK K
          try simp only [Act.put, List.setIfInBounds_toArray, List.set_cons_zero, List.set_cons_succ]
          refine wpAnyH_ready (rs := [7]) (by kernel_rfl) (by simp) ?_
          refine AllReadyH.cons rfl (fun K hK => ?_) AllReadyH.nil
          go_simp
          go_at_call 15
          refine (AD.out _).mono ?_
          rintro _ w3 ⟨rfl, l3⟩
          have K3 : Rz w w3 q zA := Rz.on (W := w2.drew) ⟨K2.1.drew, K2.2.1, K2.2.2⟩ l3
          have e3' := ((bcell l3).1 bx (ox + k * 4 + 3) hb3).trans e3
          have hb4 := Nat.lt_of_lt_of_le hb3 l3.size
          have K3a := K3.2.1
          clear l3
          refine hK.out _ _ e3' (fun hHeld3 => ?_)
          clear hHeld3
          clear hK K
          try simp only [Act.put, List.getElem_toArray, List.getElem_cons_zero, List.getElem_cons_succ, List.setIfInBounds_toArray, List.set_cons_zero, List.set_cons_succ]
          refine wpAnyH_take (i := 8) (oi := _) (v := ?_) rfl (by kernel_rfl) (by kernel_rfl) (by kernel_rfl) (fun _ _ _ h => h) (Or.inl ⟨by rfl, ?_⟩) (by assumption) ?_
          rotate_left
          focus (intro w hSw; (try dsimp only at hSw); go_simp; try with_reducible rfl)
          try simp only [Act.put, List.getElem_toArray, List.getElem_cons_zero, List.getElem_cons_succ, List.setIfInBounds_toArray, List.set_cons_zero, List.set_cons_succ]
          refine wpAnyH_take (i := 9) (oi := _) (v := ?_) rfl (by kernel_rfl) (by kernel_rfl) (by kernel_rfl) (fun _ _ _ h => h) (Or.inl ⟨by rfl, ?_⟩) (by assumption) ?_
          rotate_left
          focus (intro w hSw; (try dsimp only at hSw); go_simp; try with_reducible rfl)
          try simp only [Act.put, List.getElem_toArray, List.getElem_cons_zero, List.getElem_cons_succ, List.setIfInBounds_toArray, List.set_cons_zero, List.set_cons_succ]
          refine wpAnyH_take (i := 10) (oi := _) (v := ?_) rfl (by kernel_rfl) (by kernel_rfl) (by kernel_rfl) (fun _ _ _ h => h) (Or.inl ⟨by rfl, ?_⟩) (by assumption) ?_
          rotate_left
          focus (intro w hSw; (try dsimp only at hSw); go_simp; try with_reducible rfl)
          try simp only [Act.put, List.getElem_toArray, List.getElem_cons_zero, List.getElem_cons_succ, List.setIfInBounds_toArray, List.set_cons_zero, List.set_cons_succ]
          refine wpAnyH_ready (rs := [11]) (by kernel_rfl) (by simp) ?_
          refine AllReadyH.cons rfl (fun K hK => ?_) AllReadyH.nil
          refine step_store_blk (by rfl) 33 _ _ (by rfl) w.heap.size (pmA an) (by rfl) (by rfl) 33 (pmA q) K3a (by kernel_rfl) rfl (by kernel_rfl) ?_
          intro W4 H4 G4
          have K4 := K3.first H4 G4
          have e4 := ((Below.only (Below.refl (bx + 1) _) G4 (show bx + 1 ≤ w.heap.size by omega) hb4).cell (p := ⟨bx, ox + k * 4 + 3, none⟩) (Nat.lt_succ_self bx)).trans e3'
          refine hK.out _ _ e4 (fun hHeld4 => ?_)
          clear hHeld4
          clear hK K
          try simp only [Act.put, List.getElem_toArray, List.getElem_cons_zero, List.getElem_cons_succ]
          refine wpAnyH_take (i := 12) (oi := _) (v := ?_) rfl (by kernel_rfl) (by kernel_rfl) (by kernel_rfl) (fun _ _ _ h => h) (Or.inl ⟨by rfl, ?_⟩) (by assumption) ?_
          rotate_left
          focus (intro w hSw; (try dsimp only at hSw); go_simp; try with_reducible rfl)
          try simp only [Act.put, List.getElem_toArray, List.getElem_cons_zero, List.getElem_cons_succ, List.setIfInBounds_toArray, List.set_cons_zero, List.set_cons_succ]
          refine wpAnyH_done (by kernel_rfl) ?_ _
          go_wp2_with fail
          exact ⟨⟨k + 1, an, by go_num, by omega, hwf, Lib.hid K4, hP⟩, by simp [RowKit.intOf]; omega⟩
        · rw [if_neg d] at hP'
          have t1 : (ae != 0) = true := by simp [d]
          have HE : Hid (Ending.returned (.tuple #[.agg zA, .int .i64 ae]) = .returned (.tuple #[pmV RP.1, .int .i64 RP.2])) := Lib.hid (by rw [← hP']; rfl)
          clear hP' c d han hae hwf
          have d0' := d0
          have d1' := d1
          have d2' := d2
          have d3' := d3
          go_wp2_with fail
          go_region_held3 (fun w' => w'.cell? ⟨bx, ox + k * 4, none⟩ = some (.int .i64 r0) ∧ w'.cell? ⟨bx, ox + k * 4 + 1, none⟩ = some (.int .i64 r1) ∧ w'.cell? ⟨bx, ox + k * 4 + 2, none⟩ = some (.int .i64 r2)) (first | exact ⟨d0, d1, d2⟩ | exact ⟨e0, e1, e2⟩) ((go_at_call 12; refine (SY.out _).mono ?_; rintro _ w2 ⟨rfl, l2⟩; have K2 : Rz w w2 q zA := (by first | exact hR.out.on l2 | exact Rz.on (W := wr.drew) ⟨hR.out.1.drew, hR.out.2.1, hR.out.2.2⟩ l2); have e0 := ((bcell l2).1 bx (ox + k * 4) hb2).trans d0; have e1 := ((bcell l2).1 bx (ox + k * 4 + 1) hb2).trans d1; have e2 := ((bcell l2).1 bx (ox + k * 4 + 2) hb2).trans d2; have e3 := ((bcell l2).1 bx (ox + k * 4 + 3) hb2).trans d3; have hb3 := Nat.lt_of_lt_of_le hb2 l2.size; clear l2))
          go_wp2_with fail
          have K2a : Blk w2.drew w.heap.size 33 (pmA q) := K2.2.1
          refine wp_region_held_drew (S := fun w' => w'.cell? ⟨bx, ox + k * 4 + 3, none⟩ = some (.int .i64 r3)) (by kernel_rfl) e3 (fun hHeld => ?_)
          refine wpAnyH_take (i := 1) (oi := _) (v := ?_) rfl (by kernel_rfl) (by kernel_rfl) (by kernel_rfl) (fun _ _ _ h => h) (Or.inl ⟨by rfl, ?_⟩) (by assumption) ?_
          rotate_left
          focus (intro w hSw; (try dsimp only at hSw); go_simp; try with_reducible rfl)
          try simp only [Act.put, List.getElem_toArray, List.getElem_cons_zero, List.getElem_cons_succ, List.setIfInBounds_toArray, List.set_cons_zero, List.set_cons_succ]
          refine wpAnyH_take (i := 2) (oi := _) (v := ?_) rfl (by kernel_rfl) (by kernel_rfl) (by kernel_rfl) (fun _ _ _ h => h) (Or.inl ⟨by rfl, ?_⟩) (by assumption) ?_
          rotate_left
          focus (intro w hSw; (try dsimp only at hSw); go_simp; try with_reducible rfl)
          try simp only [Act.put, List.getElem_toArray, List.getElem_cons_zero, List.getElem_cons_succ, List.setIfInBounds_toArray, List.set_cons_zero, List.set_cons_succ]
          refine wpAnyH_take (i := 3) (oi := _) (v := ?_) rfl (by kernel_rfl) (by kernel_rfl) (by kernel_rfl) (fun _ _ _ h => h) (Or.inl ⟨by rfl, ?_⟩) (by assumption) ?_
          rotate_left
          focus (intro w hSw; (try dsimp only at hSw); go_simp; try with_reducible rfl)
          try simp only [Act.put, List.getElem_toArray, List.getElem_cons_zero, List.getElem_cons_succ, List.setIfInBounds_toArray, List.set_cons_zero, List.set_cons_succ]
          refine wpAnyH_take (i := 4) (oi := _) (v := ?_) rfl (by kernel_rfl) (by kernel_rfl) (by kernel_rfl) (fun _ _ _ h => h) (Or.inl ⟨by rfl, ?_⟩) (by assumption) ?_
          rotate_left
          focus (intro w hSw; (try dsimp only at hSw); go_simp; try with_reducible rfl)
          try simp only [Act.put, List.getElem_toArray, List.getElem_cons_zero, List.getElem_cons_succ, List.setIfInBounds_toArray, List.set_cons_zero, List.set_cons_succ]
          refine wpAnyH_take (i := 5) (oi := _) (v := ?_) rfl (by kernel_rfl) (by kernel_rfl) (by kernel_rfl) (fun _ _ _ h => h) (Or.inl ⟨by rfl, ?_⟩) (by assumption) ?_
          rotate_left
          focus (intro w hSw; (try dsimp only at hSw); go_simp; try with_reducible rfl)
          try simp only [Act.put, List.getElem_toArray, List.getElem_cons_zero, List.getElem_cons_succ, List.setIfInBounds_toArray, List.set_cons_zero, List.set_cons_succ]
          refine wpAnyH_take (i := 6) (oi := _) (v := ?_) rfl (by kernel_rfl) (by kernel_rfl) (by kernel_rfl) (fun _ _ _ h => h) (Or.inl ⟨by rfl, ?_⟩) (by assumption) ?_
          rotate_left
          focus (intro w hSw; (try dsimp only at hSw); go_simp; try with_reducible rfl)
          try simp only [Act.put, List.getElem_toArray, List.getElem_cons_zero, List.getElem_cons_succ, List.setIfInBounds_toArray, List.set_cons_zero, List.set_cons_succ]
          refine wpAnyH_ready (rs := [0]) (by kernel_rfl) (by simp) ?_
          refine AllReadyH.cons (o := { dst := some 39, op := .load 33 (.tmp 2), type := 33, pos := "ref.go:62", after := #[], guard := none }) rfl (fun K hK => ?_) AllReadyH.nil
          refine step_load_blk (by rfl) 33 _ (by rfl) w.heap.size (by rfl) 33 (pmA q) _ K2a Try.underlying33 rfl (by kernel_rfl) ?_
          refine hK.out _ _ e3 (fun hHeld2 => ?_)
          clear hHeld2
          clear hK K
          try simp only [Act.put, List.setIfInBounds_toArray, List.set_cons_zero, List.set_cons_succ]
          refine wpAnyH_ready (rs := [7]) (by kernel_rfl) (by simp) ?_
          refine AllReadyH.cons rfl (fun K hK => ?_) AllReadyH.nil
          go_simp
          go_at_call 15
          refine (AD.out _).mono ?_
          rintro _ w3 ⟨rfl, l3⟩
          have K3 : Rz w w3 q zA := Rz.on (W := w2.drew) ⟨K2.1.drew, K2.2.1, K2.2.2⟩ l3
          have e3' := ((bcell l3).1 bx (ox + k * 4 + 3) hb3).trans e3
          have hb4 := Nat.lt_of_lt_of_le hb3 l3.size
          have K3a := K3.2.1
          clear l3
          refine hK.out _ _ e3' (fun hHeld3 => ?_)
          clear hHeld3
          clear hK K
          try simp only [Act.put, List.getElem_toArray, List.getElem_cons_zero, List.getElem_cons_succ, List.setIfInBounds_toArray, List.set_cons_zero, List.set_cons_succ]
          refine wpAnyH_take (i := 8) (oi := _) (v := ?_) rfl (by kernel_rfl) (by kernel_rfl) (by kernel_rfl) (fun _ _ _ h => h) (Or.inl ⟨by rfl, ?_⟩) (by assumption) ?_
          rotate_left
          focus (intro w hSw; (try dsimp only at hSw); go_simp; try with_reducible rfl)
          try simp only [Act.put, List.getElem_toArray, List.getElem_cons_zero, List.getElem_cons_succ, List.setIfInBounds_toArray, List.set_cons_zero, List.set_cons_succ]
          refine wpAnyH_take (i := 9) (oi := _) (v := ?_) rfl (by kernel_rfl) (by kernel_rfl) (by kernel_rfl) (fun _ _ _ h => h) (Or.inl ⟨by rfl, ?_⟩) (by assumption) ?_
          rotate_left
          focus (intro w hSw; (try dsimp only at hSw); go_simp; try with_reducible rfl)
          try simp only [Act.put, List.getElem_toArray, List.getElem_cons_zero, List.getElem_cons_succ, List.setIfInBounds_toArray, List.set_cons_zero, List.set_cons_succ]
          refine wpAnyH_take (i := 10) (oi := _) (v := ?_) rfl (by kernel_rfl) (by kernel_rfl) (by kernel_rfl) (fun _ _ _ h => h) (Or.inl ⟨by rfl, ?_⟩) (by assumption) ?_
          rotate_left
          focus (intro w hSw; (try dsimp only at hSw); go_simp; try with_reducible rfl)
          try simp only [Act.put, List.getElem_toArray, List.getElem_cons_zero, List.getElem_cons_succ, List.setIfInBounds_toArray, List.set_cons_zero, List.set_cons_succ]
          refine wpAnyH_ready (rs := [11]) (by kernel_rfl) (by simp) ?_
          refine AllReadyH.cons rfl (fun K hK => ?_) AllReadyH.nil
          refine step_store_blk (by rfl) 33 _ _ (by rfl) w.heap.size (pmA an) (by rfl) (by rfl) 33 (pmA q) K3a (by kernel_rfl) rfl (by kernel_rfl) ?_
          intro W4 H4 G4
          have K4 := K3.first H4 G4
          have e4 := ((Below.only (Below.refl (bx + 1) _) G4 (show bx + 1 ≤ w.heap.size by omega) hb4).cell (p := ⟨bx, ox + k * 4 + 3, none⟩) (Nat.lt_succ_self bx)).trans e3'
          refine hK.out _ _ e4 (fun hHeld4 => ?_)
          clear hHeld4
          clear hK K
          try simp only [Act.put, List.getElem_toArray, List.getElem_cons_zero, List.getElem_cons_succ]
          refine wpAnyH_take (i := 12) (oi := _) (v := ?_) rfl (by kernel_rfl) (by kernel_rfl) (by kernel_rfl) (fun _ _ _ h => h) (Or.inl ⟨by rfl, ?_⟩) (by assumption) ?_
          rotate_left
          focus (intro w hSw; (try dsimp only at hSw); go_simp; try with_reducible rfl)
          try simp only [Act.put, List.getElem_toArray, List.getElem_cons_zero, List.getElem_cons_succ, List.setIfInBounds_toArray, List.set_cons_zero, List.set_cons_succ]
          refine wpAnyH_done (by kernel_rfl) ?_ _
          have K4b := K4.2.2
          go_wp2_with (refine wpList_store_blk rfl 33 _ _ rfl (w.heap.size + 1) zA rfl rfl 33 zA K4b (by kernel_rfl) rfl (by kernel_rfl) ?_; intro W5 H5 G5)
          exact bodyPost_ret (v := .tuple #[.agg zA, .int .i64 ae]) (results_cell_tmp rfl _ _ (w.heap.size + 1) 33 zA _ _ rfl rfl H5 Try.underlying33 rfl info_pm) rfl ⟨HE.out, (K4.out H5 G5).1⟩
      · rw [if_neg c] at hP'
        have t0 : (se != 0) = true := by simp [c]
        have HE : Hid (Ending.returned (.tuple #[.agg zA, .int .i64 se]) = .returned (.tuple #[pmV RP.1, .int .i64 RP.2])) := Lib.hid (by rw [← hP']; rfl)
        replace SY := Lib.hid SY
        clear hP' c
        have d0' := d0
        have d1' := d1
        have d2' := d2
        have d3' := d3
        go_wp2_with fail
        go_region_held3 (fun w' => w'.cell? ⟨bx, ox + k * 4, none⟩ = some (.int .i64 r0) ∧ w'.cell? ⟨bx, ox + k * 4 + 1, none⟩ = some (.int .i64 r1) ∧ w'.cell? ⟨bx, ox + k * 4 + 2, none⟩ = some (.int .i64 r2)) (first | exact ⟨d0, d1, d2⟩ | exact ⟨e0, e1, e2⟩) ((go_at_call 12; refine (SY.out _).mono ?_; rintro _ w2 ⟨rfl, l2⟩; have K2 : Rz w w2 q zA := (by first | exact hR.out.on l2 | exact Rz.on (W := wr.drew) ⟨hR.out.1.drew, hR.out.2.1, hR.out.2.2⟩ l2); have e0 := ((bcell l2).1 bx (ox + k * 4) hb2).trans d0; have e1 := ((bcell l2).1 bx (ox + k * 4 + 1) hb2).trans d1; have e2 := ((bcell l2).1 bx (ox + k * 4 + 2) hb2).trans d2; have e3 := ((bcell l2).1 bx (ox + k * 4 + 3) hb2).trans d3; have hb3 := Nat.lt_of_lt_of_le hb2 l2.size; clear l2))
        have K2b := K2.2.2
        go_wp2_with (refine wpList_store_blk rfl 33 _ _ rfl (w.heap.size + 1) zA rfl rfl 33 zA K2b (by kernel_rfl) rfl (by kernel_rfl) ?_; intro W5 H5 G5)
        exact bodyPost_ret (v := .tuple #[.agg zA, .int .i64 se]) (results_cell_tmp rfl _ _ (w.heap.size + 1) 33 zA _ _ rfl rfl H5 Try.underlying33 rfl info_pm) rfl ⟨HE.out, (K2.out H5 G5).1⟩
    · obtain rfl : k = len := by omega
      have hP' := hP.out
      rw [show k - k = 0 by omega, Pl.pthR] at hP'
      have HE : Hid (Ending.returned (.tuple #[.agg (pmA q), .int .i64 0]) = .returned (.tuple #[pmV RP.1, .int .i64 RP.2])) := Lib.hid (by rw [← hP'])
      have t2 : decide ((k : Int) < (k : Int)) = false := by simp
      have K2a := hR.out.2.1
      have K2b := hR.out.2.2
      clear hP' hP
      go_wp2_with (first | (refine wpList_load_blk rfl 33 _ rfl w.heap.size rfl 33 (pmA q) _ K2a Try.underlying33 rfl (by kernel_rfl) ?_) | (refine wpList_store_blk rfl 33 _ _ rfl (w.heap.size + 1) (pmA q) rfl rfl 33 zA K2b (by kernel_rfl) rfl (by kernel_rfl) ?_; intro W5 H5 G5))
      exact bodyPost_ret (v := .tuple #[.agg (pmA q), .int .i64 0]) (results_cell_tmp rfl _ _ (w.heap.size + 1) 33 (pmA q) _ _ rfl rfl H5 Try.underlying33 rfl info_pm) rfl ⟨HE.out, (hR.out.out H5 G5).1⟩
end Go.Proofs.Ytnlfkafebbfenaa
