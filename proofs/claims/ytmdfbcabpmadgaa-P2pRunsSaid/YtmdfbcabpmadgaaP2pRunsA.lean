/- The walk of P2pRuns. -/
import Derived.Test.YtmdfbcabpmadgaaP2pPS
namespace Go.Proofs.Ytmdfbcabpmadgaa
open Go.RowKit Go.Lib Go.Maps
theorem blk_rng_at {w : World} {g : Nat} {t : TypeId} {cs : Array Value} {o : Nat} {vs : List Value} (h : Blk w g t cs) (hc : ∀ j v, vs[j]? = some v → cs[o + j]? = some v) : w.rangeAt g o vs := fun j v hv => (h.cell (o + j)).trans (hc j v hv)
theorem op_msg (o : OP) : ∀ j v, (pmA o.m).toList[j]? = some v → (opA o)[3 + j]? = some v := by
  intro j v h
  have e : (pmA o.m).toList = ((opA o).toList.drop 3).take 21 := rfl
  have hj : j < 21 := (List.getElem?_eq_some_iff.1 h).1
  rw [e, List.getElem?_take, if_pos hj, List.getElem?_drop, Array.getElem?_toList] at h
  exact h
theorem op_rng {w : World} {g : Nat} {o : OP} (h : Blk w g 47 (opA o)) : w.rangeAt g 3 (pmA o.m).toList ∧ w.cell? ⟨g, 1, none⟩ = some (.int .i64 o.s) ∧ w.cell? ⟨g, 2, none⟩ = some (.int .i64 o.t) ∧ w.cell? ⟨g, 24, none⟩ = some (.int .u64 o.ck) ∧ w.cell? ⟨g, 25, none⟩ = some (.int .i64 o.po) :=
  ⟨blk_rng_at h (op_msg o), h.cell 1, h.cell 2, h.cell 24, h.cell 25⟩
theorem yieldsIf_load_rng {P : Program} {ops : Array Oper} {S : World → Prop} {op : Oper} {a : Act} (hg : op.guard = none) (ty : TypeId) (x : Operand) (ho : op.op = .load ty x)
    (b o : Nat) (hx : a.eval x = .pointer (some ⟨b, o, none⟩)) (cs : Array Value) (d : TypeDesc) (hS : ∀ w, S w → w.rangeAt b o cs.toList)
    (hu : P.underlying ty = some d) (hd : d.isRow = true) (hi : (P.info? ty).map (·.size) = some cs.size) : YieldsIf P ops S op (.agg cs) a := by
  have := yieldsIf_load_mid (P := P) (ops := ops) (S := S) (op := op) (a := a) (by simp [Region.wanted, hg]) ty x ho b o hx cs.toList d hS hu hd (by simpa using hi)
  simpa using this
theorem wpList_load_rng {P : Program} {ops : Array Oper} {rest : List Oper} {op : Oper} {a : Act} {w : World} {Q : Exit → Act → World → Prop} (hgd : op.guard = none) (ty : TypeId) (x : Operand) (ho : op.op = .load ty x)
    (g o : Nat) (hx : a.eval x = .pointer (some ⟨g, o, none⟩)) (cells : Array Value) (d : TypeDesc) (hc : w.rangeAt g o cells.toList)
    (hu : P.underlying ty = some d) (hd : d.isRow = true) (hi : (P.info? ty).map (·.size) = some cells.size)
    (h : wpList P ops Q rest (a.put op.dst (.agg cells)) w) : wpList P ops Q (op :: rest) a w :=
  wpList_load_mid hgd ty x ho g o hx cells.toList d hc hu hd (by simpa using hi) (by simpa using h)
abbrev zOp : Array Value := #[.int .u8 0, .int .i64 0, .int .i64 0, .int .i64 0, .int .i64 0, .int .i64 0, .int .i64 0, .int .u64 0, .int .i64 0, .int .i64 0, .int .i64 0, .int .i64 0, .int .i64 0, .int .u64 0, .int .i64 0, .int .i64 0, .int .i64 0, .int .i64 0, .int .i64 0, .int .i64 0, .int .i64 0, .int .u64 0, .int .i64 0, .int .i64 0, .int .u64 0, .int .i64 0]
set_option maxHeartbeats 8000000 in
set_option maxRecDepth 100000 in
theorem p2pRuns_yes (d : Int) (hd1 : 0 ≤ d) (hd2 : d ≤ 255) (a0 : Option Addr) (len cap : Nat) (z : Nat → OP) (w : World) (hl : len ≤ 60) (hz : OpsIn w a0 len z) :
    Calls Try.prog 4 #[.int .i64 d, .slice a0 len cap] w fun e w' => e = .returned (.bool true) ∧ Below w.heap.size w w' := by
  have NX := Lib.hid (fun W => pnew_yes d hd1 hd2 W)
  have NY := Lib.hid (fun W => ynew_yes d hd1 hd2 W)
  have HZ := Lib.hid hz
  have tl : decide (60 < (len : Int)) = false := by simp; omega
  clear hz
  go_enter Try.func4, Try.ntmps4
  go_wp2_with fail
  refine (NX.out _).mono ?_
  rintro _ w1 ⟨rfl, X1, l1⟩
  have X1h := Lib.hid X1
  have l1h := Lib.hid l1
  clear X1 l1
  go_wp2_with fail
  refine (NY.out _).mono ?_
  rintro _ w2 ⟨rfl, Y2, l2⟩
  obtain ⟨b, hb⟩ : ∃ b, w.heap.size = b := ⟨_, rfl⟩
  obtain ⟨u, hu⟩ : ∃ u, w1.heap.size = u := ⟨_, rfl⟩
  have P2 : Hid (PS w w2 b u w2.heap.size (Pl.xs0 d) (Pl.ys0 d) none 0 0 []) := Lib.hid (by
    have z1 := X1h.out.lt
    have z2 := Y2.lt
    subst hb hu
    exact ⟨bel_on l1h.out l2, X1h.out.below_ l2, Y2, World.ownsRow_nil _ _ _ _, Nat.le_refl _, ⟨Nat.le_refl _, by omega⟩, ⟨by omega, by omega⟩, by omega⟩)
  obtain ⟨B, hB⟩ : ∃ B, w2.heap.size = B := ⟨_, rfl⟩
  rw [hB] at P2
  rw [hb, hu]
  clear Y2 l2 X1h l1h hb hu hB
  go_wp2_with fail
  go_loopw [34] (fun i wr => ∃ (j : Nat) (x : Pl.XS) (y : Pl.YS) (a : Option Addr) (n c : Nat) (ds : List Int), i = .int .i64 j ∧ j ≤ len ∧ x.cnt ≤ (j : Int) ∧ Hid (PS w wr b u B x y a n c ds) ∧ Hid (Pl.Sim y x ds)) (fun i _ => len - (RowKit.intOf i).toNat)
  case atStart => exact ⟨0, _, _, _, _, _, _, rfl, by omega, by show (0 : Int) ≤ 0; omega, P2, Lib.hid (Pl.sim_new d)⟩
  case round =>
    obtain ⟨j, x, y, a, n, c, ds, rfl, hj, hcj, hP, hS⟩ := hrel
    by_cases hlt : j < len
    · obtain ⟨bx, ox, rfl, hb0, hbz, hrng, hW⟩ := ops_at HZ.out hP.out.bel hlt
      have t1 : decide ((j : Int) < (len : Int)) = true := by simp [hlt]
      obtain ⟨o, ho⟩ : ∃ o, z j = o := ⟨_, rfl⟩
      rw [ho] at hrng hW
      obtain ⟨cs, hcs⟩ : ∃ cs, opA o = cs := ⟨_, rfl⟩
      have i1 : Hid ((Try.prog.info? 47).map (·.size) = some cs.size) := Lib.hid (by rw [← hcs]; kernel_rfl)
      have i2 : Hid (zOp.size = cs.size) := Lib.hid (by rw [← hcs]; rfl)
      have i3 : Hid (cs.all (·.oneCell') = true) := Lib.hid (by rw [← hcs]; kernel_rfl)
      rw [hcs] at hrng
      have hcs := Lib.hid hcs
      have hrng' := Lib.hid hrng
      have A1 := Lib.hid (Blk.new wr 47 zOp)
      have hdb := Lib.hid (show wr.heap.size ≠ b from fun e => by have := hP.out.xb.lt; omega)
      have hdu := Lib.hid (show wr.heap.size ≠ u from fun e => by have := hP.out.yb.lt; omega)
      have hW := Lib.hid hW
      have hk : (o.k == 0) = true ∨ ((o.k == 0) = false ∧ ((o.k == 1) = true ∨ (o.k == 1) = false)) := by
        cases (o.k == 0) <;> cases (o.k == 1) <;> simp
      clear hrng ho
      rcases hk with k0 | ⟨k0, k1 | k1⟩
      · go_wp2_with (first | (refine wpList_load_rng rfl 47 _ rfl bx (ox + j * 26) rfl cs _ hrng'.out Try.underlying47 rfl i1.out ?_; simp only [Act.put, List.getElem_toArray, List.getElem_cons_zero, List.getElem_cons_succ, List.setIfInBounds_toArray, List.set_cons_zero, List.set_cons_succ]) | (refine wpList_store_blk rfl 47 _ _ rfl wr.heap.size cs rfl rfl 47 zOp A1.out i1.out i2.out i3.out ?_; intro W4 D4n HG; rw [← hcs.out] at D4n; have l4 := Below.only (bel_bx' wr (.cells zOp 47)) HG (Nat.le_refl _) (bel_bx' wr (.cells zOp 47)).size; have P4 := Lib.hid ((hP.out.on l4).drewN 1); have D4 := Lib.hid (D4n.drewN 1); have S1 := Lib.hid (op_rng D4.out); have o0 : W4.cell? ⟨wr.heap.size, 0, none⟩ = some (.int .u8 o.k) := D4n.cell 0; have oz := D4n.lt; clear D4n HG l4 A1))
        have RQ := Lib.hid (fun W (q : Blk W b 65 (xA x)) => preq_any b x o.s o.t W q)
        have RY := Lib.hid (fun W (q : Blk W u 74 (yA y (.slice a n c))) => yreq_any u y (.slice a n c) o.s o.t W q)
        obtain ⟨E, hE⟩ : ∃ E, Pl.reqE o.s o.t = E := ⟨_, rfl⟩
        rw [hE] at RQ RY
        clear hE
        refine wp_region_held_drew (S := (fun w' : World => w'.rangeAt wr.heap.size 3 (pmA o.m).toList ∧ w'.cell? ⟨wr.heap.size, 1, none⟩ = some (.int .i64 o.s) ∧ w'.cell? ⟨wr.heap.size, 2, none⟩ = some (.int .i64 o.t) ∧ w'.cell? ⟨wr.heap.size, 24, none⟩ = some (.int .u64 o.ck) ∧ w'.cell? ⟨wr.heap.size, 25, none⟩ = some (.int .i64 o.po))) (by kernel_rfl) S1.out (fun hHeld => ?_)
        refine wpAnyH_take (i := 0) (oi := _) (v := ?_) rfl (by kernel_rfl) (by kernel_rfl) (by kernel_rfl) (fun _ _ _ h => h) (Or.inl ⟨by rfl, ?_⟩) (by assumption) ?_
        rotate_left
        focus (intro w hSw; (try dsimp only at hSw); go_simp; try with_reducible rfl)
        try simp only [Act.put, List.getElem_toArray, List.getElem_cons_zero, List.getElem_cons_succ, List.setIfInBounds_toArray, List.set_cons_zero, List.set_cons_succ]
        refine wpAnyH_take (i := 1) (oi := _) (v := ?_) rfl (by kernel_rfl) (by kernel_rfl) (by kernel_rfl) (fun _ _ _ h => h) (Or.inl ⟨by rfl, ?_⟩) (by assumption) ?_
        rotate_left
        focus (intro w hSw; (try dsimp only at hSw); go_simp; try with_reducible rfl)
        try simp only [Act.put, List.getElem_toArray, List.getElem_cons_zero, List.getElem_cons_succ, List.setIfInBounds_toArray, List.set_cons_zero, List.set_cons_succ]
        refine wpAnyH_take (i := 2) (oi := _) (v := ?_) rfl (by kernel_rfl) (by kernel_rfl) (by kernel_rfl) (fun _ _ _ h => h) (Or.inl ⟨by rfl, ?_⟩) (by assumption) ?_
        rotate_left
        focus (intro w hSw; (try dsimp only at hSw); go_simp; try with_reducible rfl)
        try simp only [Act.put, List.getElem_toArray, List.getElem_cons_zero, List.getElem_cons_succ, List.setIfInBounds_toArray, List.set_cons_zero, List.set_cons_succ]
        refine wpAnyH_take (i := 3) (oi := _) (v := ?_) rfl (by kernel_rfl) (by kernel_rfl) (by kernel_rfl) (fun _ _ _ h => h) (Or.inl ⟨by rfl, ?_⟩) (by assumption) ?_
        rotate_left
        focus (intro w hSw; (try dsimp only at hSw); go_simp; try with_reducible rfl)
        try simp only [Act.put, List.getElem_toArray, List.getElem_cons_zero, List.getElem_cons_succ, List.setIfInBounds_toArray, List.set_cons_zero, List.set_cons_succ]
        refine wpAnyH_take (i := 4) (oi := _) (v := ?_) rfl (by kernel_rfl) (by kernel_rfl) (by kernel_rfl) (fun _ _ _ h => h) (Or.inl ⟨by rfl, ?_⟩) (by assumption) ?_
        rotate_left
        focus (intro w hSw; (try dsimp only at hSw); go_simp; try with_reducible rfl)
        try simp only [Act.put, List.getElem_toArray, List.getElem_cons_zero, List.getElem_cons_succ, List.setIfInBounds_toArray, List.set_cons_zero, List.set_cons_succ]
        refine wpAnyH_take (i := 6) (oi := _) (v := ?_) rfl (by kernel_rfl) (by kernel_rfl) (by kernel_rfl) (fun _ _ _ h => h) (Or.inl ⟨by rfl, ?_⟩) (by assumption) ?_
        rotate_left
        focus (intro w hSw; (try dsimp only at hSw); go_simp; try with_reducible rfl)
        try simp only [Act.put, List.getElem_toArray, List.getElem_cons_zero, List.getElem_cons_succ, List.setIfInBounds_toArray, List.set_cons_zero, List.set_cons_succ]
        refine wpAnyH_take (i := 7) (oi := _) (v := ?_) rfl (by kernel_rfl) (by kernel_rfl) (by kernel_rfl) (fun _ _ _ h => h) (Or.inl ⟨by rfl, ?_⟩) (by assumption) ?_
        rotate_left
        focus (intro w hSw; (try dsimp only at hSw); go_simp; try with_reducible rfl)
        try simp only [Act.put, List.getElem_toArray, List.getElem_cons_zero, List.getElem_cons_succ, List.setIfInBounds_toArray, List.set_cons_zero, List.set_cons_succ]
        refine wpAnyH_take (i := 8) (oi := _) (v := ?_) rfl (by kernel_rfl) (by kernel_rfl) (by kernel_rfl) (fun _ _ _ h => h) (Or.inl ⟨by rfl, ?_⟩) (by assumption) ?_
        rotate_left
        focus (intro w hSw; (try dsimp only at hSw); go_simp; try with_reducible rfl)
        try simp only [Act.put, List.getElem_toArray, List.getElem_cons_zero, List.getElem_cons_succ, List.setIfInBounds_toArray, List.set_cons_zero, List.set_cons_succ]
        refine wpAnyH_take (i := 9) (oi := _) (v := ?_) rfl (by kernel_rfl) (by kernel_rfl) (by kernel_rfl) (fun _ _ _ h => h) (Or.inl ⟨by rfl, ?_⟩) (by assumption) ?_
        rotate_left
        focus (intro w hSw; (try dsimp only at hSw); go_simp; try with_reducible rfl)
        try simp only [Act.put, List.getElem_toArray, List.getElem_cons_zero, List.getElem_cons_succ, List.setIfInBounds_toArray, List.set_cons_zero, List.set_cons_succ]
        refine wpAnyH_take (i := 10) (oi := _) (v := ?_) rfl (by kernel_rfl) (by kernel_rfl) (by kernel_rfl) (fun _ _ _ h => h) (Or.inl ⟨by rfl, ?_⟩) (by assumption) ?_
        rotate_left
        focus (intro w hSw; (try dsimp only at hSw); go_simp; try with_reducible rfl)
        try simp only [Act.put, List.getElem_toArray, List.getElem_cons_zero, List.getElem_cons_succ, List.setIfInBounds_toArray, List.set_cons_zero, List.set_cons_succ]
        refine wpAnyH_ready (rs := [5]) (by kernel_rfl) (by simp) ?_
        refine AllReadyH.cons rfl (fun K hK => ?_) AllReadyH.nil
        go_simp
        refine (RQ.out _ P4.out.xb).mono ?_
        rintro _ v1 ⟨rfl, X1, g1⟩
        have P1 := Lib.hid (P4.out.turnX X1 g1)
        have D1 := Lib.hid (D4.out.grown g1 (fun e => by injection e with e; exact hdb.out e))
        have S1b := Lib.hid (op_rng D1.out)
        clear X1 g1
        go_simp
        refine hK.out _ _ (S1b.out) (fun hHeld2 => ?_)
        clear hK K hHeld
        have hHeld := hHeld2
        clear hHeld2
        try simp only [Act.put, List.getElem_toArray, List.getElem_cons_zero, List.getElem_cons_succ, List.setIfInBounds_toArray, List.set_cons_zero, List.set_cons_succ]
        refine wpAnyH_ready (rs := [11]) (by kernel_rfl) (by simp) ?_
        refine AllReadyH.cons rfl (fun K hK => ?_) AllReadyH.nil
        go_simp
        refine (RY.out _ P1.out.yb).mono ?_
        rintro _ w5 ⟨rfl, Y1, g1⟩
        have P5 := Lib.hid (P1.out.turnY Y1 g1)
        have S5 := Lib.hid (hS.out.req o.s o.t)
        have S1c := Lib.hid (op_rng (D1.out.grown g1 (fun e => by injection e with e; exact hdu.out e)))
        have C5 := Lib.hid (show (Pl.reqX x o.s o.t).cnt ≤ ((j + 1 : Nat) : Int) by rw [Pl.reqX_cnt]; omega)
        clear Y1 g1
        go_simp
        refine hK.out _ _ (S1c.out) (fun hHeld2 => ?_)
        clear hK K hHeld
        have hHeld := hHeld2
        clear hHeld2
        try simp only [Act.put, List.getElem_toArray, List.getElem_cons_zero, List.getElem_cons_succ, List.setIfInBounds_toArray, List.set_cons_zero, List.set_cons_succ]
        refine wpAnyH_take (i := 12) (oi := _) (v := ?_) rfl (by kernel_rfl) (by kernel_rfl) (by kernel_rfl) (fun _ _ _ h => h) (Or.inl ⟨by rfl, ?_⟩) (by assumption) ?_
        rotate_left
        focus (intro w hSw; (try dsimp only at hSw); go_simp; try with_reducible rfl)
        try simp only [Act.put, List.getElem_toArray, List.getElem_cons_zero, List.getElem_cons_succ, List.setIfInBounds_toArray, List.set_cons_zero, List.set_cons_succ]
        refine wpAnyH_take (i := 13) (oi := _) (v := ?_) rfl (by kernel_rfl) (by kernel_rfl) (by kernel_rfl) (fun _ _ _ h => h) (Or.inl ⟨by rfl, ?_⟩) (by assumption) ?_
        rotate_left
        focus (intro w hSw; (try dsimp only at hSw); go_simp; try with_reducible rfl)
        try simp only [Act.put, List.getElem_toArray, List.getElem_cons_zero, List.getElem_cons_succ, List.setIfInBounds_toArray, List.set_cons_zero, List.set_cons_succ]
        refine wpAnyH_done (by kernel_rfl) ?_ _
        have HD := Lib.hid (pdel_any b _ w5 P5.out.xb S5.out.xok)
        have HR := Lib.hid (fun n => prat_any b _ (w5.drewN n) (P5.out.xb.drewN n) S5.out.xok)
        have HE := Lib.hid (fun n => ydel_any B u _ _ _ _ _ (w5.drewN n) (P5.out.yb.drewN n) P5.out.own (by have := S5.out.len; have h2 := P5.out.own.1; rw [List.length_map] at h2; omega) S5.out.mem)
        have HQ := Lib.hid (fun n => yrat_any u _ _ (w5.drewN n) (P5.out.yb.drewN n) S5.out.yok2)
        rw [S5.out.del.1, S5.out.del.2] at HE
        rw [S5.out.rat.1, S5.out.rat.2] at HQ
        generalize (Pl.delN _) = V1 at HD HE
        generalize (Pl.delB _) = V2 at HD HE
        generalize (Pl.ratN _) = V3 at HR HQ
        generalize (Pl.ratB _) = V4 at HR HQ
        go_wp2_with fail
        refine HD.out.mono ?_
        rintro _ w6 ⟨rfl, n6, rfl⟩
        go_wp2_with fail
        refine (HE.out n6).mono ?_
        rintro _ w7 ⟨rfl, rfl⟩
        go_wp2_with fail
        refine (HR.out n6).mono ?_
        rintro _ w8 ⟨rfl, n8, rfl⟩
        go_wp2_with fail
        refine (HQ.out (n6 + n8)).mono ?_
        rintro _ w9 ⟨rfl, n9, rfl⟩
        go_wp2_with fail
        exact ⟨⟨j + 1, _, _, _, _, _, _, by go_num, by omega, C5, Lib.hid (P5.out.drewN (n6 + n8 + n9)), S5⟩, by simp [RowKit.intOf]; omega⟩
      · go_wp2_with (first | (refine wpList_load_rng rfl 47 _ rfl bx (ox + j * 26) rfl cs _ hrng'.out Try.underlying47 rfl i1.out ?_; simp only [Act.put, List.getElem_toArray, List.getElem_cons_zero, List.getElem_cons_succ, List.setIfInBounds_toArray, List.set_cons_zero, List.set_cons_succ]) | (refine wpList_store_blk rfl 47 _ _ rfl wr.heap.size cs rfl rfl 47 zOp A1.out i1.out i2.out i3.out ?_; intro W4 D4n HG; rw [← hcs.out] at D4n; have l4 := Below.only (bel_bx' wr (.cells zOp 47)) HG (Nat.le_refl _) (bel_bx' wr (.cells zOp 47)).size; have P4 := Lib.hid ((hP.out.on l4).drewN 1); have D4 := Lib.hid (D4n.drewN 1); have S1 := Lib.hid (op_rng D4.out); have o0 : W4.cell? ⟨wr.heap.size, 0, none⟩ = some (.int .u8 o.k) := D4n.cell 0; have oz := D4n.lt; clear D4n HG l4 A1))
        have RQ := Lib.hid (fun W (q : Blk W b 65 (xA x)) => presp_any b x o.m o.t o.ck o.po W q hW.out.m.k)
        have RY := Lib.hid (fun W (q : Blk W u 74 (yA y (.slice a n c))) => yresp_any u y (.slice a n c) o.m o.t o.ck o.po W q)
        rw [hS.out.respE] at RY
        obtain ⟨E, hE⟩ : ∃ E, Pl.respE x o.m o.t o.ck o.po = E := ⟨_, rfl⟩
        rw [hE] at RQ RY
        clear hE
        refine wp_region_held_drew (S := (fun w' : World => w'.rangeAt wr.heap.size 3 (pmA o.m).toList ∧ w'.cell? ⟨wr.heap.size, 1, none⟩ = some (.int .i64 o.s) ∧ w'.cell? ⟨wr.heap.size, 2, none⟩ = some (.int .i64 o.t) ∧ w'.cell? ⟨wr.heap.size, 24, none⟩ = some (.int .u64 o.ck) ∧ w'.cell? ⟨wr.heap.size, 25, none⟩ = some (.int .i64 o.po))) (by kernel_rfl) S1.out (fun hHeld => ?_)
        refine wpAnyH_take (i := 0) (oi := _) (v := ?_) rfl (by kernel_rfl) (by kernel_rfl) (by kernel_rfl) (fun _ _ _ h => h) (Or.inl ⟨by rfl, ?_⟩) (by assumption) ?_
        rotate_left
        focus (intro w hSw; (try dsimp only at hSw); go_simp; try with_reducible rfl)
        try simp only [Act.put, List.getElem_toArray, List.getElem_cons_zero, List.getElem_cons_succ, List.setIfInBounds_toArray, List.set_cons_zero, List.set_cons_succ]
        refine wpAnyH_take (i := 1) (oi := _) (v := ?_) rfl (by kernel_rfl) (by kernel_rfl) (by kernel_rfl) (fun _ _ _ h => h) (Or.inl ⟨by rfl, ?_⟩) (by assumption) ?_
        rotate_left
        focus (intro w hSw; (try dsimp only at hSw); go_simp; try with_reducible rfl)
        try simp only [Act.put, List.getElem_toArray, List.getElem_cons_zero, List.getElem_cons_succ, List.setIfInBounds_toArray, List.set_cons_zero, List.set_cons_succ]
        refine wpAnyH_take (i := 2) (oi := _) (v := .agg (pmA o.m)) rfl (by kernel_rfl) (by kernel_rfl) (by kernel_rfl) (fun _ _ _ h => h) (yieldsIf_load_rng rfl 38 _ rfl wr.heap.size 3 rfl (pmA o.m) _ (fun w' h => h.1) Try.underlying38 rfl (by kernel_rfl)) (by assumption) ?_
        try simp only [Act.put, List.getElem_toArray, List.getElem_cons_zero, List.getElem_cons_succ, List.setIfInBounds_toArray, List.set_cons_zero, List.set_cons_succ]
        refine wpAnyH_take (i := 3) (oi := _) (v := ?_) rfl (by kernel_rfl) (by kernel_rfl) (by kernel_rfl) (fun _ _ _ h => h) (Or.inl ⟨by rfl, ?_⟩) (by assumption) ?_
        rotate_left
        focus (intro w hSw; (try dsimp only at hSw); go_simp; try with_reducible rfl)
        try simp only [Act.put, List.getElem_toArray, List.getElem_cons_zero, List.getElem_cons_succ, List.setIfInBounds_toArray, List.set_cons_zero, List.set_cons_succ]
        refine wpAnyH_take (i := 4) (oi := _) (v := ?_) rfl (by kernel_rfl) (by kernel_rfl) (by kernel_rfl) (fun _ _ _ h => h) (Or.inl ⟨by rfl, ?_⟩) (by assumption) ?_
        rotate_left
        focus (intro w hSw; (try dsimp only at hSw); go_simp; try with_reducible rfl)
        try simp only [Act.put, List.getElem_toArray, List.getElem_cons_zero, List.getElem_cons_succ, List.setIfInBounds_toArray, List.set_cons_zero, List.set_cons_succ]
        refine wpAnyH_take (i := 5) (oi := _) (v := ?_) rfl (by kernel_rfl) (by kernel_rfl) (by kernel_rfl) (fun _ _ _ h => h) (Or.inl ⟨by rfl, ?_⟩) (by assumption) ?_
        rotate_left
        focus (intro w hSw; (try dsimp only at hSw); go_simp; try with_reducible rfl)
        try simp only [Act.put, List.getElem_toArray, List.getElem_cons_zero, List.getElem_cons_succ, List.setIfInBounds_toArray, List.set_cons_zero, List.set_cons_succ]
        refine wpAnyH_take (i := 6) (oi := _) (v := ?_) rfl (by kernel_rfl) (by kernel_rfl) (by kernel_rfl) (fun _ _ _ h => h) (Or.inl ⟨by rfl, ?_⟩) (by assumption) ?_
        rotate_left
        focus (intro w hSw; (try dsimp only at hSw); go_simp; try with_reducible rfl)
        try simp only [Act.put, List.getElem_toArray, List.getElem_cons_zero, List.getElem_cons_succ, List.setIfInBounds_toArray, List.set_cons_zero, List.set_cons_succ]
        refine wpAnyH_take (i := 7) (oi := _) (v := ?_) rfl (by kernel_rfl) (by kernel_rfl) (by kernel_rfl) (fun _ _ _ h => h) (Or.inl ⟨by rfl, ?_⟩) (by assumption) ?_
        rotate_left
        focus (intro w hSw; (try dsimp only at hSw); go_simp; try with_reducible rfl)
        try simp only [Act.put, List.getElem_toArray, List.getElem_cons_zero, List.getElem_cons_succ, List.setIfInBounds_toArray, List.set_cons_zero, List.set_cons_succ]
        refine wpAnyH_take (i := 8) (oi := _) (v := ?_) rfl (by kernel_rfl) (by kernel_rfl) (by kernel_rfl) (fun _ _ _ h => h) (Or.inl ⟨by rfl, ?_⟩) (by assumption) ?_
        rotate_left
        focus (intro w hSw; (try dsimp only at hSw); go_simp; try with_reducible rfl)
        try simp only [Act.put, List.getElem_toArray, List.getElem_cons_zero, List.getElem_cons_succ, List.setIfInBounds_toArray, List.set_cons_zero, List.set_cons_succ]
        refine wpAnyH_take (i := 10) (oi := _) (v := ?_) rfl (by kernel_rfl) (by kernel_rfl) (by kernel_rfl) (fun _ _ _ h => h) (Or.inl ⟨by rfl, ?_⟩) (by assumption) ?_
        rotate_left
        focus (intro w hSw; (try dsimp only at hSw); go_simp; try with_reducible rfl)
        try simp only [Act.put, List.getElem_toArray, List.getElem_cons_zero, List.getElem_cons_succ, List.setIfInBounds_toArray, List.set_cons_zero, List.set_cons_succ]
        refine wpAnyH_take (i := 11) (oi := _) (v := ?_) rfl (by kernel_rfl) (by kernel_rfl) (by kernel_rfl) (fun _ _ _ h => h) (Or.inl ⟨by rfl, ?_⟩) (by assumption) ?_
        rotate_left
        focus (intro w hSw; (try dsimp only at hSw); go_simp; try with_reducible rfl)
        try simp only [Act.put, List.getElem_toArray, List.getElem_cons_zero, List.getElem_cons_succ, List.setIfInBounds_toArray, List.set_cons_zero, List.set_cons_succ]
        refine wpAnyH_take (i := 12) (oi := _) (v := .agg (pmA o.m)) rfl (by kernel_rfl) (by kernel_rfl) (by kernel_rfl) (fun _ _ _ h => h) (yieldsIf_load_rng rfl 38 _ rfl wr.heap.size 3 rfl (pmA o.m) _ (fun w' h => h.1) Try.underlying38 rfl (by kernel_rfl)) (by assumption) ?_
        try simp only [Act.put, List.getElem_toArray, List.getElem_cons_zero, List.getElem_cons_succ, List.setIfInBounds_toArray, List.set_cons_zero, List.set_cons_succ]
        refine wpAnyH_take (i := 13) (oi := _) (v := ?_) rfl (by kernel_rfl) (by kernel_rfl) (by kernel_rfl) (fun _ _ _ h => h) (Or.inl ⟨by rfl, ?_⟩) (by assumption) ?_
        rotate_left
        focus (intro w hSw; (try dsimp only at hSw); go_simp; try with_reducible rfl)
        try simp only [Act.put, List.getElem_toArray, List.getElem_cons_zero, List.getElem_cons_succ, List.setIfInBounds_toArray, List.set_cons_zero, List.set_cons_succ]
        refine wpAnyH_take (i := 14) (oi := _) (v := ?_) rfl (by kernel_rfl) (by kernel_rfl) (by kernel_rfl) (fun _ _ _ h => h) (Or.inl ⟨by rfl, ?_⟩) (by assumption) ?_
        rotate_left
        focus (intro w hSw; (try dsimp only at hSw); go_simp; try with_reducible rfl)
        try simp only [Act.put, List.getElem_toArray, List.getElem_cons_zero, List.getElem_cons_succ, List.setIfInBounds_toArray, List.set_cons_zero, List.set_cons_succ]
        refine wpAnyH_take (i := 15) (oi := _) (v := ?_) rfl (by kernel_rfl) (by kernel_rfl) (by kernel_rfl) (fun _ _ _ h => h) (Or.inl ⟨by rfl, ?_⟩) (by assumption) ?_
        rotate_left
        focus (intro w hSw; (try dsimp only at hSw); go_simp; try with_reducible rfl)
        try simp only [Act.put, List.getElem_toArray, List.getElem_cons_zero, List.getElem_cons_succ, List.setIfInBounds_toArray, List.set_cons_zero, List.set_cons_succ]
        refine wpAnyH_take (i := 16) (oi := _) (v := ?_) rfl (by kernel_rfl) (by kernel_rfl) (by kernel_rfl) (fun _ _ _ h => h) (Or.inl ⟨by rfl, ?_⟩) (by assumption) ?_
        rotate_left
        focus (intro w hSw; (try dsimp only at hSw); go_simp; try with_reducible rfl)
        try simp only [Act.put, List.getElem_toArray, List.getElem_cons_zero, List.getElem_cons_succ, List.setIfInBounds_toArray, List.set_cons_zero, List.set_cons_succ]
        refine wpAnyH_take (i := 17) (oi := _) (v := ?_) rfl (by kernel_rfl) (by kernel_rfl) (by kernel_rfl) (fun _ _ _ h => h) (Or.inl ⟨by rfl, ?_⟩) (by assumption) ?_
        rotate_left
        focus (intro w hSw; (try dsimp only at hSw); go_simp; try with_reducible rfl)
        try simp only [Act.put, List.getElem_toArray, List.getElem_cons_zero, List.getElem_cons_succ, List.setIfInBounds_toArray, List.set_cons_zero, List.set_cons_succ]
        refine wpAnyH_take (i := 18) (oi := _) (v := ?_) rfl (by kernel_rfl) (by kernel_rfl) (by kernel_rfl) (fun _ _ _ h => h) (Or.inl ⟨by rfl, ?_⟩) (by assumption) ?_
        rotate_left
        focus (intro w hSw; (try dsimp only at hSw); go_simp; try with_reducible rfl)
        try simp only [Act.put, List.getElem_toArray, List.getElem_cons_zero, List.getElem_cons_succ, List.setIfInBounds_toArray, List.set_cons_zero, List.set_cons_succ]
        refine wpAnyH_ready (rs := [9]) (by kernel_rfl) (by simp) ?_
        refine AllReadyH.cons rfl (fun K hK => ?_) AllReadyH.nil
        go_simp
        refine (RQ.out _ P4.out.xb).mono ?_
        rintro _ v1 ⟨rfl, X1, g1⟩
        have P1 := Lib.hid (P4.out.turnX X1 g1)
        have D1 := Lib.hid (D4.out.grown g1 (fun e => by injection e with e; exact hdb.out e))
        have S1b := Lib.hid (op_rng D1.out)
        clear X1 g1
        go_simp
        refine hK.out _ _ (S1b.out) (fun hHeld2 => ?_)
        clear hK K hHeld
        have hHeld := hHeld2
        clear hHeld2
        try simp only [Act.put, List.getElem_toArray, List.getElem_cons_zero, List.getElem_cons_succ, List.setIfInBounds_toArray, List.set_cons_zero, List.set_cons_succ]
        refine wpAnyH_ready (rs := [19]) (by kernel_rfl) (by simp) ?_
        refine AllReadyH.cons rfl (fun K hK => ?_) AllReadyH.nil
        go_simp
        refine (RY.out _ P1.out.yb).mono ?_
        rintro _ w5 ⟨rfl, Y1, g1⟩
        have P5 := Lib.hid (P1.out.turnY Y1 g1)
        have S5 := Lib.hid (hS.out.resp o.m o.t o.ck o.po (wf64 hW.out.m.co))
        have S1c := Lib.hid (op_rng (D1.out.grown g1 (fun e => by injection e with e; exact hdu.out e)))
        have C5 := Lib.hid (show (Pl.respX x o.m o.t o.ck o.po).cnt ≤ ((j + 1 : Nat) : Int) by rw [Pl.respX_cnt]; omega)
        clear Y1 g1
        go_simp
        refine hK.out _ _ (S1c.out) (fun hHeld2 => ?_)
        clear hK K hHeld
        have hHeld := hHeld2
        clear hHeld2
        try simp only [Act.put, List.getElem_toArray, List.getElem_cons_zero, List.getElem_cons_succ, List.setIfInBounds_toArray, List.set_cons_zero, List.set_cons_succ]
        refine wpAnyH_take (i := 20) (oi := _) (v := ?_) rfl (by kernel_rfl) (by kernel_rfl) (by kernel_rfl) (fun _ _ _ h => h) (Or.inl ⟨by rfl, ?_⟩) (by assumption) ?_
        rotate_left
        focus (intro w hSw; (try dsimp only at hSw); go_simp; try with_reducible rfl)
        try simp only [Act.put, List.getElem_toArray, List.getElem_cons_zero, List.getElem_cons_succ, List.setIfInBounds_toArray, List.set_cons_zero, List.set_cons_succ]
        refine wpAnyH_take (i := 21) (oi := _) (v := ?_) rfl (by kernel_rfl) (by kernel_rfl) (by kernel_rfl) (fun _ _ _ h => h) (Or.inl ⟨by rfl, ?_⟩) (by assumption) ?_
        rotate_left
        focus (intro w hSw; (try dsimp only at hSw); go_simp; try with_reducible rfl)
        try simp only [Act.put, List.getElem_toArray, List.getElem_cons_zero, List.getElem_cons_succ, List.setIfInBounds_toArray, List.set_cons_zero, List.set_cons_succ]
        refine wpAnyH_done (by kernel_rfl) ?_ _
        have HD := Lib.hid (pdel_any b _ w5 P5.out.xb S5.out.xok)
        have HR := Lib.hid (fun n => prat_any b _ (w5.drewN n) (P5.out.xb.drewN n) S5.out.xok)
        have HE := Lib.hid (fun n => ydel_any B u _ _ _ _ _ (w5.drewN n) (P5.out.yb.drewN n) P5.out.own (by have := S5.out.len; have h2 := P5.out.own.1; rw [List.length_map] at h2; omega) S5.out.mem)
        have HQ := Lib.hid (fun n => yrat_any u _ _ (w5.drewN n) (P5.out.yb.drewN n) S5.out.yok2)
        rw [S5.out.del.1, S5.out.del.2] at HE
        rw [S5.out.rat.1, S5.out.rat.2] at HQ
        generalize (Pl.delN _) = V1 at HD HE
        generalize (Pl.delB _) = V2 at HD HE
        generalize (Pl.ratN _) = V3 at HR HQ
        generalize (Pl.ratB _) = V4 at HR HQ
        go_wp2_with fail
        refine HD.out.mono ?_
        rintro _ w6 ⟨rfl, n6, rfl⟩
        go_wp2_with fail
        refine (HE.out n6).mono ?_
        rintro _ w7 ⟨rfl, rfl⟩
        go_wp2_with fail
        refine (HR.out n6).mono ?_
        rintro _ w8 ⟨rfl, n8, rfl⟩
        go_wp2_with fail
        refine (HQ.out (n6 + n8)).mono ?_
        rintro _ w9 ⟨rfl, n9, rfl⟩
        go_wp2_with fail
        exact ⟨⟨j + 1, _, _, _, _, _, _, by go_num, by omega, C5, Lib.hid (P5.out.drewN (n6 + n8 + n9)), S5⟩, by simp [RowKit.intOf]; omega⟩
      · go_wp2_with (first | (refine wpList_load_rng rfl 47 _ rfl bx (ox + j * 26) rfl cs _ hrng'.out Try.underlying47 rfl i1.out ?_; simp only [Act.put, List.getElem_toArray, List.getElem_cons_zero, List.getElem_cons_succ, List.setIfInBounds_toArray, List.set_cons_zero, List.set_cons_succ]) | (refine wpList_store_blk rfl 47 _ _ rfl wr.heap.size cs rfl rfl 47 zOp A1.out i1.out i2.out i3.out ?_; intro W4 D4n HG; rw [← hcs.out] at D4n; have l4 := Below.only (bel_bx' wr (.cells zOp 47)) HG (Nat.le_refl _) (bel_bx' wr (.cells zOp 47)).size; have P4 := Lib.hid ((hP.out.on l4).drewN 1); have D4 := Lib.hid (D4n.drewN 1); have S1 := Lib.hid (op_rng D4.out); have o0 : W4.cell? ⟨wr.heap.size, 0, none⟩ = some (.int .u8 o.k) := D4n.cell 0; have oz := D4n.lt; clear D4n HG l4 A1))
        have RQ := Lib.hid (fun W (q : Blk W b 65 (xA x)) => pfol_any b x o.m o.ck o.po W q hW.out.m hS.out.xok)
        have RY := Lib.hid (fun W (q : Blk W u 74 (yA y (.slice a n c))) (q2 : B ≤ W.heap.size) (q3 : W.ownsRow B 3 1 (.slice a n c) n (ds.map (Value.int .i64))) => yfol_any B u y a n c ds o.m o.ck o.po W q q2 q3 (wf64 hW.out.m.co) hS.out.yok (by have := hS.out.len; have h2 := q3.1; rw [List.length_map] at h2; omega))
        rw [hS.out.folE] at RY
        obtain ⟨E, hE⟩ : ∃ E, Pl.folE x o.m o.ck o.po = E := ⟨_, rfl⟩
        rw [hE] at RQ RY
        clear hE
        refine wp_region_held_drew (S := (fun w' : World => w'.rangeAt wr.heap.size 3 (pmA o.m).toList ∧ w'.cell? ⟨wr.heap.size, 1, none⟩ = some (.int .i64 o.s) ∧ w'.cell? ⟨wr.heap.size, 2, none⟩ = some (.int .i64 o.t) ∧ w'.cell? ⟨wr.heap.size, 24, none⟩ = some (.int .u64 o.ck) ∧ w'.cell? ⟨wr.heap.size, 25, none⟩ = some (.int .i64 o.po))) (by kernel_rfl) S1.out (fun hHeld => ?_)
        refine wpAnyH_take (i := 0) (oi := _) (v := ?_) rfl (by kernel_rfl) (by kernel_rfl) (by kernel_rfl) (fun _ _ _ h => h) (Or.inl ⟨by rfl, ?_⟩) (by assumption) ?_
        rotate_left
        focus (intro w hSw; (try dsimp only at hSw); go_simp; try with_reducible rfl)
        try simp only [Act.put, List.getElem_toArray, List.getElem_cons_zero, List.getElem_cons_succ, List.setIfInBounds_toArray, List.set_cons_zero, List.set_cons_succ]
        refine wpAnyH_take (i := 1) (oi := _) (v := ?_) rfl (by kernel_rfl) (by kernel_rfl) (by kernel_rfl) (fun _ _ _ h => h) (Or.inl ⟨by rfl, ?_⟩) (by assumption) ?_
        rotate_left
        focus (intro w hSw; (try dsimp only at hSw); go_simp; try with_reducible rfl)
        try simp only [Act.put, List.getElem_toArray, List.getElem_cons_zero, List.getElem_cons_succ, List.setIfInBounds_toArray, List.set_cons_zero, List.set_cons_succ]
        refine wpAnyH_take (i := 2) (oi := _) (v := .agg (pmA o.m)) rfl (by kernel_rfl) (by kernel_rfl) (by kernel_rfl) (fun _ _ _ h => h) (yieldsIf_load_rng rfl 38 _ rfl wr.heap.size 3 rfl (pmA o.m) _ (fun w' h => h.1) Try.underlying38 rfl (by kernel_rfl)) (by assumption) ?_
        try simp only [Act.put, List.getElem_toArray, List.getElem_cons_zero, List.getElem_cons_succ, List.setIfInBounds_toArray, List.set_cons_zero, List.set_cons_succ]
        refine wpAnyH_take (i := 3) (oi := _) (v := ?_) rfl (by kernel_rfl) (by kernel_rfl) (by kernel_rfl) (fun _ _ _ h => h) (Or.inl ⟨by rfl, ?_⟩) (by assumption) ?_
        rotate_left
        focus (intro w hSw; (try dsimp only at hSw); go_simp; try with_reducible rfl)
        try simp only [Act.put, List.getElem_toArray, List.getElem_cons_zero, List.getElem_cons_succ, List.setIfInBounds_toArray, List.set_cons_zero, List.set_cons_succ]
        refine wpAnyH_take (i := 4) (oi := _) (v := ?_) rfl (by kernel_rfl) (by kernel_rfl) (by kernel_rfl) (fun _ _ _ h => h) (Or.inl ⟨by rfl, ?_⟩) (by assumption) ?_
        rotate_left
        focus (intro w hSw; (try dsimp only at hSw); go_simp; try with_reducible rfl)
        try simp only [Act.put, List.getElem_toArray, List.getElem_cons_zero, List.getElem_cons_succ, List.setIfInBounds_toArray, List.set_cons_zero, List.set_cons_succ]
        refine wpAnyH_take (i := 5) (oi := _) (v := ?_) rfl (by kernel_rfl) (by kernel_rfl) (by kernel_rfl) (fun _ _ _ h => h) (Or.inl ⟨by rfl, ?_⟩) (by assumption) ?_
        rotate_left
        focus (intro w hSw; (try dsimp only at hSw); go_simp; try with_reducible rfl)
        try simp only [Act.put, List.getElem_toArray, List.getElem_cons_zero, List.getElem_cons_succ, List.setIfInBounds_toArray, List.set_cons_zero, List.set_cons_succ]
        refine wpAnyH_take (i := 6) (oi := _) (v := ?_) rfl (by kernel_rfl) (by kernel_rfl) (by kernel_rfl) (fun _ _ _ h => h) (Or.inl ⟨by rfl, ?_⟩) (by assumption) ?_
        rotate_left
        focus (intro w hSw; (try dsimp only at hSw); go_simp; try with_reducible rfl)
        try simp only [Act.put, List.getElem_toArray, List.getElem_cons_zero, List.getElem_cons_succ, List.setIfInBounds_toArray, List.set_cons_zero, List.set_cons_succ]
        refine wpAnyH_take (i := 8) (oi := _) (v := ?_) rfl (by kernel_rfl) (by kernel_rfl) (by kernel_rfl) (fun _ _ _ h => h) (Or.inl ⟨by rfl, ?_⟩) (by assumption) ?_
        rotate_left
        focus (intro w hSw; (try dsimp only at hSw); go_simp; try with_reducible rfl)
        try simp only [Act.put, List.getElem_toArray, List.getElem_cons_zero, List.getElem_cons_succ, List.setIfInBounds_toArray, List.set_cons_zero, List.set_cons_succ]
        refine wpAnyH_take (i := 9) (oi := _) (v := ?_) rfl (by kernel_rfl) (by kernel_rfl) (by kernel_rfl) (fun _ _ _ h => h) (Or.inl ⟨by rfl, ?_⟩) (by assumption) ?_
        rotate_left
        focus (intro w hSw; (try dsimp only at hSw); go_simp; try with_reducible rfl)
        try simp only [Act.put, List.getElem_toArray, List.getElem_cons_zero, List.getElem_cons_succ, List.setIfInBounds_toArray, List.set_cons_zero, List.set_cons_succ]
        refine wpAnyH_take (i := 10) (oi := _) (v := .agg (pmA o.m)) rfl (by kernel_rfl) (by kernel_rfl) (by kernel_rfl) (fun _ _ _ h => h) (yieldsIf_load_rng rfl 38 _ rfl wr.heap.size 3 rfl (pmA o.m) _ (fun w' h => h.1) Try.underlying38 rfl (by kernel_rfl)) (by assumption) ?_
        try simp only [Act.put, List.getElem_toArray, List.getElem_cons_zero, List.getElem_cons_succ, List.setIfInBounds_toArray, List.set_cons_zero, List.set_cons_succ]
        refine wpAnyH_take (i := 11) (oi := _) (v := ?_) rfl (by kernel_rfl) (by kernel_rfl) (by kernel_rfl) (fun _ _ _ h => h) (Or.inl ⟨by rfl, ?_⟩) (by assumption) ?_
        rotate_left
        focus (intro w hSw; (try dsimp only at hSw); go_simp; try with_reducible rfl)
        try simp only [Act.put, List.getElem_toArray, List.getElem_cons_zero, List.getElem_cons_succ, List.setIfInBounds_toArray, List.set_cons_zero, List.set_cons_succ]
        refine wpAnyH_take (i := 12) (oi := _) (v := ?_) rfl (by kernel_rfl) (by kernel_rfl) (by kernel_rfl) (fun _ _ _ h => h) (Or.inl ⟨by rfl, ?_⟩) (by assumption) ?_
        rotate_left
        focus (intro w hSw; (try dsimp only at hSw); go_simp; try with_reducible rfl)
        try simp only [Act.put, List.getElem_toArray, List.getElem_cons_zero, List.getElem_cons_succ, List.setIfInBounds_toArray, List.set_cons_zero, List.set_cons_succ]
        refine wpAnyH_take (i := 13) (oi := _) (v := ?_) rfl (by kernel_rfl) (by kernel_rfl) (by kernel_rfl) (fun _ _ _ h => h) (Or.inl ⟨by rfl, ?_⟩) (by assumption) ?_
        rotate_left
        focus (intro w hSw; (try dsimp only at hSw); go_simp; try with_reducible rfl)
        try simp only [Act.put, List.getElem_toArray, List.getElem_cons_zero, List.getElem_cons_succ, List.setIfInBounds_toArray, List.set_cons_zero, List.set_cons_succ]
        refine wpAnyH_take (i := 14) (oi := _) (v := ?_) rfl (by kernel_rfl) (by kernel_rfl) (by kernel_rfl) (fun _ _ _ h => h) (Or.inl ⟨by rfl, ?_⟩) (by assumption) ?_
        rotate_left
        focus (intro w hSw; (try dsimp only at hSw); go_simp; try with_reducible rfl)
        try simp only [Act.put, List.getElem_toArray, List.getElem_cons_zero, List.getElem_cons_succ, List.setIfInBounds_toArray, List.set_cons_zero, List.set_cons_succ]
        refine wpAnyH_ready (rs := [7]) (by kernel_rfl) (by simp) ?_
        refine AllReadyH.cons rfl (fun K hK => ?_) AllReadyH.nil
        go_simp
        refine (RQ.out _ P4.out.xb).mono ?_
        rintro _ v1 ⟨rfl, X1, g1⟩
        have P1 := Lib.hid (P4.out.turnX X1 g1)
        have D1 := Lib.hid (D4.out.grown g1 (fun e => by injection e with e; exact hdb.out e))
        have S1b := Lib.hid (op_rng D1.out)
        clear X1 g1
        go_simp
        refine hK.out _ _ (S1b.out) (fun hHeld2 => ?_)
        clear hK K hHeld
        have hHeld := hHeld2
        clear hHeld2
        try simp only [Act.put, List.getElem_toArray, List.getElem_cons_zero, List.getElem_cons_succ, List.setIfInBounds_toArray, List.set_cons_zero, List.set_cons_succ]
        refine wpAnyH_ready (rs := [15]) (by kernel_rfl) (by simp) ?_
        refine AllReadyH.cons rfl (fun K hK => ?_) AllReadyH.nil
        go_simp
        refine (RY.out _ P1.out.yb P1.out.hB P1.out.own).mono ?_
        rintro _ w5 ⟨rfl, a5, n5, c5, Y1, O1, g1⟩
        have P5 := Lib.hid (P1.out.turnF Y1 O1 g1)
        have S5 := Lib.hid (hS.out.fol o.m o.ck o.po (by omega))
        have S1c := Lib.hid (op_rng (D1.out.gr2 g1 hdu.out (own_ne P1.out.own D1.out (by decide))))
        have C5 : Hid ((Pl.folX x o.m o.ck o.po).cnt ≤ ((j + 1 : Nat) : Int)) := Lib.hid (by rcases Pl.folX_cnt (x := x) o.m o.ck o.po with h | h <;> rw [h] <;> omega)
        clear Y1 O1 g1
        go_simp
        refine hK.out _ _ (S1c.out) (fun hHeld2 => ?_)
        clear hK K hHeld
        have hHeld := hHeld2
        clear hHeld2
        try simp only [Act.put, List.getElem_toArray, List.getElem_cons_zero, List.getElem_cons_succ, List.setIfInBounds_toArray, List.set_cons_zero, List.set_cons_succ]
        refine wpAnyH_take (i := 16) (oi := _) (v := ?_) rfl (by kernel_rfl) (by kernel_rfl) (by kernel_rfl) (fun _ _ _ h => h) (Or.inl ⟨by rfl, ?_⟩) (by assumption) ?_
        rotate_left
        focus (intro w hSw; (try dsimp only at hSw); go_simp; try with_reducible rfl)
        try simp only [Act.put, List.getElem_toArray, List.getElem_cons_zero, List.getElem_cons_succ, List.setIfInBounds_toArray, List.set_cons_zero, List.set_cons_succ]
        refine wpAnyH_take (i := 17) (oi := _) (v := ?_) rfl (by kernel_rfl) (by kernel_rfl) (by kernel_rfl) (fun _ _ _ h => h) (Or.inl ⟨by rfl, ?_⟩) (by assumption) ?_
        rotate_left
        focus (intro w hSw; (try dsimp only at hSw); go_simp; try with_reducible rfl)
        try simp only [Act.put, List.getElem_toArray, List.getElem_cons_zero, List.getElem_cons_succ, List.setIfInBounds_toArray, List.set_cons_zero, List.set_cons_succ]
        refine wpAnyH_done (by kernel_rfl) ?_ _
        have HD := Lib.hid (pdel_any b _ w5 P5.out.xb S5.out.xok)
        have HR := Lib.hid (fun n => prat_any b _ (w5.drewN n) (P5.out.xb.drewN n) S5.out.xok)
        have HE := Lib.hid (fun n => ydel_any B u _ _ _ _ _ (w5.drewN n) (P5.out.yb.drewN n) P5.out.own (by have := S5.out.len; have h2 := P5.out.own.1; rw [List.length_map] at h2; omega) S5.out.mem)
        have HQ := Lib.hid (fun n => yrat_any u _ _ (w5.drewN n) (P5.out.yb.drewN n) S5.out.yok2)
        rw [S5.out.del.1, S5.out.del.2] at HE
        rw [S5.out.rat.1, S5.out.rat.2] at HQ
        generalize (Pl.delN _) = V1 at HD HE
        generalize (Pl.delB _) = V2 at HD HE
        generalize (Pl.ratN _) = V3 at HR HQ
        generalize (Pl.ratB _) = V4 at HR HQ
        go_wp2_with fail
        refine HD.out.mono ?_
        rintro _ w6 ⟨rfl, n6, rfl⟩
        go_wp2_with fail
        refine (HE.out n6).mono ?_
        rintro _ w7 ⟨rfl, rfl⟩
        go_wp2_with fail
        refine (HR.out n6).mono ?_
        rintro _ w8 ⟨rfl, n8, rfl⟩
        go_wp2_with fail
        refine (HQ.out (n6 + n8)).mono ?_
        rintro _ w9 ⟨rfl, n9, rfl⟩
        go_wp2_with fail
        exact ⟨⟨j + 1, _, _, _, _, _, _, by go_num, by omega, C5, Lib.hid (P5.out.drewN (n6 + n8 + n9)), S5⟩, by simp [RowKit.intOf]; omega⟩
    · obtain rfl : j = len := by omega
      have t1 : decide ((j : Int) < (j : Int)) = false := by simp
      go_wp2_with fail
      refine (pawake_any _).mono ?_
      rintro _ w9 ⟨rfl, l9⟩
      go_wp2
      go_ret
      exact ⟨rfl, bel_on hP.out.bel l9⟩
end Go.Proofs.Ytmdfbcabpmadgaa
