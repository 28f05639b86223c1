/- The walk of ResidencePlays where there is a table. -/
import Derived.Test.YtnlfkafebbfenaaResPl6
namespace Go.Proofs.Ytnlfkafebbfenaa
open Go.RowKit Go.Lib Go.Maps
theorem hold_len (tl : TL) (lim : Int) {p : Pl.PM} {s : Int} (h : (tl.length : Int) ≤ lim) : ((holdL tl lim p s).length : Int) ≤ lim := by
  unfold holdL
  by_cases c : holdE tl lim p s = 0
  · rw [if_pos c, List.length_append]
    have : ¬ lim ≤ (tl.length : Int) := fun q => by
      unfold holdE at c
      rw [if_pos q] at c
      split at c
      · split at c
        · split at c
          · cases c
          · split at c
            · split at c <;> cases c
            · cases c
        · cases c
      · cases c
    simp
    omega
  · rw [if_neg c]
    exact h
theorem rel_len (tl : TL) (p : Pl.PM) : (relL tl p).length ≤ tl.length := by
  unfold relL
  split
  · exact List.length_filter_le _ _
  · exact Nat.le_refl _
theorem tb_apart {W : World} {b g : Nat} {lim : Int} {tl : TL} (h : Tb W b g lim tl) : (tl.map Prod.fst).Nodup := by
  obtain ⟨_, _, D, _, hs⟩ := h
  exact hs.apart
abbrev zDp : Array Value := #[.int .i64 0, .int .i64 0, .int .i64 0, .int .i64 0, .int .i64 0, .int .i64 0, .int .u64 0, .int .i64 0, .int .i64 0, .int .i64 0, .int .i64 0, .int .i64 0, .int .u64 0, .int .i64 0, .int .i64 0, .int .i64 0, .int .i64 0, .int .i64 0, .int .i64 0, .int .i64 0, .int .u64 0, .int .i64 0, .int .i64 0]
set_option maxHeartbeats 8000000 in
set_option maxRecDepth 100000 in
theorem plays_yes (lim : Int) (hd1 : 1 ≤ lim) (hd2 : lim ≤ 64) (a0 : Option Addr) (len cap : Nat) (z : Nat → DP) (w : World) (hlc : len ≤ cap) (hcm : cap ≤ maxLen) (hz : DeedsIn w a0 len z) :
    Calls Try.prog 5 #[.int .i64 lim, .slice a0 len cap] w fun e w' => e = .returned (.bool true) ∧ Below w.heap.size w w' := by
  have NX := Lib.hid (fun W => tnew_yes lim hd1 hd2 W)
  have NY := Lib.hid (fun W => unew_yes lim hd1 hd2 W)
  have FI := Lib.hid (fun W => first_any a0 len cap hlc hcm W)
  have HZ := Lib.hid hz
  clear hz hcm
  go_enter Try.func5, Try.ntmps5
  go_wp2_with fail
  refine (NX.out _).mono ?_
  rintro _ w1 ⟨b, g, rfl, hb, hg, T1, l1⟩
  have T1h := Lib.hid T1
  have l1h := Lib.hid l1
  clear T1 l1
  go_wp2_with fail
  refine (NY.out _).mono ?_
  rintro _ w2 ⟨rfl, R2, l2⟩
  obtain ⟨u, hu⟩ : ∃ u, w1.heap.size = u := ⟨_, rfl⟩
  have P2 : Hid (QS w w2 b g u (u + 1) lim (tlOf []) none 0 0 []) := Lib.hid (by
    have z1 := T1h.out.lt
    have z2 := l1h.out.size
    subst hu
    exact ⟨bel_on l1h.out l2, T1h.out.on l2, R2, ⟨hb, by omega⟩, ⟨hg, by omega⟩, ⟨by omega, by omega⟩, by omega, by omega⟩)
  obtain ⟨B, hB⟩ : ∃ B, u + 1 = B := ⟨_, rfl⟩
  rw [hB] at P2
  rw [hu]
  clear R2 l2 T1h l1h hu hB hb hg
  go_wp2_with fail
  refine (FI.out _).mono ?_
  rintro _ w3 ⟨rfl, rfl⟩
  go_wp2_with fail
  obtain ⟨M, hM⟩ : ∃ M : Nat, min len 200 = M := ⟨_, rfl⟩
  have hM1 : M ≤ len := by omega
  have hM2 : M ≤ 200 := by omega
  rw [hM]
  clear hM
  go_loopw [25] (fun i wr => ∃ (j : Nat) (a : Option Addr) (n c : Nat) (l : RL), i = .int .i64 j ∧ j ≤ M ∧ (l.length : Int) ≤ lim ∧ Hid (QS w wr b g u B lim (tlOf l) a n c l)) (fun i _ => M - (RowKit.intOf i).toNat)
  case atStart => exact ⟨0, _, _, _, [], rfl, by omega, by show (0 : Int) ≤ lim; omega, P2⟩
  case round =>
    obtain ⟨j, a, n, c, l, rfl, hj, hcj, hP⟩ := hrel
    by_cases hlt : j < M
    · obtain ⟨bx, ox, rfl, hb0, hbz, hrng, hW⟩ := deeds_at HZ.out hP.out.bel (show j < len by omega)
      have t1 : decide ((j : Int) < (M : Int)) = true := by simp [hlt]
      have hdg := Lib.hid (show wr.heap.size ≠ g from fun e => by have := hP.out.tb.lt.2; omega)
      have hdu := Lib.hid (show wr.heap.size ≠ u from fun e => by have := hP.out.rt.blk.lt; omega)
      obtain ⟨o, ho⟩ : ∃ o, z j = o := ⟨_, rfl⟩
      rw [ho] at hrng hW
      obtain ⟨cs, hcs⟩ : ∃ cs, dpA o = cs := ⟨_, rfl⟩
      have i1 : Hid ((Try.prog.info? 44).map (·.size) = some cs.size) := Lib.hid (by rw [← hcs]; kernel_rfl)
      have i2 : Hid (zDp.size = cs.size) := Lib.hid (by rw [← hcs]; rfl)
      have i3 : Hid (cs.all (·.oneCell') = true) := Lib.hid (by rw [← hcs]; kernel_rfl)
      rw [hcs] at hrng
      have hcs := Lib.hid hcs
      have hrng' := Lib.hid hrng
      have A1 := Lib.hid (Blk.new wr 44 zDp)
      have hW := Lib.hid hW
      have hk : (o.k == 0) = true ∨ ((o.k == 0) = false ∧ ((o.k == 1) = true ∨ (o.k == 1) = false)) := by
        cases (o.k == 0) <;> cases (o.k == 1) <;> simp
      clear hrng ho
      rcases hk with k0 | ⟨k0, k1 | k1⟩
      · go_wp2_with (first | (refine wpList_load_rng rfl 44 _ rfl bx (ox + j * 23) rfl cs _ hrng'.out Try.underlying44 rfl i1.out ?_) | (refine wpList_store_blk rfl 44 _ _ rfl wr.heap.size cs rfl rfl 44 zDp A1.out i1.out i2.out i3.out ?_; intro W4 D4n HG; rw [← hcs.out] at D4n; have l4 := Below.only (bel_bx' wr (.cells zDp 44)) HG (Nat.le_refl _) (bel_bx' wr (.cells zDp 44)).size; have P4 := Lib.hid ((hP.out.on l4).drewN 1); have D4 := Lib.hid (D4n.drewN 1); have S1 := Lib.hid (dp_rng D4.out); have o0 : W4.cell? ⟨wr.heap.size, 0, none⟩ = some (.int .i64 o.k) := D4n.cell 0; have oz := D4n.lt; clear D4n HG l4 A1))
        have RQ := Lib.hid (fun W (q : Tb W b g lim (tlOf l)) => thold_any b g lim (tlOf l) o.m o.s W q hW.out.m (by unfold maxLen; rw [tlOf_len]; omega))
        have RY := Lib.hid (fun W (q : Rt W u B lim a n c l) (q2 : B ≤ W.heap.size) => uhold_tl u B lim a n c l o.m o.s W q q2 (by have := q.len; omega))
        obtain ⟨E, hE⟩ : ∃ E, holdE (tlOf l) lim o.m o.s = E := ⟨_, rfl⟩
        rw [hE] at RQ RY
        clear hE
        refine wp_region_held_drew (S := (fun w' : World => w'.rangeAt wr.heap.size 2 (pmA o.m).toList ∧ w'.cell? ⟨wr.heap.size, 0, none⟩ = some (.int .i64 o.k) ∧ w'.cell? ⟨wr.heap.size, 1, none⟩ = some (.int .i64 o.s))) (by kernel_rfl) S1.out (fun hHeld => ?_)
        refine wpAnyH_take (i := 0) (oi := _) (v := ?_) rfl (by kernel_rfl) (by kernel_rfl) (by kernel_rfl) (fun _ _ _ h => h) (Or.inl ⟨by rfl, ?_⟩) (by assumption) ?_
        rotate_left
        focus (intro w hSw; (try dsimp only at hSw); go_simp; try with_reducible rfl)
        try simp only [Act.put, List.getElem_toArray, List.getElem_cons_zero, List.getElem_cons_succ, List.setIfInBounds_toArray, List.set_cons_zero, List.set_cons_succ]
        refine wpAnyH_take (i := 1) (oi := _) (v := ?_) rfl (by kernel_rfl) (by kernel_rfl) (by kernel_rfl) (fun _ _ _ h => h) (Or.inl ⟨by rfl, ?_⟩) (by assumption) ?_
        rotate_left
        focus (intro w hSw; (try dsimp only at hSw); go_simp; try with_reducible rfl)
        try simp only [Act.put, List.getElem_toArray, List.getElem_cons_zero, List.getElem_cons_succ, List.setIfInBounds_toArray, List.set_cons_zero, List.set_cons_succ]
        refine wpAnyH_take (i := 2) (oi := _) (v := ?_) rfl (by kernel_rfl) (by kernel_rfl) (by kernel_rfl) (fun _ _ _ h => h) (Or.inl ⟨by rfl, ?_⟩) (by assumption) ?_
        rotate_left
        focus (intro w hSw; (try dsimp only at hSw); go_simp; try with_reducible rfl)
        try simp only [Act.put, List.getElem_toArray, List.getElem_cons_zero, List.getElem_cons_succ, List.setIfInBounds_toArray, List.set_cons_zero, List.set_cons_succ]
        refine wpAnyH_take (i := 3) (oi := _) (v := ?_) rfl (by kernel_rfl) (by kernel_rfl) (by kernel_rfl) (fun _ _ _ h => h) (Or.inl ⟨by rfl, ?_⟩) (by assumption) ?_
        rotate_left
        focus (intro w hSw; (try dsimp only at hSw); go_simp; try with_reducible rfl)
        try simp only [Act.put, List.getElem_toArray, List.getElem_cons_zero, List.getElem_cons_succ, List.setIfInBounds_toArray, List.set_cons_zero, List.set_cons_succ]
        refine wpAnyH_take (i := 4) (oi := _) (v := ?_) rfl (by kernel_rfl) (by kernel_rfl) (by kernel_rfl) (fun _ _ _ h => h) (Or.inl ⟨by rfl, ?_⟩) (by assumption) ?_
        rotate_left
        focus (intro w hSw; (try dsimp only at hSw); go_simp; try with_reducible rfl)
        try simp only [Act.put, List.getElem_toArray, List.getElem_cons_zero, List.getElem_cons_succ, List.setIfInBounds_toArray, List.set_cons_zero, List.set_cons_succ]
        refine wpAnyH_take (i := 5) (oi := _) (v := ?_) rfl (by kernel_rfl) (by kernel_rfl) (by kernel_rfl) (fun _ _ _ h => h) (Or.inl ⟨by rfl, ?_⟩) (by assumption) ?_
        rotate_left
        focus (intro w hSw; (try dsimp only at hSw); go_simp; try with_reducible rfl)
        try simp only [Act.put, List.getElem_toArray, List.getElem_cons_zero, List.getElem_cons_succ, List.setIfInBounds_toArray, List.set_cons_zero, List.set_cons_succ]
        refine wpAnyH_take (i := 6) (oi := _) (v := .agg (pmA o.m)) rfl (by kernel_rfl) (by kernel_rfl) (by kernel_rfl) (fun _ _ _ h => h) (yieldsIf_load_rngw (by rfl) 33 _ rfl wr.heap.size 2 rfl (pmA o.m) _ (fun w' h => h.1) Try.underlying33 rfl (by kernel_rfl)) (by assumption) ?_
        try simp only [Act.put, List.getElem_toArray, List.getElem_cons_zero, List.getElem_cons_succ, List.setIfInBounds_toArray, List.set_cons_zero, List.set_cons_succ]
        refine wpAnyH_take (i := 7) (oi := _) (v := ?_) rfl (by kernel_rfl) (by kernel_rfl) (by kernel_rfl) (fun _ _ _ h => h) (Or.inl ⟨by rfl, ?_⟩) (by assumption) ?_
        rotate_left
        focus (intro w hSw; (try dsimp only at hSw); go_simp; try with_reducible rfl)
        try simp only [Act.put, List.getElem_toArray, List.getElem_cons_zero, List.getElem_cons_succ, List.setIfInBounds_toArray, List.set_cons_zero, List.set_cons_succ]
        refine wpAnyH_take (i := 8) (oi := _) (v := ?_) rfl (by kernel_rfl) (by kernel_rfl) (by kernel_rfl) (fun _ _ _ h => h) (Or.inl ⟨by rfl, ?_⟩) (by assumption) ?_
        rotate_left
        focus (intro w hSw; (try dsimp only at hSw); go_simp; try with_reducible rfl)
        try simp only [Act.put, List.getElem_toArray, List.getElem_cons_zero, List.getElem_cons_succ, List.setIfInBounds_toArray, List.set_cons_zero, List.set_cons_succ]
        refine wpAnyH_take (i := 10) (oi := _) (v := ?_) rfl (by kernel_rfl) (by kernel_rfl) (by kernel_rfl) (fun _ _ _ h => h) (Or.inl ⟨by rfl, ?_⟩) (by assumption) ?_
        rotate_left
        focus (intro w hSw; (try dsimp only at hSw); go_simp; try with_reducible rfl)
        try simp only [Act.put, List.getElem_toArray, List.getElem_cons_zero, List.getElem_cons_succ, List.setIfInBounds_toArray, List.set_cons_zero, List.set_cons_succ]
        refine wpAnyH_take (i := 11) (oi := _) (v := ?_) rfl (by kernel_rfl) (by kernel_rfl) (by kernel_rfl) (fun _ _ _ h => h) (Or.inl ⟨by rfl, ?_⟩) (by assumption) ?_
        rotate_left
        focus (intro w hSw; (try dsimp only at hSw); go_simp; try with_reducible rfl)
        try simp only [Act.put, List.getElem_toArray, List.getElem_cons_zero, List.getElem_cons_succ, List.setIfInBounds_toArray, List.set_cons_zero, List.set_cons_succ]
        refine wpAnyH_take (i := 12) (oi := _) (v := .agg (pmA o.m)) rfl (by kernel_rfl) (by kernel_rfl) (by kernel_rfl) (fun _ _ _ h => h) (yieldsIf_load_rngw (by rfl) 33 _ rfl wr.heap.size 2 rfl (pmA o.m) _ (fun w' h => h.1) Try.underlying33 rfl (by kernel_rfl)) (by assumption) ?_
        try simp only [Act.put, List.getElem_toArray, List.getElem_cons_zero, List.getElem_cons_succ, List.setIfInBounds_toArray, List.set_cons_zero, List.set_cons_succ]
        refine wpAnyH_take (i := 13) (oi := _) (v := ?_) rfl (by kernel_rfl) (by kernel_rfl) (by kernel_rfl) (fun _ _ _ h => h) (Or.inl ⟨by rfl, ?_⟩) (by assumption) ?_
        rotate_left
        focus (intro w hSw; (try dsimp only at hSw); go_simp; try with_reducible rfl)
        try simp only [Act.put, List.getElem_toArray, List.getElem_cons_zero, List.getElem_cons_succ, List.setIfInBounds_toArray, List.set_cons_zero, List.set_cons_succ]
        refine wpAnyH_take (i := 14) (oi := _) (v := ?_) rfl (by kernel_rfl) (by kernel_rfl) (by kernel_rfl) (fun _ _ _ h => h) (Or.inl ⟨by rfl, ?_⟩) (by assumption) ?_
        rotate_left
        focus (intro w hSw; (try dsimp only at hSw); go_simp; try with_reducible rfl)
        try simp only [Act.put, List.getElem_toArray, List.getElem_cons_zero, List.getElem_cons_succ, List.setIfInBounds_toArray, List.set_cons_zero, List.set_cons_succ]
        refine wpAnyH_ready (rs := [9]) (by kernel_rfl) (by simp) ?_
        refine AllReadyH.cons rfl (fun K hK => ?_) AllReadyH.nil
        go_simp
        refine (RQ.out _ P4.out.tb).mono ?_
        rintro _ v1 ⟨rfl, T1, g1⟩
        have P1 := Lib.hid (P4.out.prog T1 g1)
        have D1 := Lib.hid (D4.out.grown g1 (fun e => by injection e with e; exact hdg.out e))
        have S1b := Lib.hid (dp_rng D1.out)
        clear T1 g1
        go_simp
        refine hK.out _ _ (S1b.out) (fun hHeld2 => ?_)
        clear hK K hHeld
        have hHeld := hHeld2
        clear hHeld2
        try simp only [Act.put, List.getElem_toArray, List.getElem_cons_zero, List.getElem_cons_succ, List.setIfInBounds_toArray, List.set_cons_zero, List.set_cons_succ]
        refine wpAnyH_ready (rs := [15]) (by kernel_rfl) (by simp) ?_
        refine AllReadyH.cons rfl (fun K hK => ?_) AllReadyH.nil
        go_simp
        refine (RY.out _ P1.out.rt P1.out.rt.base).mono ?_
        rintro _ w5 ⟨rfl, f1, l5, a5, n5, c5, r5, e5⟩
        have P5 : Hid (QS w w5 b g u B lim (tlOf l5) a5 n5 c5 l5) := Lib.hid (by have := P1.out.ref f1 r5; rw [← e5] at this; exact this)
        have D5 := Lib.hid (f1.keep _ _ _ D1.out (by decide) hdu.out)
        have S1c := Lib.hid (dp_rng D5.out)
        have C5 := Lib.hid (show (l5.length : Int) ≤ lim by rw [← tlOf_len, e5]; exact hold_len _ _ (by rw [tlOf_len]; exact hcj))
        clear f1 r5 e5
        go_simp
        refine hK.out _ _ (S1c.out) (fun hHeld2 => ?_)
        clear hK K hHeld
        have hHeld := hHeld2
        clear hHeld2
        try simp only [Act.put, List.getElem_toArray, List.getElem_cons_zero, List.getElem_cons_succ, List.setIfInBounds_toArray, List.set_cons_zero, List.set_cons_succ]
        refine wpAnyH_take (i := 16) (oi := _) (v := ?_) rfl (by kernel_rfl) (by kernel_rfl) (by kernel_rfl) (fun _ _ _ h => h) (Or.inl ⟨by rfl, ?_⟩) (by assumption) ?_
        rotate_left
        focus (intro w hSw; (try dsimp only at hSw); go_simp; try with_reducible rfl)
        try simp only [Act.put, List.getElem_toArray, List.getElem_cons_zero, List.getElem_cons_succ, List.setIfInBounds_toArray, List.set_cons_zero, List.set_cons_succ]
        refine wpAnyH_take (i := 17) (oi := _) (v := ?_) rfl (by kernel_rfl) (by kernel_rfl) (by kernel_rfl) (fun _ _ _ h => h) (Or.inl ⟨by rfl, ?_⟩) (by assumption) ?_
        rotate_left
        focus (intro w hSw; (try dsimp only at hSw); go_simp; try with_reducible rfl)
        try simp only [Act.put, List.getElem_toArray, List.getElem_cons_zero, List.getElem_cons_succ, List.setIfInBounds_toArray, List.set_cons_zero, List.set_cons_succ]
        refine wpAnyH_done (by kernel_rfl) ?_ _
        have o5 : w5.cell? ⟨wr.heap.size, 0, none⟩ = some (.int .i64 o.k) := D5.out.cell 0
        have oz5 := D5.out.lt
        have k1 : (o.k == 1) = false := by simp at k0; simp [k0]
        have HT := tlen_any b g lim _ w5 P5.out.tb
        rw [tlOf_len, P5.out.rt.len] at HT
        replace HT := Lib.hid HT
        have HU := Lib.hid (ulen_any u B lim _ _ _ _ w5 P5.out.rt)
        go_wp2_with fail
        refine HT.out.mono ?_
        rintro _ w10 ⟨rfl, rfl⟩
        go_wp2_with fail
        refine HU.out.mono ?_
        rintro _ w11 ⟨rfl, rfl⟩
        go_wp2_with fail
        exact ⟨⟨j + 1, _, _, _, l5, by go_num, by omega, C5.out, P5⟩, by simp [RowKit.intOf]; omega⟩
      · go_wp2_with (first | (refine wpList_load_rng rfl 44 _ rfl bx (ox + j * 23) rfl cs _ hrng'.out Try.underlying44 rfl i1.out ?_) | (refine wpList_store_blk rfl 44 _ _ rfl wr.heap.size cs rfl rfl 44 zDp A1.out i1.out i2.out i3.out ?_; intro W4 D4n HG; rw [← hcs.out] at D4n; have l4 := Below.only (bel_bx' wr (.cells zDp 44)) HG (Nat.le_refl _) (bel_bx' wr (.cells zDp 44)).size; have P4 := Lib.hid ((hP.out.on l4).drewN 1); have D4 := Lib.hid (D4n.drewN 1); have S1 := Lib.hid (dp_rng D4.out); have o0 : W4.cell? ⟨wr.heap.size, 0, none⟩ = some (.int .i64 o.k) := D4n.cell 0; have oz := D4n.lt; clear D4n HG l4 A1))
        have RQ := Lib.hid (fun W (q : Tb W b g lim (tlOf l)) => trel_any b g lim (tlOf l) o.m W q hW.out.m)
        have RY := Lib.hid (fun W (q : Rt W u B lim a n c l) (q2 : B ≤ W.heap.size) => urel_any u B lim a n c l o.m W q q2 (by have := q.len; omega) hW.out.m (fun x hx => (P4.out.tb.ok x hx).2) (tb_apart P4.out.tb))
        obtain ⟨E, hE⟩ : ∃ E, relE (tlOf l) o.m = E := ⟨_, rfl⟩
        obtain ⟨RP, hRP⟩ : ∃ E, relP (tlOf l) o.m = E := ⟨_, rfl⟩
        rw [hE, hRP] at RQ RY
        clear hE hRP
        refine wp_region_held_drew (S := (fun w' : World => w'.rangeAt wr.heap.size 2 (pmA o.m).toList ∧ w'.cell? ⟨wr.heap.size, 0, none⟩ = some (.int .i64 o.k) ∧ w'.cell? ⟨wr.heap.size, 1, none⟩ = some (.int .i64 o.s))) (by kernel_rfl) S1.out (fun hHeld => ?_)
        refine wpAnyH_take (i := 0) (oi := _) (v := ?_) rfl (by kernel_rfl) (by kernel_rfl) (by kernel_rfl) (fun _ _ _ h => h) (Or.inl ⟨by rfl, ?_⟩) (by assumption) ?_
        rotate_left
        focus (intro w hSw; (try dsimp only at hSw); go_simp; try with_reducible rfl)
        try simp only [Act.put, List.getElem_toArray, List.getElem_cons_zero, List.getElem_cons_succ, List.setIfInBounds_toArray, List.set_cons_zero, List.set_cons_succ]
        refine wpAnyH_take (i := 1) (oi := _) (v := ?_) rfl (by kernel_rfl) (by kernel_rfl) (by kernel_rfl) (fun _ _ _ h => h) (Or.inl ⟨by rfl, ?_⟩) (by assumption) ?_
        rotate_left
        focus (intro w hSw; (try dsimp only at hSw); go_simp; try with_reducible rfl)
        try simp only [Act.put, List.getElem_toArray, List.getElem_cons_zero, List.getElem_cons_succ, List.setIfInBounds_toArray, List.set_cons_zero, List.set_cons_succ]
        refine wpAnyH_take (i := 2) (oi := _) (v := ?_) rfl (by kernel_rfl) (by kernel_rfl) (by kernel_rfl) (fun _ _ _ h => h) (Or.inl ⟨by rfl, ?_⟩) (by assumption) ?_
        rotate_left
        focus (intro w hSw; (try dsimp only at hSw); go_simp; try with_reducible rfl)
        try simp only [Act.put, List.getElem_toArray, List.getElem_cons_zero, List.getElem_cons_succ, List.setIfInBounds_toArray, List.set_cons_zero, List.set_cons_succ]
        refine wpAnyH_take (i := 3) (oi := _) (v := ?_) rfl (by kernel_rfl) (by kernel_rfl) (by kernel_rfl) (fun _ _ _ h => h) (Or.inl ⟨by rfl, ?_⟩) (by assumption) ?_
        rotate_left
        focus (intro w hSw; (try dsimp only at hSw); go_simp; try with_reducible rfl)
        try simp only [Act.put, List.getElem_toArray, List.getElem_cons_zero, List.getElem_cons_succ, List.setIfInBounds_toArray, List.set_cons_zero, List.set_cons_succ]
        refine wpAnyH_take (i := 4) (oi := _) (v := undef) rfl (by kernel_rfl) (by kernel_rfl) (by kernel_rfl) (fun _ _ _ h => h) (Or.inr ⟨by rfl, rfl⟩) (by assumption) ?_
        try simp only [Act.put, List.getElem_toArray, List.getElem_cons_zero, List.getElem_cons_succ, List.setIfInBounds_toArray, List.set_cons_zero, List.set_cons_succ]
        refine wpAnyH_take (i := 5) (oi := _) (v := undef) rfl (by kernel_rfl) (by kernel_rfl) (by kernel_rfl) (fun _ _ _ h => h) (Or.inr ⟨by rfl, rfl⟩) (by assumption) ?_
        try simp only [Act.put, List.getElem_toArray, List.getElem_cons_zero, List.getElem_cons_succ, List.setIfInBounds_toArray, List.set_cons_zero, List.set_cons_succ]
        refine wpAnyH_take (i := 6) (oi := _) (v := undef) rfl (by kernel_rfl) (by kernel_rfl) (by kernel_rfl) (fun _ _ _ h => h) (Or.inr ⟨by rfl, rfl⟩) (by assumption) ?_
        try simp only [Act.put, List.getElem_toArray, List.getElem_cons_zero, List.getElem_cons_succ, List.setIfInBounds_toArray, List.set_cons_zero, List.set_cons_succ]
        refine wpAnyH_take (i := 7) (oi := _) (v := undef) rfl (by kernel_rfl) (by kernel_rfl) (by kernel_rfl) (fun _ _ _ h => h) (Or.inr ⟨by rfl, rfl⟩) (by assumption) ?_
        try simp only [Act.put, List.getElem_toArray, List.getElem_cons_zero, List.getElem_cons_succ, List.setIfInBounds_toArray, List.set_cons_zero, List.set_cons_succ]
        refine wpAnyH_take (i := 8) (oi := _) (v := undef) rfl (by kernel_rfl) (by kernel_rfl) (by kernel_rfl) (fun _ _ _ h => h) (Or.inr ⟨by rfl, rfl⟩) (by assumption) ?_
        try simp only [Act.put, List.getElem_toArray, List.getElem_cons_zero, List.getElem_cons_succ, List.setIfInBounds_toArray, List.set_cons_zero, List.set_cons_succ]
        refine wpAnyH_take (i := 9) (oi := _) (v := undef) rfl (by kernel_rfl) (by kernel_rfl) (by kernel_rfl) (fun _ _ _ h => h) (Or.inr ⟨by rfl, rfl⟩) (by assumption) ?_
        try simp only [Act.put, List.getElem_toArray, List.getElem_cons_zero, List.getElem_cons_succ, List.setIfInBounds_toArray, List.set_cons_zero, List.set_cons_succ]
        refine wpAnyH_take (i := 10) (oi := _) (v := undef) rfl (by kernel_rfl) (by kernel_rfl) (by kernel_rfl) (fun _ _ _ h => h) (Or.inr ⟨by rfl, rfl⟩) (by assumption) ?_
        try simp only [Act.put, List.getElem_toArray, List.getElem_cons_zero, List.getElem_cons_succ, List.setIfInBounds_toArray, List.set_cons_zero, List.set_cons_succ]
        refine wpAnyH_take (i := 11) (oi := _) (v := undef) rfl (by kernel_rfl) (by kernel_rfl) (by kernel_rfl) (fun _ _ _ h => h) (Or.inr ⟨by rfl, rfl⟩) (by assumption) ?_
        try simp only [Act.put, List.getElem_toArray, List.getElem_cons_zero, List.getElem_cons_succ, List.setIfInBounds_toArray, List.set_cons_zero, List.set_cons_succ]
        refine wpAnyH_take (i := 12) (oi := _) (v := undef) rfl (by kernel_rfl) (by kernel_rfl) (by kernel_rfl) (fun _ _ _ h => h) (Or.inr ⟨by rfl, rfl⟩) (by assumption) ?_
        try simp only [Act.put, List.getElem_toArray, List.getElem_cons_zero, List.getElem_cons_succ, List.setIfInBounds_toArray, List.set_cons_zero, List.set_cons_succ]
        refine wpAnyH_take (i := 13) (oi := _) (v := undef) rfl (by kernel_rfl) (by kernel_rfl) (by kernel_rfl) (fun _ _ _ h => h) (Or.inr ⟨by rfl, rfl⟩) (by assumption) ?_
        try simp only [Act.put, List.getElem_toArray, List.getElem_cons_zero, List.getElem_cons_succ, List.setIfInBounds_toArray, List.set_cons_zero, List.set_cons_succ]
        refine wpAnyH_take (i := 14) (oi := _) (v := undef) rfl (by kernel_rfl) (by kernel_rfl) (by kernel_rfl) (fun _ _ _ h => h) (Or.inr ⟨by rfl, rfl⟩) (by assumption) ?_
        try simp only [Act.put, List.getElem_toArray, List.getElem_cons_zero, List.getElem_cons_succ, List.setIfInBounds_toArray, List.set_cons_zero, List.set_cons_succ]
        refine wpAnyH_take (i := 15) (oi := _) (v := undef) rfl (by kernel_rfl) (by kernel_rfl) (by kernel_rfl) (fun _ _ _ h => h) (Or.inr ⟨by rfl, rfl⟩) (by assumption) ?_
        try simp only [Act.put, List.getElem_toArray, List.getElem_cons_zero, List.getElem_cons_succ, List.setIfInBounds_toArray, List.set_cons_zero, List.set_cons_succ]
        refine wpAnyH_take (i := 16) (oi := _) (v := undef) rfl (by kernel_rfl) (by kernel_rfl) (by kernel_rfl) (fun _ _ _ h => h) (Or.inr ⟨by rfl, rfl⟩) (by assumption) ?_
        try simp only [Act.put, List.getElem_toArray, List.getElem_cons_zero, List.getElem_cons_succ, List.setIfInBounds_toArray, List.set_cons_zero, List.set_cons_succ]
        refine wpAnyH_take (i := 17) (oi := _) (v := ?_) rfl (by kernel_rfl) (by kernel_rfl) (by kernel_rfl) (fun _ _ _ h => h) (Or.inl ⟨by rfl, ?_⟩) (by assumption) ?_
        rotate_left
        focus (intro w hSw; (try dsimp only at hSw); go_simp; try with_reducible rfl)
        try simp only [Act.put, List.getElem_toArray, List.getElem_cons_zero, List.getElem_cons_succ, List.setIfInBounds_toArray, List.set_cons_zero, List.set_cons_succ]
        refine wpAnyH_done (by kernel_rfl) ?_ _
        have hr4 := Lib.hid (dp_rng D4.out).1
        go_wp2_with (refine wpList_load_rng rfl 33 _ rfl wr.heap.size 2 rfl (pmA o.m) _ hr4.out Try.underlying33 rfl (by kernel_rfl) ?_)
        refine (RQ.out _ P4.out.tb).mono ?_
        rintro _ v1 ⟨rfl, T1, g1⟩
        have P1 := Lib.hid (P4.out.prog T1 g1)
        have D1 := Lib.hid (D4.out.grown g1 (fun e => by injection e with e; exact hdg.out e))
        clear T1 g1
        go_wp2_with (first | (refine wpList_store_blk rfl 33 _ _ rfl v1.heap.size (pmA RP) rfl rfl 33 zA (Blk.new v1 33 zA) (by kernel_rfl) rfl (by kernel_rfl) ?_; intro W6 HW6 HG; have lw := Below.only (bel_bx' v1 (.cells zA 33)) HG (Nat.le_refl _) (bel_bx' v1 (.cells zA 33)).size; have P6 := Lib.hid (P1.out.on lw); have D6 := Lib.hid (D1.out.below_ lw); have hr6 := Lib.hid (dp_rng D6.out).1; have X6 := Lib.hid HW6; have hxu := Lib.hid (show v1.heap.size ≠ u from fun e => by have := P1.out.rt.blk.lt; omega); clear HW6; clear HG lw) | (refine wpList_load_rng rfl 33 _ rfl wr.heap.size 2 rfl (pmA o.m) _ hr6.out Try.underlying33 rfl (by kernel_rfl) ?_))
        refine (RY.out _ P6.out.rt P6.out.rt.base).mono ?_
        rintro _ v2 ⟨rfl, f1, l5, a5, n5, c5, r5, e5⟩
        have P7 : Hid (QS w v2 b g u B lim (tlOf l5) a5 n5 c5 l5) := Lib.hid (by have := P6.out.ref f1 r5; rw [← e5] at this; exact this)
        have X7 := Lib.hid (f1.keep _ _ _ X6.out (by decide) hxu.out)
        have C5 := Lib.hid (show (l5.length : Int) ≤ lim by rw [← tlOf_len, e5]; have := rel_len (tlOf l) o.m; rw [tlOf_len] at this; omega)
        clear f1 r5 e5
        go_wp2_with (first | (refine wpList_store_blk rfl 33 _ _ rfl v2.heap.size (pmA RP) rfl rfl 33 zA (Blk.new v2 33 zA) (by kernel_rfl) rfl (by kernel_rfl) ?_; intro W8 HW8 HG; have lw := Below.only (bel_bx' v2 (.cells zA 33)) HG (Nat.le_refl _) (bel_bx' v2 (.cells zA 33)).size; have P8 := Lib.hid (P7.out.on lw); have X8 := Lib.hid (X7.out.below_ lw); have Y8 := Lib.hid HW8; clear HW8; clear HG lw) | (refine wpList_load_blk rfl 33 _ rfl v1.heap.size rfl 33 (pmA RP) _ X8.out Try.underlying33 rfl (by kernel_rfl) ?_) | (refine wpList_load_blk rfl 33 _ rfl v2.heap.size rfl 33 (pmA RP) _ Y8.out Try.underlying33 rfl (by kernel_rfl) ?_))
        have HT := tlen_any b g lim _ W8 P8.out.tb
        rw [tlOf_len, P8.out.rt.len] at HT
        replace HT := Lib.hid HT
        have HU := Lib.hid (ulen_any u B lim _ _ _ _ W8 P8.out.rt)
        go_wp2_with fail
        refine HT.out.mono ?_
        rintro _ w10 ⟨rfl, rfl⟩
        go_wp2_with fail
        refine HU.out.mono ?_
        rintro _ w11 ⟨rfl, rfl⟩
        go_wp2_with fail
        exact ⟨⟨j + 1, _, _, _, l5, by go_num, by omega, C5.out, P8⟩, by simp [RowKit.intOf]; omega⟩
      · go_wp2_with (first | (refine wpList_load_rng rfl 44 _ rfl bx (ox + j * 23) rfl cs _ hrng'.out Try.underlying44 rfl i1.out ?_) | (refine wpList_store_blk rfl 44 _ _ rfl wr.heap.size cs rfl rfl 44 zDp A1.out i1.out i2.out i3.out ?_; intro W4 D4n HG; rw [← hcs.out] at D4n; have l4 := Below.only (bel_bx' wr (.cells zDp 44)) HG (Nat.le_refl _) (bel_bx' wr (.cells zDp 44)).size; have P4 := Lib.hid ((hP.out.on l4).drewN 1); have D4 := Lib.hid (D4n.drewN 1); have S1 := Lib.hid (dp_rng D4.out); have o0 : W4.cell? ⟨wr.heap.size, 0, none⟩ = some (.int .i64 o.k) := D4n.cell 0; have oz := D4n.lt; clear D4n HG l4 A1))
        refine wp_region_held_drew (S := (fun w' : World => w'.rangeAt wr.heap.size 2 (pmA o.m).toList ∧ w'.cell? ⟨wr.heap.size, 0, none⟩ = some (.int .i64 o.k) ∧ w'.cell? ⟨wr.heap.size, 1, none⟩ = some (.int .i64 o.s))) (by kernel_rfl) S1.out (fun hHeld => ?_)
        refine wpAnyH_take (i := 0) (oi := _) (v := ?_) rfl (by kernel_rfl) (by kernel_rfl) (by kernel_rfl) (fun _ _ _ h => h) (Or.inl ⟨by rfl, ?_⟩) (by assumption) ?_
        rotate_left
        focus (intro w hSw; (try dsimp only at hSw); go_simp; try with_reducible rfl)
        try simp only [Act.put, List.getElem_toArray, List.getElem_cons_zero, List.getElem_cons_succ, List.setIfInBounds_toArray, List.set_cons_zero, List.set_cons_succ]
        refine wpAnyH_take (i := 1) (oi := _) (v := ?_) rfl (by kernel_rfl) (by kernel_rfl) (by kernel_rfl) (fun _ _ _ h => h) (Or.inl ⟨by rfl, ?_⟩) (by assumption) ?_
        rotate_left
        focus (intro w hSw; (try dsimp only at hSw); go_simp; try with_reducible rfl)
        try simp only [Act.put, List.getElem_toArray, List.getElem_cons_zero, List.getElem_cons_succ, List.setIfInBounds_toArray, List.set_cons_zero, List.set_cons_succ]
        refine wpAnyH_take (i := 2) (oi := _) (v := ?_) rfl (by kernel_rfl) (by kernel_rfl) (by kernel_rfl) (fun _ _ _ h => h) (Or.inl ⟨by rfl, ?_⟩) (by assumption) ?_
        rotate_left
        focus (intro w hSw; (try dsimp only at hSw); go_simp; try with_reducible rfl)
        try simp only [Act.put, List.getElem_toArray, List.getElem_cons_zero, List.getElem_cons_succ, List.setIfInBounds_toArray, List.set_cons_zero, List.set_cons_succ]
        refine wpAnyH_take (i := 3) (oi := _) (v := ?_) rfl (by kernel_rfl) (by kernel_rfl) (by kernel_rfl) (fun _ _ _ h => h) (Or.inl ⟨by rfl, ?_⟩) (by assumption) ?_
        rotate_left
        focus (intro w hSw; (try dsimp only at hSw); go_simp; try with_reducible rfl)
        try simp only [Act.put, List.getElem_toArray, List.getElem_cons_zero, List.getElem_cons_succ, List.setIfInBounds_toArray, List.set_cons_zero, List.set_cons_succ]
        refine wpAnyH_take (i := 4) (oi := _) (v := undef) rfl (by kernel_rfl) (by kernel_rfl) (by kernel_rfl) (fun _ _ _ h => h) (Or.inr ⟨by rfl, rfl⟩) (by assumption) ?_
        try simp only [Act.put, List.getElem_toArray, List.getElem_cons_zero, List.getElem_cons_succ, List.setIfInBounds_toArray, List.set_cons_zero, List.set_cons_succ]
        refine wpAnyH_take (i := 5) (oi := _) (v := undef) rfl (by kernel_rfl) (by kernel_rfl) (by kernel_rfl) (fun _ _ _ h => h) (Or.inr ⟨by rfl, rfl⟩) (by assumption) ?_
        try simp only [Act.put, List.getElem_toArray, List.getElem_cons_zero, List.getElem_cons_succ, List.setIfInBounds_toArray, List.set_cons_zero, List.set_cons_succ]
        refine wpAnyH_take (i := 6) (oi := _) (v := undef) rfl (by kernel_rfl) (by kernel_rfl) (by kernel_rfl) (fun _ _ _ h => h) (Or.inr ⟨by rfl, rfl⟩) (by assumption) ?_
        try simp only [Act.put, List.getElem_toArray, List.getElem_cons_zero, List.getElem_cons_succ, List.setIfInBounds_toArray, List.set_cons_zero, List.set_cons_succ]
        refine wpAnyH_take (i := 7) (oi := _) (v := undef) rfl (by kernel_rfl) (by kernel_rfl) (by kernel_rfl) (fun _ _ _ h => h) (Or.inr ⟨by rfl, rfl⟩) (by assumption) ?_
        try simp only [Act.put, List.getElem_toArray, List.getElem_cons_zero, List.getElem_cons_succ, List.setIfInBounds_toArray, List.set_cons_zero, List.set_cons_succ]
        refine wpAnyH_take (i := 8) (oi := _) (v := undef) rfl (by kernel_rfl) (by kernel_rfl) (by kernel_rfl) (fun _ _ _ h => h) (Or.inr ⟨by rfl, rfl⟩) (by assumption) ?_
        try simp only [Act.put, List.getElem_toArray, List.getElem_cons_zero, List.getElem_cons_succ, List.setIfInBounds_toArray, List.set_cons_zero, List.set_cons_succ]
        refine wpAnyH_take (i := 9) (oi := _) (v := undef) rfl (by kernel_rfl) (by kernel_rfl) (by kernel_rfl) (fun _ _ _ h => h) (Or.inr ⟨by rfl, rfl⟩) (by assumption) ?_
        try simp only [Act.put, List.getElem_toArray, List.getElem_cons_zero, List.getElem_cons_succ, List.setIfInBounds_toArray, List.set_cons_zero, List.set_cons_succ]
        refine wpAnyH_take (i := 10) (oi := _) (v := undef) rfl (by kernel_rfl) (by kernel_rfl) (by kernel_rfl) (fun _ _ _ h => h) (Or.inr ⟨by rfl, rfl⟩) (by assumption) ?_
        try simp only [Act.put, List.getElem_toArray, List.getElem_cons_zero, List.getElem_cons_succ, List.setIfInBounds_toArray, List.set_cons_zero, List.set_cons_succ]
        refine wpAnyH_take (i := 11) (oi := _) (v := undef) rfl (by kernel_rfl) (by kernel_rfl) (by kernel_rfl) (fun _ _ _ h => h) (Or.inr ⟨by rfl, rfl⟩) (by assumption) ?_
        try simp only [Act.put, List.getElem_toArray, List.getElem_cons_zero, List.getElem_cons_succ, List.setIfInBounds_toArray, List.set_cons_zero, List.set_cons_succ]
        refine wpAnyH_take (i := 12) (oi := _) (v := undef) rfl (by kernel_rfl) (by kernel_rfl) (by kernel_rfl) (fun _ _ _ h => h) (Or.inr ⟨by rfl, rfl⟩) (by assumption) ?_
        try simp only [Act.put, List.getElem_toArray, List.getElem_cons_zero, List.getElem_cons_succ, List.setIfInBounds_toArray, List.set_cons_zero, List.set_cons_succ]
        refine wpAnyH_take (i := 13) (oi := _) (v := undef) rfl (by kernel_rfl) (by kernel_rfl) (by kernel_rfl) (fun _ _ _ h => h) (Or.inr ⟨by rfl, rfl⟩) (by assumption) ?_
        try simp only [Act.put, List.getElem_toArray, List.getElem_cons_zero, List.getElem_cons_succ, List.setIfInBounds_toArray, List.set_cons_zero, List.set_cons_succ]
        refine wpAnyH_take (i := 14) (oi := _) (v := undef) rfl (by kernel_rfl) (by kernel_rfl) (by kernel_rfl) (fun _ _ _ h => h) (Or.inr ⟨by rfl, rfl⟩) (by assumption) ?_
        try simp only [Act.put, List.getElem_toArray, List.getElem_cons_zero, List.getElem_cons_succ, List.setIfInBounds_toArray, List.set_cons_zero, List.set_cons_succ]
        refine wpAnyH_take (i := 15) (oi := _) (v := undef) rfl (by kernel_rfl) (by kernel_rfl) (by kernel_rfl) (fun _ _ _ h => h) (Or.inr ⟨by rfl, rfl⟩) (by assumption) ?_
        try simp only [Act.put, List.getElem_toArray, List.getElem_cons_zero, List.getElem_cons_succ, List.setIfInBounds_toArray, List.set_cons_zero, List.set_cons_succ]
        refine wpAnyH_take (i := 16) (oi := _) (v := undef) rfl (by kernel_rfl) (by kernel_rfl) (by kernel_rfl) (fun _ _ _ h => h) (Or.inr ⟨by rfl, rfl⟩) (by assumption) ?_
        try simp only [Act.put, List.getElem_toArray, List.getElem_cons_zero, List.getElem_cons_succ, List.setIfInBounds_toArray, List.set_cons_zero, List.set_cons_succ]
        refine wpAnyH_take (i := 17) (oi := _) (v := ?_) rfl (by kernel_rfl) (by kernel_rfl) (by kernel_rfl) (fun _ _ _ h => h) (Or.inl ⟨by rfl, ?_⟩) (by assumption) ?_
        rotate_left
        focus (intro w hSw; (try dsimp only at hSw); go_simp; try with_reducible rfl)
        try simp only [Act.put, List.getElem_toArray, List.getElem_cons_zero, List.getElem_cons_succ, List.setIfInBounds_toArray, List.set_cons_zero, List.set_cons_succ]
        refine wpAnyH_done (by kernel_rfl) ?_ _
        have HT := tlen_any b g lim _ W4.drew P4.out.tb
        rw [tlOf_len, P4.out.rt.len] at HT
        replace HT := Lib.hid HT
        have HU := Lib.hid (ulen_any u B lim _ _ _ _ W4.drew P4.out.rt)
        go_wp2_with fail
        refine HT.out.mono ?_
        rintro _ w10 ⟨rfl, rfl⟩
        go_wp2_with fail
        refine HU.out.mono ?_
        rintro _ w11 ⟨rfl, rfl⟩
        go_wp2_with fail
        exact ⟨⟨j + 1, _, _, _, l, by go_num, by omega, hcj, P4⟩, by simp [RowKit.intOf]; omega⟩
    · obtain rfl : j = M := by omega
      have t1 : decide ((j : Int) < (j : Int)) = false := by simp
      go_wp2_with fail
      refine (rawake_any _).mono ?_
      rintro _ w9 ⟨rfl, l9⟩
      go_wp2
      go_ret
      exact ⟨rfl, bel_on hP.out.bel l9⟩
end Go.Proofs.Ytnlfkafebbfenaa
