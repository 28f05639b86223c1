/- The reference's Release of layer 40, where the stay is found and the message can be corrected. -/
import Derived.Test.YtnlfkafebbfenaaResPl3
namespace Go.Proofs.Ytnlfkafebbfenaa
open Go.RowKit Go.Lib Go.Maps
set_option maxHeartbeats 8000000 in
set_option maxRecDepth 100000 in
theorem urel_yes (u B : Nat) (lim : Int) (a : Option Addr) (n c : Nat) (l : RL) (p : Pl.PM) (K : Int) (i : Nat) (q : Pl.PM) (s : Int) (w : World) (h : Rt w u B lim a n c l) (hB : B ≤ w.heap.size) (hn : n ≤ 64) (hc : Pl.chk p = 0) (hk : (p.k = 8 ∧ K = 0) ∨ (p.k = 10 ∧ K = 3)) (hi : l[i]? = some (q, s)) (hf : fndA l (nmOf K p) 0 = (i : Int)) (hs : (Lit.int .i64 s).wf = true) (hco : (Lit.int .i64 p.co).wf = true) (ho : Pl.corOk p s = true) :
    Calls Try.prog 22 #[.pointer (some ⟨u, 0, none⟩), pmV p] w fun e w' => e = .returned (.tuple #[pmV (p.wco (p.co + s * 65536)), .int .i64 0]) ∧ Fr B u w w' ∧ ∃ (a' : Option Addr) (n' c' : Nat), Rt w' u B lim a' n' c' (l.take i ++ l.drop (i + 1)) := by
  have CK := fun W => rpmcheck_any p W
  rw [hc] at CK
  replace CK := Lib.hid CK
  have HB := Lib.hid hB
  have H0 := Lib.hid h
  have FD := Lib.hid (fun W (q : Rt W u B lim a n c l) => ufind_any u B lim a n c l K p W q hn)
  rw [hf] at FD
  have CO := fun W => rcorrect_any p s hco (wf64 hs).1 (wf64 hs).2 W
  rw [ho] at CO
  rw [if_pos rfl] at CO
  have hPC : Pl.corP p s = p.wco (p.co + s * 65536) := by unfold Pl.corP; rw [ho]; rfl
  obtain ⟨PC, hPC1⟩ : ∃ PC, Pl.corP p s = PC := ⟨_, rfl⟩
  rw [hPC1] at CO
  replace CO := Lib.hid CO
  have hPC := Lib.hid (hPC1.symm.trans hPC)
  have hq := Lib.hid hi
  have hlt : i < n := by have := (List.getElem?_eq_some_iff.1 hi).1; have := h.len; omega
  have hil := Lib.hid hlt
  have t6 : decide ((i : Int) < 0) = false := by simp
  have hcap : n ≤ c := own_cap h.own
  have hcmax : Hid ((c : Int) ≤ 9223372036854775807) := Lib.hid (own_max h.own)
  have hj0 : (0 : Int) ≤ (i : Int) := by omega
  have hjn : (i : Int) < (n : Int) := by omega
  have hn64 : (n : Int) ≤ 64 := by omega
  obtain ⟨i0, z0, hi1⟩ := held_info
  have HI := Lib.hid hi1
  have tk : ((p.k == 10) = false ∧ (p.k != 8) = false ∧ K = 0) ∨ ((p.k == 10) = true ∧ K = 3) := by
    rcases hk with ⟨q1, q2⟩ | ⟨q1, q2⟩
    · exact .inl ⟨by simp [q1], by simp [q1], q2⟩
    · exact .inr ⟨by simp [q1], q2⟩
  clear hc hk h hf hi hi1 hs hco ho hPC1 hB
  rcases tk with ⟨t1, t2, rfl⟩ | ⟨t1, rfl⟩
  all_goals (
    go_enter Try.func22, Try.ntmps22
    go_wp2_with (refine wpList_load_blk rfl 33 _ rfl w.heap.size rfl 33 (pmA p) _ (Rz.mk w p).2.1 Try.underlying33 rfl (by kernel_rfl) ?_)
    refine (CK.out _).mono ?_
    rintro _ w1 ⟨rfl, l1⟩
    have K1 := (Rz.mk w p).on l1
    have K1a := K1.2.1
    have R1 := ((H0.out.alloc (.cells (pmA p) 33)).alloc (.cells zA 33)).on l1
    have k0 : w1.cell? ⟨w.heap.size, 0, none⟩ = some (.int .i64 p.k) := K1.2.1.cell 0
    have kz := K1.2.1.lt
    have R1 := Lib.hid R1
    clear l1
    go_wp2_with (refine wpList_load_blk rfl 33 _ rfl w.heap.size rfl 33 (pmA p) _ K1a Try.underlying33 rfl (by kernel_rfl) ?_)
    refine (FD.out _ R1.out).mono ?_
    rintro _ w2 ⟨rfl, l2⟩
    have Z2 := Lib.hid (K1.on l2)
    have R2 := Lib.hid (R1.out.on l2)
    clear l2 K1 K1a k0 kz R1
    go_wp2_with fail
    obtain ⟨g, rfl, _, _, _⟩ := R2.out.at_ hq.out
    have R3 := Lib.hid (R2.out.drewN 1)
    have Z3 : Hid (Rz w (w2.drewN 1) p zA) := Lib.hid ⟨below_drewN Z2.out.1 1, Z2.out.2.1.drewN 1, Z2.out.2.2.drewN 1⟩
    clear R2 Z2
    have S0 := Lib.hid (s3_of Z3.out R3.out hq.out)
    refine wp_region_held_drew (S := (fun w' : World => w'.rangeAt w.heap.size 0 (pmA p).toList ∧ w'.cell? ⟨u, 1, none⟩ = some (.slice (some ⟨g, 0, none⟩) n c) ∧ w'.cell? ⟨g, i * 22 + 21, none⟩ = some (.int .i64 s))) (by kernel_rfl) S0.out (fun hHeld => ?_)
    have e4 : w2.drew = w2.drewN 1 := rfl
    rw [e4] at hHeld ⊢
    generalize (w2.drewN 1) = w3 at hHeld R3 Z3 S0 ⊢
    clear e4
    have Rw3 := R3
    have Zw3 := Z3
    refine wpAnyH_take (i := 0) (oi := _) (v := .agg (pmA p)) rfl (by kernel_rfl) (by kernel_rfl) (by kernel_rfl) (fun _ _ _ h => h) (yieldsIf_load_rng rfl 33 _ rfl w.heap.size 0 rfl (pmA p) _ (fun w' h => h.1) Try.underlying33 rfl (by kernel_rfl)) (by assumption) ?_
    try simp only [Act.put, List.getElem_toArray, List.getElem_cons_zero, List.getElem_cons_succ, List.setIfInBounds_toArray, List.set_cons_zero, List.set_cons_succ]
    refine wpAnyH_take (i := 1) (oi := _) (v := ?_) rfl (by kernel_rfl) (by kernel_rfl) (by kernel_rfl) (fun _ _ _ h => h) (Or.inl ⟨by rfl, ?_⟩) (by assumption) ?_
    rotate_left
    focus (intro w hSw; (try dsimp only at hSw); go_simp; try with_reducible rfl)
    try simp only [Act.put, List.getElem_toArray, List.getElem_cons_zero, List.getElem_cons_succ, List.setIfInBounds_toArray, List.set_cons_zero, List.set_cons_succ]
    refine wpAnyH_take (i := 2) (oi := _) (v := ?_) rfl (by kernel_rfl) (by kernel_rfl) (by kernel_rfl) (fun _ _ _ h => h) (Or.inl ⟨by rfl, ?_⟩) (by assumption) ?_
    rotate_left
    focus (intro w hSw; (try dsimp only at hSw); go_simp; try with_reducible rfl)
    try simp only [Act.put, List.getElem_toArray, List.getElem_cons_zero, List.getElem_cons_succ, List.setIfInBounds_toArray, List.set_cons_zero, List.set_cons_succ]
    refine wpAnyH_take (i := 3) (oi := _) (v := ?_) rfl (by kernel_rfl) (by kernel_rfl) (by kernel_rfl) (fun _ _ _ h => h) (Or.inl ⟨by rfl, ?_⟩) (by assumption) ?_
    rotate_left
    focus (intro w hSw; (try dsimp only at hSw); go_simp; try with_reducible rfl)
    try simp only [Act.put, List.getElem_toArray, List.getElem_cons_zero, List.getElem_cons_succ, List.setIfInBounds_toArray, List.set_cons_zero, List.set_cons_succ]
    refine wpAnyH_take (i := 4) (oi := _) (v := ?_) rfl (by kernel_rfl) (by kernel_rfl) (by kernel_rfl) (fun _ _ _ h => h) (Or.inl ⟨by rfl, ?_⟩) (by assumption) ?_
    rotate_left
    focus (intro w hSw; (try dsimp only at hSw); go_simp; try with_reducible rfl)
    try simp only [Act.put, List.getElem_toArray, List.getElem_cons_zero, List.getElem_cons_succ, List.setIfInBounds_toArray, List.set_cons_zero, List.set_cons_succ]
    refine wpAnyH_take (i := 5) (oi := _) (v := ?_) rfl (by kernel_rfl) (by kernel_rfl) (by kernel_rfl) (fun _ _ _ h => h) (Or.inl ⟨by rfl, ?_⟩) (by assumption) ?_
    rotate_left
    focus (intro w hSw; (try dsimp only at hSw); go_simp; try with_reducible rfl)
    try simp only [Act.put, List.getElem_toArray, List.getElem_cons_zero, List.getElem_cons_succ, List.setIfInBounds_toArray, List.set_cons_zero, List.set_cons_succ]
    refine wpAnyH_take (i := 6) (oi := _) (v := ?_) rfl (by kernel_rfl) (by kernel_rfl) (by kernel_rfl) (fun _ _ _ h => h) (Or.inl ⟨by rfl, ?_⟩) (by assumption) ?_
    rotate_left
    focus (intro w hSw; (try dsimp only at hSw); go_simp; try with_reducible rfl)
    try simp only [Act.put, List.getElem_toArray, List.getElem_cons_zero, List.getElem_cons_succ, List.setIfInBounds_toArray, List.set_cons_zero, List.set_cons_succ]
    refine wpAnyH_take (i := 7) (oi := _) (v := ?_) rfl (by kernel_rfl) (by kernel_rfl) (by kernel_rfl) (fun _ _ _ h => h) (Or.inl ⟨by rfl, ?_⟩) (by assumption) ?_
    rotate_left
    focus (intro w hSw; (try dsimp only at hSw); go_simp; try with_reducible rfl)
    try simp only [Act.put, List.getElem_toArray, List.getElem_cons_zero, List.getElem_cons_succ, List.setIfInBounds_toArray, List.set_cons_zero, List.set_cons_succ]
    refine wpAnyH_take (i := 8) (oi := _) (v := ?_) rfl (by kernel_rfl) (by kernel_rfl) (by kernel_rfl) (fun _ _ _ h => h) (Or.inl ⟨by rfl, ?_⟩) (by assumption) ?_
    rotate_left
    focus (intro w hSw; (try dsimp only at hSw); go_simp; try with_reducible rfl)
    try simp only [Act.put, List.getElem_toArray, List.getElem_cons_zero, List.getElem_cons_succ, List.setIfInBounds_toArray, List.set_cons_zero, List.set_cons_succ]
    refine wpAnyH_ready (rs := [9, 13]) (by kernel_rfl) (by simp) ?_
    refine AllReadyH.cons rfl (fun K hK => ?_) (AllReadyH.cons rfl (fun K hK => ?_) AllReadyH.nil)
    · go_simp
      refine (CO.out _).mono ?_
      rintro _ v1 ⟨rfl, g1⟩
      have Zv1 := Lib.hid (Zw3.out.on g1)
      have Rv1 := Lib.hid (Rw3.out.on g1)
      have Sv1 := Lib.hid (s3_of Zv1.out Rv1.out hq.out)
      go_simp
      refine hK.out _ _ (Sv1.out) (fun hHeld2 => ?_)
      clear hK K hHeld
      have hHeld := hHeld2
      clear hHeld2
      try simp only [Act.put, List.getElem_toArray, List.getElem_cons_zero, List.getElem_cons_succ, List.setIfInBounds_toArray, List.set_cons_zero, List.set_cons_succ]
      refine wpAnyH_take (i := 10) (oi := _) (v := ?_) rfl (by kernel_rfl) (by kernel_rfl) (by kernel_rfl) (fun _ _ _ h => h) (Or.inl ⟨by rfl, ?_⟩) (by assumption) ?_
      rotate_left
      focus (intro w hSw; (try dsimp only at hSw); go_simp; try with_reducible rfl)
      try simp only [Act.put, List.getElem_toArray, List.getElem_cons_zero, List.getElem_cons_succ, List.setIfInBounds_toArray, List.set_cons_zero, List.set_cons_succ]
      refine wpAnyH_take (i := 11) (oi := _) (v := ?_) rfl (by kernel_rfl) (by kernel_rfl) (by kernel_rfl) (fun _ _ _ h => h) (Or.inl ⟨by rfl, ?_⟩) (by assumption) ?_
      rotate_left
      focus (intro w hSw; (try dsimp only at hSw); go_simp; try with_reducible rfl)
      try simp only [Act.put, List.getElem_toArray, List.getElem_cons_zero, List.getElem_cons_succ, List.setIfInBounds_toArray, List.set_cons_zero, List.set_cons_succ]
      refine wpAnyH_take (i := 12) (oi := _) (v := ?_) rfl (by kernel_rfl) (by kernel_rfl) (by kernel_rfl) (fun _ _ _ h => h) (Or.inl ⟨by rfl, ?_⟩) (by assumption) ?_
      rotate_left
      focus (intro w hSw; (try dsimp only at hSw); go_simp; try with_reducible rfl)
      try simp only [Act.put, List.getElem_toArray, List.getElem_cons_zero, List.getElem_cons_succ, List.setIfInBounds_toArray, List.set_cons_zero, List.set_cons_succ]
      refine wpAnyH_ready (rs := [13]) (by kernel_rfl) (by simp) ?_
      refine AllReadyH.cons rfl (fun K hK => ?_) AllReadyH.nil
      have Zv2 := Lib.hid (Zv1.out.alloc (.cells zA 33))
      have Rv2 := Lib.hid (Rv1.out.alloc (.cells zA 33))
      have Dv2 := Lib.hid (Blk.new v1 33 zA)
      have Xv2 : Hid (w.heap.size + 1 < v1.heap.size) := Lib.hid Zv1.out.2.2.lt
      have Sv2 := Lib.hid (s3_of Zv2.out Rv2.out hq.out)
      go_simp
      refine hK.out _ _ (Sv2.out) (fun hHeld2 => ?_)
      clear hK K hHeld
      have hHeld := hHeld2
      clear hHeld2
      try simp only [Act.put, List.getElem_toArray, List.getElem_cons_zero, List.getElem_cons_succ, List.setIfInBounds_toArray, List.set_cons_zero, List.set_cons_succ]
      refine wpAnyH_ready (rs := [14]) (by kernel_rfl) (by simp) ?_
      refine AllReadyH.cons rfl (fun K hK => ?_) AllReadyH.nil
      refine step_store_blk (by rfl) 33 _ _ (by rfl) v1.heap.size (pmA PC) (by rfl) (by rfl) 33 zA Dv2.out (by kernel_rfl) rfl (by kernel_rfl) ?_
      intro W5 D5 HG
      have Z5 := Lib.hid (Zv2.out.far HG Xv2.out)
      have R5 := Lib.hid (Rv2.out.grown HG (fun e => by subst e; exact absurd (Rv2.out.blk.ne_ Dv2.out (by decide)) (by simp)) (own_ne Rv2.out.own Dv2.out (by decide)))
      have D5 := Lib.hid D5
      obtain ⟨x8, hx8⟩ : ∃ x, v1.heap.size = x := ⟨_, rfl⟩
      rw [hx8] at D5
      have S5 := Lib.hid (s3_of Z5.out R5.out hq.out)
      refine hK.out _ _ (S5.out) (fun hHeld2 => ?_)
      clear hK K hHeld
      have hHeld := hHeld2
      clear hHeld2
      try simp only [Act.put, List.getElem_toArray, List.getElem_cons_zero, List.getElem_cons_succ, List.setIfInBounds_toArray, List.set_cons_zero, List.set_cons_succ]
      refine wpAnyH_take (i := 15) (oi := _) (v := ?_) rfl (by kernel_rfl) (by kernel_rfl) (by kernel_rfl) (fun _ _ _ h => h) (Or.inl ⟨by rfl, ?_⟩) (by assumption) ?_
      rotate_left
      focus (intro w hSw; (try dsimp only at hSw); go_simp; try with_reducible rfl)
      try simp only [Act.put, List.getElem_toArray, List.getElem_cons_zero, List.getElem_cons_succ, List.setIfInBounds_toArray, List.set_cons_zero, List.set_cons_succ]
      refine wpAnyH_done (by kernel_rfl) ?_ _
      rw [hx8]
      have z1 : W5.cell? ⟨u, 1, none⟩ = some (.slice (some ⟨g, 0, none⟩) n c) := R5.out.blk.cell 1
      have uz := R5.out.blk.lt
      have hi64 : (i : Int) ≤ 63 := by omega
      have hic : (i : Int) ≤ (c : Int) := by omega
      have hin : (i : Int) + 1 ≤ (n : Int) := by omega
      have hnc : (n : Int) ≤ (c : Int) := by omega
      have hcm : (c : Int) ≤ 9223372036854775807 := hcmax.out
      have hi10 : (0 : Int) ≤ (i : Int) + 1 := by omega
      have hi1c : (i : Int) + 1 ≤ (c : Int) := by omega
      have kwi : IntKind.i64.wrap ((i : Int) + 1) = (i : Int) + 1 := IntWalk.i64_in _ (by omega)
      have hB5 : Hid (B ≤ W5.heap.size) := Lib.hid R5.out.base
      have D5l := D5.out.lt
      by_cases hce : i + 1 = c
      · obtain rfl : n = i + 1 := by omega
        subst hce
        go_wp2_with (first | (at_builtin; refine wpList_append_own _ rfl _ _ 72 rfl B 80 i0 z0 22 176 Try.underlying72 HI.out.1 HI.out.2.1 HI.out.2.2.1 HI.out.2.2.2.1 HI.out.2.2.2.2 (by decide) _ _ _ rfl (World.ownsRow_made W5 #[] 0 hB5.out (Nat.zero_le _) rfl) _ i _ (hC (l.take i)) rfl (by rw [hC_len, List.length_take]; have := R5.out.len; congr 1; omega) (news_take (R5.out.alloc (.cells #[] 80)) hil.out) (oneC _) (by unfold maxLen; omega) (by omega) (Nat.le_trans hB5.out (only_alloc (only_refl _ none) _).size) ?_; rintro v7 w7 hown7 hgrow7 -; have R7 := Lib.hid ((R5.out.alloc (.cells #[] 80)).grown hgrow7 (fun e => by have := R5.out.blk.lt; exact absurd e (Nat.ne_of_lt this)) (fun e => by injection e with e; have := (R5.out.own.lt g rfl).2; exact absurd e.symm (Nat.ne_of_lt this))); have Z7 := Lib.hid ((Z5.out.alloc (.cells #[] 80)).far hgrow7 Z5.out.2.2.lt); have D7 := Lib.hid ((D5.out.alloc (.cells #[] 80)).grown hgrow7 (fun e => by injection e with e; exact absurd e (Nat.ne_of_lt D5.out.lt))); have O7 := Lib.hid hown7; have z7 : w7.cell? ⟨u, 1, none⟩ = some (.slice (some ⟨g, 0, none⟩) (i + 1) (i + 1)) := R7.out.blk.cell 1; have f7 := R7.out.blk.frozen 1; have uz7 := R7.out.blk.lt; clear hown7 hgrow7 z1 uz) | (at_builtin; refine wpList_append_own _ rfl _ _ 72 rfl B 80 i0 z0 22 176 Try.underlying72 HI.out.1 HI.out.2.1 HI.out.2.2.1 HI.out.2.2.2.1 HI.out.2.2.2.2 (by decide) v7 (0 + i) _ rfl O7.out _ 0 _ [] rfl rfl (by intro j v h; cases h) (by intro v h; cases h) (by unfold maxLen; omega) (by omega) R7.out.base ?_; rintro v8 w8 hown8 hgrow8 -; obtain ⟨a8, c8, rfl⟩ := own_shape hown8; have Y8 := R7.out.blk.grown hgrow8 (own_ne O7.out R7.out.blk (by decide)); have z8 : w8.cell? ⟨u, 1, none⟩ = some (.slice (some ⟨g, 0, none⟩) (i + 1) (i + 1)) := Y8.cell 1; have f8 := Y8.frozen 1; have uz8 := Y8.lt; rw [show 0 + i + 0 = i by omega] at hown8; have P8 := Z7.out.2.2.grown hgrow8 (own_ne O7.out Z7.out.2.2 (by decide)); have D8 := D7.out.grown hgrow8 (own_ne O7.out D7.out (by decide)); have P9 := Lib.hid (P8.far (p := ⟨u, 1, none⟩) (P8.ne_ Y8 (by decide)) (.slice a8 i c8)); have D9 := Lib.hid (D8.far (p := ⟨u, 1, none⟩) (D8.ne_ Y8 (by decide)) (.slice a8 i c8)); have G9 := only_setCell (only_refl w8 (some u)) (p := ⟨u, 1, none⟩) (.inl rfl) (.slice a8 i c8); have F9 : Hid (Fr B u w (w8.setCell ⟨u, 1, none⟩ (.slice a8 i c8))) := Lib.hid (((Fr.of_below Z7.out.1 HB.out : Fr B u w w7).then_own hgrow8 (fun x hx => Or.inl (O7.out.lt x hx).1) (fun k t cs hb ht _ _ => own_ne O7.out hb ht)).then_own G9 (fun x hx => Or.inr (by injection hx with hx; exact hx.symm)) (fun k t cs _ _ _ hu e => hu (by injection e))); have R9 : Hid (Rt (w8.setCell ⟨u, 1, none⟩ (.slice a8 i c8)) u B lim a8 i c8 (l.take i ++ l.drop (i + 1))) := Lib.hid ⟨Y8.set_ 1 _, Nat.le_trans (Nat.le_trans R7.out.base hgrow8.size) G9.size, (congrArg (World.ownsRow _ B 80 22 _ _) (show [] ++ hC (l.take i) ++ [] = hC (l.take i ++ l.drop (i + 1)) by rw [List.drop_eq_nil_of_le (by have := R7.out.len; omega)]; simp)).mp (hown8.kept G9 (Or.inr (own_ne hown8 Y8 (by decide)).symm)), by rw [List.length_append, List.length_take, List.length_drop, R7.out.len]; omega⟩; clear Y8 P8 D8 hown8 hgrow8 G9) | (refine wpList_load_blk rfl 33 _ rfl x8 rfl 33 (pmA PC) _ D9.out Try.underlying33 rfl (by kernel_rfl) ?_) | (refine wpList_store_blk rfl 33 _ _ rfl (w.heap.size + 1) (pmA PC) rfl rfl 33 zA P9.out (by kernel_rfl) rfl (by kernel_rfl) ?_; intro W10 HW10 HG10; have R10 := R9.out.grown HG10 (fun e => by subst e; exact absurd (R9.out.blk.ne_ P9.out (by decide)) (by simp)) (own_ne R9.out.own P9.out (by decide)); have F10 := F9.out.then_own HG10 (fun x hx => Or.inl (by injection hx with hx; have := HB.out; omega)) (fun k t cs _ _ hk _ e => by injection e with e; omega)))
        obtain rfl := hPC.out
        exact bodyPost_ret (v := .tuple #[.agg (pmA (p.wco (p.co + s * 65536))), .int .i64 0]) (results_cell_tmp rfl _ _ (w.heap.size + 1) 33 (pmA (p.wco (p.co + s * 65536))) _ _ rfl rfl HW10 Try.underlying33 rfl info_pm) rfl ⟨rfl, F10, _, _, _, R10⟩
      · have hcl : i + 1 < c := by omega
        go_wp2_with (first | (at_builtin; refine wpList_append_own _ rfl _ _ 72 rfl B 80 i0 z0 22 176 Try.underlying72 HI.out.1 HI.out.2.1 HI.out.2.2.1 HI.out.2.2.2.1 HI.out.2.2.2.2 (by decide) _ _ _ rfl (World.ownsRow_made W5 #[] 0 hB5.out (Nat.zero_le _) rfl) _ i _ (hC (l.take i)) rfl (by rw [hC_len, List.length_take]; have := R5.out.len; congr 1; omega) (news_take (R5.out.alloc (.cells #[] 80)) hil.out) (oneC _) (by unfold maxLen; omega) (by omega) (Nat.le_trans hB5.out (only_alloc (only_refl _ none) _).size) ?_; rintro v7 w7 hown7 hgrow7 -; have R7 := Lib.hid ((R5.out.alloc (.cells #[] 80)).grown hgrow7 (fun e => by have := R5.out.blk.lt; exact absurd e (Nat.ne_of_lt this)) (fun e => by injection e with e; have := (R5.out.own.lt g rfl).2; exact absurd e.symm (Nat.ne_of_lt this))); have Z7 := Lib.hid ((Z5.out.alloc (.cells #[] 80)).far hgrow7 Z5.out.2.2.lt); have D7 := Lib.hid ((D5.out.alloc (.cells #[] 80)).grown hgrow7 (fun e => by injection e with e; exact absurd e (Nat.ne_of_lt D5.out.lt))); have O7 := Lib.hid hown7; have z7 : w7.cell? ⟨u, 1, none⟩ = some (.slice (some ⟨g, 0, none⟩) n c) := R7.out.blk.cell 1; have f7 := R7.out.blk.frozen 1; have uz7 := R7.out.blk.lt; clear hown7 hgrow7 z1 uz) | (at_builtin; refine wpList_append_own _ rfl _ _ 72 rfl B 80 i0 z0 22 176 Try.underlying72 HI.out.1 HI.out.2.1 HI.out.2.2.1 HI.out.2.2.2.1 HI.out.2.2.2.2 (by decide) v7 (0 + i) _ rfl O7.out _ (n - (i + 1)) _ (hC (l.drop (i + 1))) rfl (by rw [hC_len, List.length_drop, R7.out.len]) (news_drop R7.out hil.out) (oneC _) (by unfold maxLen; omega) (by omega) R7.out.base ?_; rintro v8 w8 hown8 hgrow8 -; obtain ⟨a8, c8, rfl⟩ := own_shape hown8; have Y8 := R7.out.blk.grown hgrow8 (own_ne O7.out R7.out.blk (by decide)); have z8 : w8.cell? ⟨u, 1, none⟩ = some (.slice (some ⟨g, 0, none⟩) n c) := Y8.cell 1; have f8 := Y8.frozen 1; have uz8 := Y8.lt; rw [Nat.zero_add] at hown8; have P8 := Z7.out.2.2.grown hgrow8 (own_ne O7.out Z7.out.2.2 (by decide)); have D8 := D7.out.grown hgrow8 (own_ne O7.out D7.out (by decide)); have P9 := Lib.hid (P8.far (p := ⟨u, 1, none⟩) (P8.ne_ Y8 (by decide)) (.slice a8 (i + (n - (i + 1))) c8)); have D9 := Lib.hid (D8.far (p := ⟨u, 1, none⟩) (D8.ne_ Y8 (by decide)) (.slice a8 (i + (n - (i + 1))) c8)); have G9 := only_setCell (only_refl w8 (some u)) (p := ⟨u, 1, none⟩) (.inl rfl) (.slice a8 (i + (n - (i + 1))) c8); have F9 : Hid (Fr B u w (w8.setCell ⟨u, 1, none⟩ (.slice a8 (i + (n - (i + 1))) c8))) := Lib.hid (((Fr.of_below Z7.out.1 HB.out : Fr B u w w7).then_own hgrow8 (fun x hx => Or.inl (O7.out.lt x hx).1) (fun k t cs hb ht _ _ => own_ne O7.out hb ht)).then_own G9 (fun x hx => Or.inr (by injection hx with hx; exact hx.symm)) (fun k t cs _ _ _ hu e => hu (by injection e))); have R9 : Hid (Rt (w8.setCell ⟨u, 1, none⟩ (.slice a8 (i + (n - (i + 1))) c8)) u B lim a8 (i + (n - (i + 1))) c8 (l.take i ++ l.drop (i + 1))) := Lib.hid ⟨Y8.set_ 1 _, Nat.le_trans (Nat.le_trans R7.out.base hgrow8.size) G9.size, (congrArg (World.ownsRow _ B 80 22 _ _) (show [] ++ hC (l.take i) ++ hC (l.drop (i + 1)) = hC (l.take i ++ l.drop (i + 1)) by rw [hC_app, List.nil_append])).mp (hown8.kept G9 (Or.inr (own_ne hown8 Y8 (by decide)).symm)), by rw [List.length_append, List.length_take, List.length_drop, R7.out.len]; omega⟩; clear Y8 P8 D8 hown8 hgrow8 G9) | (refine wpList_load_blk rfl 33 _ rfl x8 rfl 33 (pmA PC) _ D9.out Try.underlying33 rfl (by kernel_rfl) ?_) | (refine wpList_store_blk rfl 33 _ _ rfl (w.heap.size + 1) (pmA PC) rfl rfl 33 zA P9.out (by kernel_rfl) rfl (by kernel_rfl) ?_; intro W10 HW10 HG10; have R10 := R9.out.grown HG10 (fun e => by subst e; exact absurd (R9.out.blk.ne_ P9.out (by decide)) (by simp)) (own_ne R9.out.own P9.out (by decide)); have F10 := F9.out.then_own HG10 (fun x hx => Or.inl (by injection hx with hx; have := HB.out; omega)) (fun k t cs _ _ hk _ e => by injection e with e; omega)))
        obtain rfl := hPC.out
        exact bodyPost_ret (v := .tuple #[.agg (pmA (p.wco (p.co + s * 65536))), .int .i64 0]) (results_cell_tmp rfl _ _ (w.heap.size + 1) 33 (pmA (p.wco (p.co + s * 65536))) _ _ rfl rfl HW10 Try.underlying33 rfl info_pm) rfl ⟨rfl, F10, _, _, _, R10⟩
    · have Zv1 := Lib.hid (Zw3.out.alloc (.cells zA 33))
      have Rv1 := Lib.hid (Rw3.out.alloc (.cells zA 33))
      have Dv1 := Lib.hid (Blk.new w3 33 zA)
      have Xv1 : Hid (w.heap.size + 1 < w3.heap.size) := Lib.hid Zw3.out.2.2.lt
      have Sv1 := Lib.hid (s3_of Zv1.out Rv1.out hq.out)
      go_simp
      refine hK.out _ _ (Sv1.out) (fun hHeld2 => ?_)
      clear hK K hHeld
      have hHeld := hHeld2
      clear hHeld2
      try simp only [Act.put, List.getElem_toArray, List.getElem_cons_zero, List.getElem_cons_succ, List.setIfInBounds_toArray, List.set_cons_zero, List.set_cons_succ]
      refine wpAnyH_ready (rs := [9]) (by kernel_rfl) (by simp) ?_
      refine AllReadyH.cons rfl (fun K hK => ?_) AllReadyH.nil
      go_simp
      refine (CO.out _).mono ?_
      rintro _ v2 ⟨rfl, g1⟩
      have Zv2 := Lib.hid (Zv1.out.on g1)
      have Rv2 := Lib.hid (Rv1.out.on g1)
      have Sv2 := Lib.hid (s3_of Zv2.out Rv2.out hq.out)
      have Dv2 := Lib.hid (Dv1.out.below_ g1)
      have Xv2 := Xv1
      go_simp
      refine hK.out _ _ (Sv2.out) (fun hHeld2 => ?_)
      clear hK K hHeld
      have hHeld := hHeld2
      clear hHeld2
      try simp only [Act.put, List.getElem_toArray, List.getElem_cons_zero, List.getElem_cons_succ, List.setIfInBounds_toArray, List.set_cons_zero, List.set_cons_succ]
      refine wpAnyH_take (i := 10) (oi := _) (v := ?_) rfl (by kernel_rfl) (by kernel_rfl) (by kernel_rfl) (fun _ _ _ h => h) (Or.inl ⟨by rfl, ?_⟩) (by assumption) ?_
      rotate_left
      focus (intro w hSw; (try dsimp only at hSw); go_simp; try with_reducible rfl)
      try simp only [Act.put, List.getElem_toArray, List.getElem_cons_zero, List.getElem_cons_succ, List.setIfInBounds_toArray, List.set_cons_zero, List.set_cons_succ]
      refine wpAnyH_take (i := 11) (oi := _) (v := ?_) rfl (by kernel_rfl) (by kernel_rfl) (by kernel_rfl) (fun _ _ _ h => h) (Or.inl ⟨by rfl, ?_⟩) (by assumption) ?_
      rotate_left
      focus (intro w hSw; (try dsimp only at hSw); go_simp; try with_reducible rfl)
      try simp only [Act.put, List.getElem_toArray, List.getElem_cons_zero, List.getElem_cons_succ, List.setIfInBounds_toArray, List.set_cons_zero, List.set_cons_succ]
      refine wpAnyH_take (i := 12) (oi := _) (v := ?_) rfl (by kernel_rfl) (by kernel_rfl) (by kernel_rfl) (fun _ _ _ h => h) (Or.inl ⟨by rfl, ?_⟩) (by assumption) ?_
      rotate_left
      focus (intro w hSw; (try dsimp only at hSw); go_simp; try with_reducible rfl)
      try simp only [Act.put, List.getElem_toArray, List.getElem_cons_zero, List.getElem_cons_succ, List.setIfInBounds_toArray, List.set_cons_zero, List.set_cons_succ]
      refine wpAnyH_ready (rs := [14]) (by kernel_rfl) (by simp) ?_
      refine AllReadyH.cons rfl (fun K hK => ?_) AllReadyH.nil
      refine step_store_blk (by rfl) 33 _ _ (by rfl) w3.heap.size (pmA PC) (by rfl) (by rfl) 33 zA Dv2.out (by kernel_rfl) rfl (by kernel_rfl) ?_
      intro W5 D5 HG
      have Z5 := Lib.hid (Zv2.out.far HG Xv2.out)
      have R5 := Lib.hid (Rv2.out.grown HG (fun e => by subst e; exact absurd (Rv2.out.blk.ne_ Dv2.out (by decide)) (by simp)) (own_ne Rv2.out.own Dv2.out (by decide)))
      have D5 := Lib.hid D5
      obtain ⟨x8, hx8⟩ : ∃ x, w3.heap.size = x := ⟨_, rfl⟩
      rw [hx8] at D5
      have S5 := Lib.hid (s3_of Z5.out R5.out hq.out)
      refine hK.out _ _ (S5.out) (fun hHeld2 => ?_)
      clear hK K hHeld
      have hHeld := hHeld2
      clear hHeld2
      try simp only [Act.put, List.getElem_toArray, List.getElem_cons_zero, List.getElem_cons_succ, List.setIfInBounds_toArray, List.set_cons_zero, List.set_cons_succ]
      refine wpAnyH_take (i := 15) (oi := _) (v := ?_) rfl (by kernel_rfl) (by kernel_rfl) (by kernel_rfl) (fun _ _ _ h => h) (Or.inl ⟨by rfl, ?_⟩) (by assumption) ?_
      rotate_left
      focus (intro w hSw; (try dsimp only at hSw); go_simp; try with_reducible rfl)
      try simp only [Act.put, List.getElem_toArray, List.getElem_cons_zero, List.getElem_cons_succ, List.setIfInBounds_toArray, List.set_cons_zero, List.set_cons_succ]
      refine wpAnyH_done (by kernel_rfl) ?_ _
      rw [hx8]
      have z1 : W5.cell? ⟨u, 1, none⟩ = some (.slice (some ⟨g, 0, none⟩) n c) := R5.out.blk.cell 1
      have uz := R5.out.blk.lt
      have hi64 : (i : Int) ≤ 63 := by omega
      have hic : (i : Int) ≤ (c : Int) := by omega
      have hin : (i : Int) + 1 ≤ (n : Int) := by omega
      have hnc : (n : Int) ≤ (c : Int) := by omega
      have hcm : (c : Int) ≤ 9223372036854775807 := hcmax.out
      have hi10 : (0 : Int) ≤ (i : Int) + 1 := by omega
      have hi1c : (i : Int) + 1 ≤ (c : Int) := by omega
      have kwi : IntKind.i64.wrap ((i : Int) + 1) = (i : Int) + 1 := IntWalk.i64_in _ (by omega)
      have hB5 : Hid (B ≤ W5.heap.size) := Lib.hid R5.out.base
      have D5l := D5.out.lt
      by_cases hce : i + 1 = c
      · obtain rfl : n = i + 1 := by omega
        subst hce
        go_wp2_with (first | (at_builtin; refine wpList_append_own _ rfl _ _ 72 rfl B 80 i0 z0 22 176 Try.underlying72 HI.out.1 HI.out.2.1 HI.out.2.2.1 HI.out.2.2.2.1 HI.out.2.2.2.2 (by decide) _ _ _ rfl (World.ownsRow_made W5 #[] 0 hB5.out (Nat.zero_le _) rfl) _ i _ (hC (l.take i)) rfl (by rw [hC_len, List.length_take]; have := R5.out.len; congr 1; omega) (news_take (R5.out.alloc (.cells #[] 80)) hil.out) (oneC _) (by unfold maxLen; omega) (by omega) (Nat.le_trans hB5.out (only_alloc (only_refl _ none) _).size) ?_; rintro v7 w7 hown7 hgrow7 -; have R7 := Lib.hid ((R5.out.alloc (.cells #[] 80)).grown hgrow7 (fun e => by have := R5.out.blk.lt; exact absurd e (Nat.ne_of_lt this)) (fun e => by injection e with e; have := (R5.out.own.lt g rfl).2; exact absurd e.symm (Nat.ne_of_lt this))); have Z7 := Lib.hid ((Z5.out.alloc (.cells #[] 80)).far hgrow7 Z5.out.2.2.lt); have D7 := Lib.hid ((D5.out.alloc (.cells #[] 80)).grown hgrow7 (fun e => by injection e with e; exact absurd e (Nat.ne_of_lt D5.out.lt))); have O7 := Lib.hid hown7; have z7 : w7.cell? ⟨u, 1, none⟩ = some (.slice (some ⟨g, 0, none⟩) (i + 1) (i + 1)) := R7.out.blk.cell 1; have f7 := R7.out.blk.frozen 1; have uz7 := R7.out.blk.lt; clear hown7 hgrow7 z1 uz) | (at_builtin; refine wpList_append_own _ rfl _ _ 72 rfl B 80 i0 z0 22 176 Try.underlying72 HI.out.1 HI.out.2.1 HI.out.2.2.1 HI.out.2.2.2.1 HI.out.2.2.2.2 (by decide) v7 (0 + i) _ rfl O7.out _ 0 _ [] rfl rfl (by intro j v h; cases h) (by intro v h; cases h) (by unfold maxLen; omega) (by omega) R7.out.base ?_; rintro v8 w8 hown8 hgrow8 -; obtain ⟨a8, c8, rfl⟩ := own_shape hown8; have Y8 := R7.out.blk.grown hgrow8 (own_ne O7.out R7.out.blk (by decide)); have z8 : w8.cell? ⟨u, 1, none⟩ = some (.slice (some ⟨g, 0, none⟩) (i + 1) (i + 1)) := Y8.cell 1; have f8 := Y8.frozen 1; have uz8 := Y8.lt; rw [show 0 + i + 0 = i by omega] at hown8; have P8 := Z7.out.2.2.grown hgrow8 (own_ne O7.out Z7.out.2.2 (by decide)); have D8 := D7.out.grown hgrow8 (own_ne O7.out D7.out (by decide)); have P9 := Lib.hid (P8.far (p := ⟨u, 1, none⟩) (P8.ne_ Y8 (by decide)) (.slice a8 i c8)); have D9 := Lib.hid (D8.far (p := ⟨u, 1, none⟩) (D8.ne_ Y8 (by decide)) (.slice a8 i c8)); have G9 := only_setCell (only_refl w8 (some u)) (p := ⟨u, 1, none⟩) (.inl rfl) (.slice a8 i c8); have F9 : Hid (Fr B u w (w8.setCell ⟨u, 1, none⟩ (.slice a8 i c8))) := Lib.hid (((Fr.of_below Z7.out.1 HB.out : Fr B u w w7).then_own hgrow8 (fun x hx => Or.inl (O7.out.lt x hx).1) (fun k t cs hb ht _ _ => own_ne O7.out hb ht)).then_own G9 (fun x hx => Or.inr (by injection hx with hx; exact hx.symm)) (fun k t cs _ _ _ hu e => hu (by injection e))); have R9 : Hid (Rt (w8.setCell ⟨u, 1, none⟩ (.slice a8 i c8)) u B lim a8 i c8 (l.take i ++ l.drop (i + 1))) := Lib.hid ⟨Y8.set_ 1 _, Nat.le_trans (Nat.le_trans R7.out.base hgrow8.size) G9.size, (congrArg (World.ownsRow _ B 80 22 _ _) (show [] ++ hC (l.take i) ++ [] = hC (l.take i ++ l.drop (i + 1)) by rw [List.drop_eq_nil_of_le (by have := R7.out.len; omega)]; simp)).mp (hown8.kept G9 (Or.inr (own_ne hown8 Y8 (by decide)).symm)), by rw [List.length_append, List.length_take, List.length_drop, R7.out.len]; omega⟩; clear Y8 P8 D8 hown8 hgrow8 G9) | (refine wpList_load_blk rfl 33 _ rfl x8 rfl 33 (pmA PC) _ D9.out Try.underlying33 rfl (by kernel_rfl) ?_) | (refine wpList_store_blk rfl 33 _ _ rfl (w.heap.size + 1) (pmA PC) rfl rfl 33 zA P9.out (by kernel_rfl) rfl (by kernel_rfl) ?_; intro W10 HW10 HG10; have R10 := R9.out.grown HG10 (fun e => by subst e; exact absurd (R9.out.blk.ne_ P9.out (by decide)) (by simp)) (own_ne R9.out.own P9.out (by decide)); have F10 := F9.out.then_own HG10 (fun x hx => Or.inl (by injection hx with hx; have := HB.out; omega)) (fun k t cs _ _ hk _ e => by injection e with e; omega)))
        obtain rfl := hPC.out
        exact bodyPost_ret (v := .tuple #[.agg (pmA (p.wco (p.co + s * 65536))), .int .i64 0]) (results_cell_tmp rfl _ _ (w.heap.size + 1) 33 (pmA (p.wco (p.co + s * 65536))) _ _ rfl rfl HW10 Try.underlying33 rfl info_pm) rfl ⟨rfl, F10, _, _, _, R10⟩
      · have hcl : i + 1 < c := by omega
        go_wp2_with (first | (at_builtin; refine wpList_append_own _ rfl _ _ 72 rfl B 80 i0 z0 22 176 Try.underlying72 HI.out.1 HI.out.2.1 HI.out.2.2.1 HI.out.2.2.2.1 HI.out.2.2.2.2 (by decide) _ _ _ rfl (World.ownsRow_made W5 #[] 0 hB5.out (Nat.zero_le _) rfl) _ i _ (hC (l.take i)) rfl (by rw [hC_len, List.length_take]; have := R5.out.len; congr 1; omega) (news_take (R5.out.alloc (.cells #[] 80)) hil.out) (oneC _) (by unfold maxLen; omega) (by omega) (Nat.le_trans hB5.out (only_alloc (only_refl _ none) _).size) ?_; rintro v7 w7 hown7 hgrow7 -; have R7 := Lib.hid ((R5.out.alloc (.cells #[] 80)).grown hgrow7 (fun e => by have := R5.out.blk.lt; exact absurd e (Nat.ne_of_lt this)) (fun e => by injection e with e; have := (R5.out.own.lt g rfl).2; exact absurd e.symm (Nat.ne_of_lt this))); have Z7 := Lib.hid ((Z5.out.alloc (.cells #[] 80)).far hgrow7 Z5.out.2.2.lt); have D7 := Lib.hid ((D5.out.alloc (.cells #[] 80)).grown hgrow7 (fun e => by injection e with e; exact absurd e (Nat.ne_of_lt D5.out.lt))); have O7 := Lib.hid hown7; have z7 : w7.cell? ⟨u, 1, none⟩ = some (.slice (some ⟨g, 0, none⟩) n c) := R7.out.blk.cell 1; have f7 := R7.out.blk.frozen 1; have uz7 := R7.out.blk.lt; clear hown7 hgrow7 z1 uz) | (at_builtin; refine wpList_append_own _ rfl _ _ 72 rfl B 80 i0 z0 22 176 Try.underlying72 HI.out.1 HI.out.2.1 HI.out.2.2.1 HI.out.2.2.2.1 HI.out.2.2.2.2 (by decide) v7 (0 + i) _ rfl O7.out _ (n - (i + 1)) _ (hC (l.drop (i + 1))) rfl (by rw [hC_len, List.length_drop, R7.out.len]) (news_drop R7.out hil.out) (oneC _) (by unfold maxLen; omega) (by omega) R7.out.base ?_; rintro v8 w8 hown8 hgrow8 -; obtain ⟨a8, c8, rfl⟩ := own_shape hown8; have Y8 := R7.out.blk.grown hgrow8 (own_ne O7.out R7.out.blk (by decide)); have z8 : w8.cell? ⟨u, 1, none⟩ = some (.slice (some ⟨g, 0, none⟩) n c) := Y8.cell 1; have f8 := Y8.frozen 1; have uz8 := Y8.lt; rw [Nat.zero_add] at hown8; have P8 := Z7.out.2.2.grown hgrow8 (own_ne O7.out Z7.out.2.2 (by decide)); have D8 := D7.out.grown hgrow8 (own_ne O7.out D7.out (by decide)); have P9 := Lib.hid (P8.far (p := ⟨u, 1, none⟩) (P8.ne_ Y8 (by decide)) (.slice a8 (i + (n - (i + 1))) c8)); have D9 := Lib.hid (D8.far (p := ⟨u, 1, none⟩) (D8.ne_ Y8 (by decide)) (.slice a8 (i + (n - (i + 1))) c8)); have G9 := only_setCell (only_refl w8 (some u)) (p := ⟨u, 1, none⟩) (.inl rfl) (.slice a8 (i + (n - (i + 1))) c8); have F9 : Hid (Fr B u w (w8.setCell ⟨u, 1, none⟩ (.slice a8 (i + (n - (i + 1))) c8))) := Lib.hid (((Fr.of_below Z7.out.1 HB.out : Fr B u w w7).then_own hgrow8 (fun x hx => Or.inl (O7.out.lt x hx).1) (fun k t cs hb ht _ _ => own_ne O7.out hb ht)).then_own G9 (fun x hx => Or.inr (by injection hx with hx; exact hx.symm)) (fun k t cs _ _ _ hu e => hu (by injection e))); have R9 : Hid (Rt (w8.setCell ⟨u, 1, none⟩ (.slice a8 (i + (n - (i + 1))) c8)) u B lim a8 (i + (n - (i + 1))) c8 (l.take i ++ l.drop (i + 1))) := Lib.hid ⟨Y8.set_ 1 _, Nat.le_trans (Nat.le_trans R7.out.base hgrow8.size) G9.size, (congrArg (World.ownsRow _ B 80 22 _ _) (show [] ++ hC (l.take i) ++ hC (l.drop (i + 1)) = hC (l.take i ++ l.drop (i + 1)) by rw [hC_app, List.nil_append])).mp (hown8.kept G9 (Or.inr (own_ne hown8 Y8 (by decide)).symm)), by rw [List.length_append, List.length_take, List.length_drop, R7.out.len]; omega⟩; clear Y8 P8 D8 hown8 hgrow8 G9) | (refine wpList_load_blk rfl 33 _ rfl x8 rfl 33 (pmA PC) _ D9.out Try.underlying33 rfl (by kernel_rfl) ?_) | (refine wpList_store_blk rfl 33 _ _ rfl (w.heap.size + 1) (pmA PC) rfl rfl 33 zA P9.out (by kernel_rfl) rfl (by kernel_rfl) ?_; intro W10 HW10 HG10; have R10 := R9.out.grown HG10 (fun e => by subst e; exact absurd (R9.out.blk.ne_ P9.out (by decide)) (by simp)) (own_ne R9.out.own P9.out (by decide)); have F10 := F9.out.then_own HG10 (fun x hx => Or.inl (by injection hx with hx; have := HB.out; omega)) (fun k t cs _ _ hk _ e => by injection e with e; omega)))
        obtain rfl := hPC.out
        exact bodyPost_ret (v := .tuple #[.agg (pmA (p.wco (p.co + s * 65536))), .int .i64 0]) (results_cell_tmp rfl _ _ (w.heap.size + 1) 33 (pmA (p.wco (p.co + s * 65536))) _ _ rfl rfl HW10 Try.underlying33 rfl info_pm) rfl ⟨rfl, F10, _, _, _, R10⟩)

end Go.Proofs.Ytnlfkafebbfenaa
