/- The reference's Release of layer 40, where the stay is found. -/
import Derived.Test.YtnlfkafebbfenaaResPl2
namespace Go.Proofs.Ytnlfkafebbfenaa
open Go.RowKit Go.Lib Go.Maps
theorem wanted_none {o : Oper} {y : Nat → Option Bool} (h : o.guard = none) : Region.wanted o y = true := by
  unfold Region.wanted
  rw [h]
theorem step_store_blk {P : Program} {ops : Array Oper} {o : Oper} {a : Act} {w : World} {K : Act → World → Prop} {Q : Exit → Act → World → Prop} (hgd : o.guard = none) (ty : TypeId) (x y : Operand) (ho : o.op = .store ty x y)
    (g : Nat) (cells : Array Value) (hx : a.eval x = .pointer (some ⟨g, 0, none⟩)) (hy : a.eval y = .agg cells)
    (t : TypeId) (old : Array Value) (hg : Blk w g t old) (hi : (P.info? ty).map (·.size) = some cells.size) (hold : old.size = cells.size) (h1 : cells.all (·.oneCell') = true)
    (h : ∀ W, Blk W g t cells → w.grownBy W (some g) → K (a.put o.dst undef) W) : if Region.wanted o (yielded ops a.tmps) = true then Oper.wp P o a w K Q else K (a.put o.dst undef) w := by
  rw [if_pos (wanted_none hgd)]
  exact wp_store_row ty x y ho g cells hx hy t old hg hi hold h1 (h _ (blk_setRow hg) (only_setRow w g cells))
theorem own_max {W : World} {B size n c : Nat} {e : TypeId} {a : Option Addr} {xs : List Value} (h : W.ownsRow B e size (.slice a n c) n xs) : (c : Int) ≤ 9223372036854775807 := by
  rcases h.2 with ⟨hv, _⟩ | ⟨g, cap, cur, hv, _, _, _, hm, _⟩
  · injection hv with _ _ hc
    omega
  · injection hv with _ _ hc
    unfold maxLen at hm
    omega
theorem Rt.grown {W W' : World} {u B : Nat} {lim : Int} {a : Option Addr} {n c : Nat} {l : RL} (h : Rt W u B lim a n c l) {x : Nat} (k : W.grownBy W' (some x)) (h1 : u ≠ x) (h2 : some x ≠ (Value.slice a n c).ownBlock) : Rt W' u B lim a n c l :=
  ⟨h.blk.grown k (fun e => by injection e with e; exact h1 e), Nat.le_trans h.base k.size, h.own.kept k (Or.inr h2.symm), h.len⟩
theorem s3_of {w W : World} {u B g n c i : Nat} {lim : Int} {l : RL} {p q : Pl.PM} {s : Int} {z : Array Value} (hz : Rz w W p z) (h : Rt W u B lim (some ⟨g, 0, none⟩) n c l) (hq : l[i]? = some (q, s)) :
    W.rangeAt w.heap.size 0 (pmA p).toList ∧ W.cell? ⟨u, 1, none⟩ = some (.slice (some ⟨g, 0, none⟩) n c) ∧ W.cell? ⟨g, i * 22 + 21, none⟩ = some (.int .i64 s) := by
  obtain ⟨g', hg, _, _, hc⟩ := h.at_ hq
  injection hg with hg
  injection hg with hg
  subst hg
  exact ⟨blk_rng hz.2.1, h.blk.cell 1, hc⟩
theorem hC_split (l : RL) (i : Nat) : hC l = hC (l.take i) ++ hC (l.drop i) := by rw [← hC_app, List.take_append_drop]
theorem news_take {W : World} {u B g n c i : Nat} {lim : Int} {l : RL} (h : Rt W u B lim (some ⟨g, 0, none⟩) n c l) (hi : i < n) : ∀ j v, (hC (l.take i))[j]? = some v → W.cell? ((⟨g, 0, none⟩ : Addr).add j) = some v := by
  intro j v hv
  have hj := (List.getElem?_eq_some_iff.1 hv).1
  have hl := hC_len (l.take i)
  rw [List.length_take] at hl
  have := h.len
  rw [Addr.add_mid, Nat.zero_add, h.own.cellAt j (by omega), hC_split l i, List.getElem?_append_left hj]
  exact hv
theorem news_drop {W : World} {u B g n c i : Nat} {lim : Int} {l : RL} (h : Rt W u B lim (some ⟨g, 0, none⟩) n c l) (hi : i < n) : ∀ j v, (hC (l.drop (i + 1)))[j]? = some v → W.cell? ((⟨g, (i + 1) * 22, none⟩ : Addr).add j) = some v := by
  intro j v hv
  have hj := (List.getElem?_eq_some_iff.1 hv).1
  have hl := hC_len (l.drop (i + 1))
  have hl2 := hC_len (l.take (i + 1))
  rw [List.length_drop] at hl
  rw [List.length_take] at hl2
  have := h.len
  have e : (hC (l.take (i + 1))).length = (i + 1) * 22 := by rw [hl2]; congr 1; omega
  rw [Addr.add_mid, h.own.cellAt ((i + 1) * 22 + j) (by omega), hC_split l (i + 1), List.getElem?_append_right (by omega), e, Nat.add_sub_cancel_left]
  exact hv
theorem oneC (l : RL) : ∀ v ∈ hC l, v.oneCell' = true := by
  intro v hv
  obtain ⟨q, _, hq⟩ := List.mem_flatMap.1 hv
  exact oneA q.1 q.2 v hq
theorem own_shape {W : World} {B size n : Nat} {e : TypeId} {v : Value} {xs : List Value} (h : W.ownsRow B e size v n xs) : ∃ (a : Option Addr) (c : Nat), v = .slice a n c := by
  rcases h.2 with ⟨rfl, rfl⟩ | ⟨g, cap, cur, rfl, _⟩
  · exact ⟨none, 0, rfl⟩
  · exact ⟨_, cap, rfl⟩
set_option maxHeartbeats 8000000 in
set_option maxRecDepth 100000 in
theorem urel_no (u B : Nat) (lim : Int) (a : Option Addr) (n c : Nat) (l : RL) (p : Pl.PM) (K : Int) (i : Nat) (q : Pl.PM) (s : Int) (w : World) (h : Rt w u B lim a n c l) (hB : B ≤ w.heap.size) (hn : n ≤ 64) (hc : Pl.chk p = 0) (hk : (p.k = 8 ∧ K = 0) ∨ (p.k = 10 ∧ K = 3)) (hi : l[i]? = some (q, s)) (hf : fndA l (nmOf K p) 0 = (i : Int)) (hs : (Lit.int .i64 s).wf = true) (hco : (Lit.int .i64 p.co).wf = true) (ho : Pl.corOk p s = false) :
    Calls Try.prog 22 #[.pointer (some ⟨u, 0, none⟩), pmV p] w fun e w' => e = .returned (.tuple #[pmV Pl.pm0, .int .i64 4]) ∧ Fr B u w w' ∧ ∃ (a' : Option Addr) (n' c' : Nat), Rt w' u B lim a' n' c' l := by
  have CK := fun W => rpmcheck_any p W
  rw [hc] at CK
  replace CK := Lib.hid CK
  have HB := Lib.hid hB
  have H0 := Lib.hid h
  have FD := Lib.hid (fun W (q : Rt W u B lim a n c l) => ufind_any u B lim a n c l K p W q hn)
  rw [hf] at FD
  have CO := fun W => rcorrect_any p s hco (wf64 hs).1 (wf64 hs).2 W
  rw [ho] at CO
  rw [if_neg (by simp)] at CO
  have hPC : Pl.corP p s = Pl.pm0 := by unfold Pl.corP; rw [ho]; rfl
  obtain ⟨PC, hPC1⟩ : ∃ PC, Pl.corP p s = PC := ⟨_, rfl⟩
  rw [hPC1] at CO
  replace CO := Lib.hid CO
  have hPC := Lib.hid (hPC1.symm.trans hPC)
  have hq := Lib.hid hi
  have hlt : i < n := by have := (List.getElem?_eq_some_iff.1 hi).1; have := h.len; omega
  have hil := Lib.hid hlt
  have t6 : decide ((i : Int) < 0) = false := by simp
  have hcap : n ≤ c := own_cap h.own
  have hcmax : Hid ((c : Int) ≤ 9223372036854775807) := Lib.hid (own_max h.own)
  have hj0 : (0 : Int) ≤ (i : Int) := by omega
  have hjn : (i : Int) < (n : Int) := by omega
  have hn64 : (n : Int) ≤ 64 := by omega
  obtain ⟨i0, z0, hi1⟩ := held_info
  have HI := Lib.hid hi1
  have tk : ((p.k == 10) = false ∧ (p.k != 8) = false ∧ K = 0) ∨ ((p.k == 10) = true ∧ K = 3) := by
    rcases hk with ⟨q1, q2⟩ | ⟨q1, q2⟩
    · exact .inl ⟨by simp [q1], by simp [q1], q2⟩
    · exact .inr ⟨by simp [q1], q2⟩
  clear hc hk h hf hi hi1 hs hco ho hPC1 hB
  rcases tk with ⟨t1, t2, rfl⟩ | ⟨t1, rfl⟩
  all_goals (
    go_enter Try.func22, Try.ntmps22
    go_wp2_with (refine wpList_load_blk rfl 33 _ rfl w.heap.size rfl 33 (pmA p) _ (Rz.mk w p).2.1 Try.underlying33 rfl (by kernel_rfl) ?_)
    refine (CK.out _).mono ?_
    rintro _ w1 ⟨rfl, l1⟩
    have K1 := (Rz.mk w p).on l1
    have K1a := K1.2.1
    have R1 := ((H0.out.alloc (.cells (pmA p) 33)).alloc (.cells zA 33)).on l1
    have k0 : w1.cell? ⟨w.heap.size, 0, none⟩ = some (.int .i64 p.k) := K1.2.1.cell 0
    have kz := K1.2.1.lt
    have R1 := Lib.hid R1
    clear l1
    go_wp2_with (refine wpList_load_blk rfl 33 _ rfl w.heap.size rfl 33 (pmA p) _ K1a Try.underlying33 rfl (by kernel_rfl) ?_)
    refine (FD.out _ R1.out).mono ?_
    rintro _ w2 ⟨rfl, l2⟩
    have Z2 := Lib.hid (K1.on l2)
    have R2 := Lib.hid (R1.out.on l2)
    clear l2 K1 K1a k0 kz R1
    go_wp2_with fail
    obtain ⟨g, rfl, _, _, _⟩ := R2.out.at_ hq.out
    have R3 := Lib.hid (R2.out.drewN 1)
    have Z3 : Hid (Rz w (w2.drewN 1) p zA) := Lib.hid ⟨below_drewN Z2.out.1 1, Z2.out.2.1.drewN 1, Z2.out.2.2.drewN 1⟩
    clear R2 Z2
    have S0 := Lib.hid (s3_of Z3.out R3.out hq.out)
    refine wp_region_held_drew (S := (fun w' : World => w'.rangeAt w.heap.size 0 (pmA p).toList ∧ w'.cell? ⟨u, 1, none⟩ = some (.slice (some ⟨g, 0, none⟩) n c) ∧ w'.cell? ⟨g, i * 22 + 21, none⟩ = some (.int .i64 s))) (by kernel_rfl) S0.out (fun hHeld => ?_)
    have e4 : w2.drew = w2.drewN 1 := rfl
    rw [e4] at hHeld ⊢
    generalize (w2.drewN 1) = w3 at hHeld R3 Z3 S0 ⊢
    clear e4
    have Rw3 := R3
    have Zw3 := Z3
    refine wpAnyH_take (i := 0) (oi := _) (v := .agg (pmA p)) rfl (by kernel_rfl) (by kernel_rfl) (by kernel_rfl) (fun _ _ _ h => h) (yieldsIf_load_rng rfl 33 _ rfl w.heap.size 0 rfl (pmA p) _ (fun w' h => h.1) Try.underlying33 rfl (by kernel_rfl)) (by assumption) ?_
    try simp only [Act.put, List.getElem_toArray, List.getElem_cons_zero, List.getElem_cons_succ, List.setIfInBounds_toArray, List.set_cons_zero, List.set_cons_succ]
    refine wpAnyH_take (i := 1) (oi := _) (v := ?_) rfl (by kernel_rfl) (by kernel_rfl) (by kernel_rfl) (fun _ _ _ h => h) (Or.inl ⟨by rfl, ?_⟩) (by assumption) ?_
    rotate_left
    focus (intro w hSw; (try dsimp only at hSw); go_simp; try with_reducible rfl)
    try simp only [Act.put, List.getElem_toArray, List.getElem_cons_zero, List.getElem_cons_succ, List.setIfInBounds_toArray, List.set_cons_zero, List.set_cons_succ]
    refine wpAnyH_take (i := 2) (oi := _) (v := ?_) rfl (by kernel_rfl) (by kernel_rfl) (by kernel_rfl) (fun _ _ _ h => h) (Or.inl ⟨by rfl, ?_⟩) (by assumption) ?_
    rotate_left
    focus (intro w hSw; (try dsimp only at hSw); go_simp; try with_reducible rfl)
    try simp only [Act.put, List.getElem_toArray, List.getElem_cons_zero, List.getElem_cons_succ, List.setIfInBounds_toArray, List.set_cons_zero, List.set_cons_succ]
    refine wpAnyH_take (i := 3) (oi := _) (v := ?_) rfl (by kernel_rfl) (by kernel_rfl) (by kernel_rfl) (fun _ _ _ h => h) (Or.inl ⟨by rfl, ?_⟩) (by assumption) ?_
    rotate_left
    focus (intro w hSw; (try dsimp only at hSw); go_simp; try with_reducible rfl)
    try simp only [Act.put, List.getElem_toArray, List.getElem_cons_zero, List.getElem_cons_succ, List.setIfInBounds_toArray, List.set_cons_zero, List.set_cons_succ]
    refine wpAnyH_take (i := 4) (oi := _) (v := ?_) rfl (by kernel_rfl) (by kernel_rfl) (by kernel_rfl) (fun _ _ _ h => h) (Or.inl ⟨by rfl, ?_⟩) (by assumption) ?_
    rotate_left
    focus (intro w hSw; (try dsimp only at hSw); go_simp; try with_reducible rfl)
    try simp only [Act.put, List.getElem_toArray, List.getElem_cons_zero, List.getElem_cons_succ, List.setIfInBounds_toArray, List.set_cons_zero, List.set_cons_succ]
    refine wpAnyH_take (i := 5) (oi := _) (v := ?_) rfl (by kernel_rfl) (by kernel_rfl) (by kernel_rfl) (fun _ _ _ h => h) (Or.inl ⟨by rfl, ?_⟩) (by assumption) ?_
    rotate_left
    focus (intro w hSw; (try dsimp only at hSw); go_simp; try with_reducible rfl)
    try simp only [Act.put, List.getElem_toArray, List.getElem_cons_zero, List.getElem_cons_succ, List.setIfInBounds_toArray, List.set_cons_zero, List.set_cons_succ]
    refine wpAnyH_take (i := 6) (oi := _) (v := ?_) rfl (by kernel_rfl) (by kernel_rfl) (by kernel_rfl) (fun _ _ _ h => h) (Or.inl ⟨by rfl, ?_⟩) (by assumption) ?_
    rotate_left
    focus (intro w hSw; (try dsimp only at hSw); go_simp; try with_reducible rfl)
    try simp only [Act.put, List.getElem_toArray, List.getElem_cons_zero, List.getElem_cons_succ, List.setIfInBounds_toArray, List.set_cons_zero, List.set_cons_succ]
    refine wpAnyH_take (i := 7) (oi := _) (v := ?_) rfl (by kernel_rfl) (by kernel_rfl) (by kernel_rfl) (fun _ _ _ h => h) (Or.inl ⟨by rfl, ?_⟩) (by assumption) ?_
    rotate_left
    focus (intro w hSw; (try dsimp only at hSw); go_simp; try with_reducible rfl)
    try simp only [Act.put, List.getElem_toArray, List.getElem_cons_zero, List.getElem_cons_succ, List.setIfInBounds_toArray, List.set_cons_zero, List.set_cons_succ]
    refine wpAnyH_take (i := 8) (oi := _) (v := ?_) rfl (by kernel_rfl) (by kernel_rfl) (by kernel_rfl) (fun _ _ _ h => h) (Or.inl ⟨by rfl, ?_⟩) (by assumption) ?_
    rotate_left
    focus (intro w hSw; (try dsimp only at hSw); go_simp; try with_reducible rfl)
    try simp only [Act.put, List.getElem_toArray, List.getElem_cons_zero, List.getElem_cons_succ, List.setIfInBounds_toArray, List.set_cons_zero, List.set_cons_succ]
    refine wpAnyH_ready (rs := [9, 13]) (by kernel_rfl) (by simp) ?_
    refine AllReadyH.cons rfl (fun K hK => ?_) (AllReadyH.cons rfl (fun K hK => ?_) AllReadyH.nil)
    · go_simp
      refine (CO.out _).mono ?_
      rintro _ v1 ⟨rfl, g1⟩
      have Zv1 := Lib.hid (Zw3.out.on g1)
      have Rv1 := Lib.hid (Rw3.out.on g1)
      have Sv1 := Lib.hid (s3_of Zv1.out Rv1.out hq.out)
      go_simp
      refine hK.out _ _ (Sv1.out) (fun hHeld2 => ?_)
      clear hK K hHeld
      have hHeld := hHeld2
      clear hHeld2
      try simp only [Act.put, List.getElem_toArray, List.getElem_cons_zero, List.getElem_cons_succ, List.setIfInBounds_toArray, List.set_cons_zero, List.set_cons_succ]
      refine wpAnyH_take (i := 10) (oi := _) (v := ?_) rfl (by kernel_rfl) (by kernel_rfl) (by kernel_rfl) (fun _ _ _ h => h) (Or.inl ⟨by rfl, ?_⟩) (by assumption) ?_
      rotate_left
      focus (intro w hSw; (try dsimp only at hSw); go_simp; try with_reducible rfl)
      try simp only [Act.put, List.getElem_toArray, List.getElem_cons_zero, List.getElem_cons_succ, List.setIfInBounds_toArray, List.set_cons_zero, List.set_cons_succ]
      refine wpAnyH_take (i := 11) (oi := _) (v := ?_) rfl (by kernel_rfl) (by kernel_rfl) (by kernel_rfl) (fun _ _ _ h => h) (Or.inl ⟨by rfl, ?_⟩) (by assumption) ?_
      rotate_left
      focus (intro w hSw; (try dsimp only at hSw); go_simp; try with_reducible rfl)
      try simp only [Act.put, List.getElem_toArray, List.getElem_cons_zero, List.getElem_cons_succ, List.setIfInBounds_toArray, List.set_cons_zero, List.set_cons_succ]
      refine wpAnyH_take (i := 12) (oi := _) (v := ?_) rfl (by kernel_rfl) (by kernel_rfl) (by kernel_rfl) (fun _ _ _ h => h) (Or.inl ⟨by rfl, ?_⟩) (by assumption) ?_
      rotate_left
      focus (intro w hSw; (try dsimp only at hSw); go_simp; try with_reducible rfl)
      try simp only [Act.put, List.getElem_toArray, List.getElem_cons_zero, List.getElem_cons_succ, List.setIfInBounds_toArray, List.set_cons_zero, List.set_cons_succ]
      refine wpAnyH_ready (rs := [13]) (by kernel_rfl) (by simp) ?_
      refine AllReadyH.cons rfl (fun K hK => ?_) AllReadyH.nil
      have Zv2 := Lib.hid (Zv1.out.alloc (.cells zA 33))
      have Rv2 := Lib.hid (Rv1.out.alloc (.cells zA 33))
      have Dv2 := Lib.hid (Blk.new v1 33 zA)
      have Xv2 : Hid (w.heap.size + 1 < v1.heap.size) := Lib.hid Zv1.out.2.2.lt
      have Sv2 := Lib.hid (s3_of Zv2.out Rv2.out hq.out)
      go_simp
      refine hK.out _ _ (Sv2.out) (fun hHeld2 => ?_)
      clear hK K hHeld
      have hHeld := hHeld2
      clear hHeld2
      try simp only [Act.put, List.getElem_toArray, List.getElem_cons_zero, List.getElem_cons_succ, List.setIfInBounds_toArray, List.set_cons_zero, List.set_cons_succ]
      refine wpAnyH_ready (rs := [14]) (by kernel_rfl) (by simp) ?_
      refine AllReadyH.cons rfl (fun K hK => ?_) AllReadyH.nil
      refine step_store_blk (by rfl) 33 _ _ (by rfl) v1.heap.size (pmA PC) (by rfl) (by rfl) 33 zA Dv2.out (by kernel_rfl) rfl (by kernel_rfl) ?_
      intro W5 D5 HG
      have Z5 := Lib.hid (Zv2.out.far HG Xv2.out)
      have R5 := Lib.hid (Rv2.out.grown HG (fun e => by subst e; exact absurd (Rv2.out.blk.ne_ Dv2.out (by decide)) (by simp)) (own_ne Rv2.out.own Dv2.out (by decide)))
      have D5 := Lib.hid D5
      obtain ⟨x8, hx8⟩ : ∃ x, v1.heap.size = x := ⟨_, rfl⟩
      rw [hx8] at D5
      have S5 := Lib.hid (s3_of Z5.out R5.out hq.out)
      refine hK.out _ _ (S5.out) (fun hHeld2 => ?_)
      clear hK K hHeld
      have hHeld := hHeld2
      clear hHeld2
      try simp only [Act.put, List.getElem_toArray, List.getElem_cons_zero, List.getElem_cons_succ, List.setIfInBounds_toArray, List.set_cons_zero, List.set_cons_succ]
      refine wpAnyH_take (i := 15) (oi := _) (v := ?_) rfl (by kernel_rfl) (by kernel_rfl) (by kernel_rfl) (fun _ _ _ h => h) (Or.inl ⟨by rfl, ?_⟩) (by assumption) ?_
      rotate_left
      focus (intro w hSw; (try dsimp only at hSw); go_simp; try with_reducible rfl)
      try simp only [Act.put, List.getElem_toArray, List.getElem_cons_zero, List.getElem_cons_succ, List.setIfInBounds_toArray, List.set_cons_zero, List.set_cons_succ]
      refine wpAnyH_done (by kernel_rfl) ?_ _
      rw [hx8]
      go_wp2_with (refine wpList_store_blk rfl 33 _ _ rfl (w.heap.size + 1) zA rfl rfl 33 zA Z5.out.2.2 (by kernel_rfl) rfl (by kernel_rfl) ?_; intro W6 HW6 HG6)
      have R6 : Rt W6 u B lim (some ⟨g, 0, none⟩) n c l := R5.out.grown HG6 (fun e => by subst e; exact absurd (R5.out.blk.ne_ Z5.out.2.2 (by decide)) (by simp)) (own_ne R5.out.own Z5.out.2.2 (by decide))
      exact bodyPost_ret (v := .tuple #[.agg zA, .int .i64 4]) (results_cell_tmp rfl _ _ (w.heap.size + 1) 33 zA _ _ rfl rfl HW6 Try.underlying33 rfl info_pm) rfl ⟨rfl, Fr.of_below (Z5.out.out HW6 HG6).1 HB.out, _, _, _, R6⟩
    · have Zv1 := Lib.hid (Zw3.out.alloc (.cells zA 33))
      have Rv1 := Lib.hid (Rw3.out.alloc (.cells zA 33))
      have Dv1 := Lib.hid (Blk.new w3 33 zA)
      have Xv1 : Hid (w.heap.size + 1 < w3.heap.size) := Lib.hid Zw3.out.2.2.lt
      have Sv1 := Lib.hid (s3_of Zv1.out Rv1.out hq.out)
      go_simp
      refine hK.out _ _ (Sv1.out) (fun hHeld2 => ?_)
      clear hK K hHeld
      have hHeld := hHeld2
      clear hHeld2
      try simp only [Act.put, List.getElem_toArray, List.getElem_cons_zero, List.getElem_cons_succ, List.setIfInBounds_toArray, List.set_cons_zero, List.set_cons_succ]
      refine wpAnyH_ready (rs := [9]) (by kernel_rfl) (by simp) ?_
      refine AllReadyH.cons rfl (fun K hK => ?_) AllReadyH.nil
      go_simp
      refine (CO.out _).mono ?_
      rintro _ v2 ⟨rfl, g1⟩
      have Zv2 := Lib.hid (Zv1.out.on g1)
      have Rv2 := Lib.hid (Rv1.out.on g1)
      have Sv2 := Lib.hid (s3_of Zv2.out Rv2.out hq.out)
      have Dv2 := Lib.hid (Dv1.out.below_ g1)
      have Xv2 := Xv1
      go_simp
      refine hK.out _ _ (Sv2.out) (fun hHeld2 => ?_)
      clear hK K hHeld
      have hHeld := hHeld2
      clear hHeld2
      try simp only [Act.put, List.getElem_toArray, List.getElem_cons_zero, List.getElem_cons_succ, List.setIfInBounds_toArray, List.set_cons_zero, List.set_cons_succ]
      refine wpAnyH_take (i := 10) (oi := _) (v := ?_) rfl (by kernel_rfl) (by kernel_rfl) (by kernel_rfl) (fun _ _ _ h => h) (Or.inl ⟨by rfl, ?_⟩) (by assumption) ?_
      rotate_left
      focus (intro w hSw; (try dsimp only at hSw); go_simp; try with_reducible rfl)
      try simp only [Act.put, List.getElem_toArray, List.getElem_cons_zero, List.getElem_cons_succ, List.setIfInBounds_toArray, List.set_cons_zero, List.set_cons_succ]
      refine wpAnyH_take (i := 11) (oi := _) (v := ?_) rfl (by kernel_rfl) (by kernel_rfl) (by kernel_rfl) (fun _ _ _ h => h) (Or.inl ⟨by rfl, ?_⟩) (by assumption) ?_
      rotate_left
      focus (intro w hSw; (try dsimp only at hSw); go_simp; try with_reducible rfl)
      try simp only [Act.put, List.getElem_toArray, List.getElem_cons_zero, List.getElem_cons_succ, List.setIfInBounds_toArray, List.set_cons_zero, List.set_cons_succ]
      refine wpAnyH_take (i := 12) (oi := _) (v := ?_) rfl (by kernel_rfl) (by kernel_rfl) (by kernel_rfl) (fun _ _ _ h => h) (Or.inl ⟨by rfl, ?_⟩) (by assumption) ?_
      rotate_left
      focus (intro w hSw; (try dsimp only at hSw); go_simp; try with_reducible rfl)
      try simp only [Act.put, List.getElem_toArray, List.getElem_cons_zero, List.getElem_cons_succ, List.setIfInBounds_toArray, List.set_cons_zero, List.set_cons_succ]
      refine wpAnyH_ready (rs := [14]) (by kernel_rfl) (by simp) ?_
      refine AllReadyH.cons rfl (fun K hK => ?_) AllReadyH.nil
      refine step_store_blk (by rfl) 33 _ _ (by rfl) w3.heap.size (pmA PC) (by rfl) (by rfl) 33 zA Dv2.out (by kernel_rfl) rfl (by kernel_rfl) ?_
      intro W5 D5 HG
      have Z5 := Lib.hid (Zv2.out.far HG Xv2.out)
      have R5 := Lib.hid (Rv2.out.grown HG (fun e => by subst e; exact absurd (Rv2.out.blk.ne_ Dv2.out (by decide)) (by simp)) (own_ne Rv2.out.own Dv2.out (by decide)))
      have D5 := Lib.hid D5
      obtain ⟨x8, hx8⟩ : ∃ x, w3.heap.size = x := ⟨_, rfl⟩
      rw [hx8] at D5
      have S5 := Lib.hid (s3_of Z5.out R5.out hq.out)
      refine hK.out _ _ (S5.out) (fun hHeld2 => ?_)
      clear hK K hHeld
      have hHeld := hHeld2
      clear hHeld2
      try simp only [Act.put, List.getElem_toArray, List.getElem_cons_zero, List.getElem_cons_succ, List.setIfInBounds_toArray, List.set_cons_zero, List.set_cons_succ]
      refine wpAnyH_take (i := 15) (oi := _) (v := ?_) rfl (by kernel_rfl) (by kernel_rfl) (by kernel_rfl) (fun _ _ _ h => h) (Or.inl ⟨by rfl, ?_⟩) (by assumption) ?_
      rotate_left
      focus (intro w hSw; (try dsimp only at hSw); go_simp; try with_reducible rfl)
      try simp only [Act.put, List.getElem_toArray, List.getElem_cons_zero, List.getElem_cons_succ, List.setIfInBounds_toArray, List.set_cons_zero, List.set_cons_succ]
      refine wpAnyH_done (by kernel_rfl) ?_ _
      rw [hx8]
      go_wp2_with (refine wpList_store_blk rfl 33 _ _ rfl (w.heap.size + 1) zA rfl rfl 33 zA Z5.out.2.2 (by kernel_rfl) rfl (by kernel_rfl) ?_; intro W6 HW6 HG6)
      have R6 : Rt W6 u B lim (some ⟨g, 0, none⟩) n c l := R5.out.grown HG6 (fun e => by subst e; exact absurd (R5.out.blk.ne_ Z5.out.2.2 (by decide)) (by simp)) (own_ne R5.out.own Z5.out.2.2 (by decide))
      exact bodyPost_ret (v := .tuple #[.agg zA, .int .i64 4]) (results_cell_tmp rfl _ _ (w.heap.size + 1) 33 zA _ _ rfl rfl HW6 Try.underlying33 rfl info_pm) rfl ⟨rfl, Fr.of_below (Z5.out.out HW6 HG6).1 HB.out, _, _, _, R6⟩)

end Go.Proofs.Ytnlfkafebbfenaa
