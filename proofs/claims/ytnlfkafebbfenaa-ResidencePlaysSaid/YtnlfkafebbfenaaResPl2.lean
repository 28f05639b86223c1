/- The reference's Hold of layer 40. -/
import Derived.Test.YtnlfkafebbfenaaResPl1
namespace Go.Proofs.Ytnlfkafebbfenaa
open Go.RowKit Go.Lib Go.Maps
/-- of what lies below B only the block u has turned -/
structure Fr (B u : Nat) (w w' : World) : Prop where
  os : w'.os = w.os
  tape : w'.tape = w.tape
  output : w'.output = w.output
  size : w.heap.size ≤ w'.heap.size
  base : B ≤ w.heap.size
  block : ∀ k, k < B → k ≠ u → w'.heap[k]? = w.heap[k]?
  keep : ∀ k t cs, Blk w k t cs → t ≠ 80 → k ≠ u → Blk w' k t cs
section
variable {w w1 w2 : World} {B u : Nat}
theorem Fr.of_below (h : Below w.heap.size w w1) (hB : B ≤ w.heap.size) : Fr B u w w1 := ⟨h.os, h.tape, h.output, h.size, hB, fun k hk _ => h.block k (by omega), fun k t cs hb _ _ => hb.below_ h⟩
theorem Fr.of_eq (hB : B ≤ w.heap.size) : Fr B u w w := ⟨rfl, rfl, rfl, Nat.le_refl _, hB, fun _ _ _ => rfl, fun _ _ _ h _ _ => h⟩
theorem Fr.drewN (h : Fr B u w w1) (n : Nat) : Fr B u w (w1.drewN n) := ⟨h.os, h.tape, h.output, h.size, h.base, h.block, fun k t cs hb h1 h2 => (h.keep k t cs hb h1 h2).drewN n⟩
theorem Fr.then_own (h : Fr B u w w1) {o : Option Nat} (k : w1.grownBy w2 o) (ho : ∀ g, o = some g → B ≤ g ∨ g = u) (ht : ∀ k t cs, Blk w1 k t cs → t ≠ 80 → k < w.heap.size → k ≠ u → some k ≠ o) : Fr B u w w2 :=
  ⟨k.os.trans h.os, k.tape.trans h.tape, k.output.trans h.output, Nat.le_trans h.size k.size, h.base, fun i hi hu => (k.block i (by have := h.base; have := h.size; omega) (fun e => by rcases ho i e.symm with q | q <;> omega)).trans (h.block i hi hu), fun i t cs hb h1 h2 => (h.keep i t cs hb h1 h2).grown k (ht i t cs (h.keep i t cs hb h1 h2) h1 hb.lt h2)⟩
theorem Fr.trans (h : Fr B u w w1) (k : Fr B u w1 w2) : Fr B u w w2 :=
  ⟨k.os.trans h.os, k.tape.trans h.tape, k.output.trans h.output, Nat.le_trans h.size k.size, h.base, fun i hi hu => (k.block i hi hu).trans (h.block i hi hu), fun i t cs hb h1 h2 => k.keep i t cs (h.keep i t cs hb h1 h2) h1 h2⟩
end
theorem blk_rng {w : World} {g : Nat} {t : TypeId} {cs : Array Value} (h : Blk w g t cs) : w.rangeAt g 0 cs.toList := fun j v hv => by
  rw [h.cell (0 + j), Nat.zero_add, ← hv, Array.getElem?_toList]
theorem yieldsIf_load_rng {P : Program} {ops : Array Oper} {S : World → Prop} {op : Oper} {a : Act} (hg : op.guard = none) (ty : TypeId) (x : Operand) (ho : op.op = .load ty x)
    (b o : Nat) (hx : a.eval x = .pointer (some ⟨b, o, none⟩)) (cs : Array Value) (d : TypeDesc) (hS : ∀ w, S w → w.rangeAt b o cs.toList)
    (hu : P.underlying ty = some d) (hd : d.isRow = true) (hi : (P.info? ty).map (·.size) = some cs.size) : YieldsIf P ops S op (.agg cs) a := by
  have := yieldsIf_load_mid (P := P) (ops := ops) (S := S) (op := op) (a := a) (by simp [Region.wanted, hg]) ty x ho b o hx cs.toList d hS hu hd (by simpa using hi)
  simpa using this
theorem held_info : ∃ i z, Try.prog.info? 80 = some i ∧ i.zero = some z ∧ i.size = 22 ∧ i.bytes = 176 ∧ z.cells.size = 22 := by
  obtain ⟨i, h1, h2, h3, h4⟩ : ∃ i : TypeInfo, Try.prog.info? 80 = some i ∧ i.zero = some (.agg (#[.int .i64 0, .int .i64 0, .int .i64 0, .int .i64 0, .int .u64 0, .int .i64 0, .int .i64 0, .int .i64 0, .int .i64 0, .int .i64 0, .int .u64 0, .int .i64 0, .int .i64 0, .int .i64 0, .int .i64 0, .int .i64 0, .int .i64 0, .int .i64 0, .int .u64 0, .int .i64 0, .int .i64 0].push (.int .i64 0))) ∧ i.size = 22 ∧ i.bytes = 176 := info_parts (by kernel_rfl)
  exact ⟨i, _, h1, h2, h3, h4, rfl⟩
theorem news_lit (w : World) (t : TypeId) (vs : List Value) : ∀ j u, vs[j]? = some u → (w.alloc (.cells vs.toArray t)).cell? ((⟨w.heap.size, 0, none⟩ : Addr).add j) = some u := by
  intro j u hj
  rw [Addr.add_mid, (Blk.new w t vs.toArray).cell (0 + j), Nat.zero_add, ← hj]
  simp
theorem oneA (p : Pl.PM) (s : Int) : ∀ v ∈ hA (p, s), v.oneCell' = true := by
  intro v hv
  have : (hA (p, s)).all (·.oneCell') = true := rfl
  exact List.all_eq_true.1 this v hv
theorem step_append_own {P : Program} {ops : Array Oper} {o : Oper} {a : Act} {w : World} {K : Act → World → Prop} {Q : Exit → Act → World → Prop} {E : Prop} (hg : o.guard = none) (s x : Operand) (t : TypeId)
    (ho : o.op = .call { callee := .builtin .append, args := #[s, x], argTypes := #[t, t] })
    (base : Nat) (e : TypeId) (i : TypeInfo) (z : Value) (size bytes : Nat) (ht : P.underlying t = some (.slice e)) (hi : P.info? e = some i) (hz : i.zero = some z)
    (hsize : i.size = size) (hby : i.bytes = bytes) (hzs : z.cells.size = size) (hsz : 0 < size)
    (v : Value) (n : Nat) (xs : List Value) (hs : a.eval s = v) (hown : w.ownsRow base e size v n xs)
    (ad : Addr) (m c : Nat) (news : List Value) (hx : a.eval x = .slice (some ad) m c) (hl : news.length = m * size) (hnews : ∀ j u, news[j]? = some u → w.cell? (ad.add j) = some u) (h1 : ∀ u ∈ news, u.oneCell' = true)
    (h63 : n + m ≤ maxLen) (hbytes : (n + m) * bytes ≤ 140737488355328) (hbase : base ≤ w.heap.size)
    (h : ∀ v' w', w'.ownsRow base e size v' (n + m) (xs ++ news) → w.grownBy w' v.ownBlock → (v' = .slice none 0 0 ↔ v = .slice none 0 0 ∧ m = 0) → K (a.put o.dst v') w') :
    if Region.wanted o (yielded ops a.tmps) = true then Oper.wp P o a w K Q else E := by
  have hw : Region.wanted o (yielded ops a.tmps) = true := by simp [Region.wanted, hg]
  rw [if_pos hw]
  exact wp_append_own w s x t ho base e i z size bytes ht hi hz hsize hby hzs hsz v n xs hs hown ad m c news hx hl hnews h1 h63 hbytes hbase h
def uholdE (l : RL) (lim : Int) (p : Pl.PM) (s : Int) : Int :=
  if Pl.chk p = 0 then (if p.k = 0 ∨ p.k = 3 then (if twoOff p = true then 15 else if Pl.inr s 0 1125899906842624 = true then (if 0 ≤ fndA l (nmOf p.k p) 0 then 10 else if lim ≤ l.length then 13 else 0) else 3) else 8) else 2
def uholdL (l : RL) (lim : Int) (p : Pl.PM) (s : Int) : RL := if uholdE l lim p s = 0 then l ++ [(p, s)] else l

set_option maxHeartbeats 4000000 in
set_option maxRecDepth 100000 in
theorem uhold_put (u B : Nat) (lim : Int) (a : Option Addr) (n c : Nat) (l : RL) (p : Pl.PM) (s : Int) (w : World) (h : Rt w u B lim a n c l) (hB : B ≤ w.heap.size) (hn : n ≤ 64) (hc : Pl.chk p = 0) (hk : p.k = 0 ∨ p.k = 3) (hf : twoOff p = false) (hs : Pl.inr s 0 1125899906842624 = true) (hno : fndA l (nmOf p.k p) 0 < 0) (hlim : (n : Int) < lim) :
    Calls Try.prog 20 #[.pointer (some ⟨u, 0, none⟩), pmV p, .int .i64 s] w fun e w' => e = .returned (.int .i64 0) ∧ Fr B u w w' ∧ ∃ (a' : Option Addr) (n' c' : Nat), Rt w' u B lim a' n' c' (l ++ [(p, s)]) := by
  have CK := fun W => rpmcheck_any p W
  rw [hc] at CK
  replace CK := Lib.hid CK
  have HB := Lib.hid hB
  have H0 := Lib.hid h
  have FD := Lib.hid (fun W (q : Rt W u B lim a n c l) => ufind_any u B lim a n c l p.k p W q hn)
  obtain ⟨F, hF⟩ : ∃ F, fndA l (nmOf p.k p) 0 = F := ⟨_, rfl⟩
  rw [hF] at FD hno
  have t6 : decide (0 ≤ F) = false := by simp; omega
  have t7 : decide (lim ≤ (n : Int)) = false := by simp; omega
  have hs' := Pl.inr_iff.1 hs
  have d1 : decide (s < 0) = false := by simp; omega
  have d2 : decide (1125899906842624 < s) = false := by simp; omega
  obtain ⟨i0, z0, hi0⟩ := held_info
  have HI := Lib.hid hi0
  have hup : Hid (w.heap.size ≠ u) := Lib.hid (fun e => by have := h.blk.lt; omega)
  have tk : ((p.k != 0) = false) ∨ ((p.k != 0) = true ∧ (p.k != 3) = false) := by
    rcases hk with q | q
    · exact .inl (by simp [q])
    · exact .inr ⟨by simp [q], by simp [q]⟩
  unfold twoOff at hf
  clear hc hk hs h hF hno hlim hi0 hB
  rcases tk with t1 | ⟨t1, t2⟩
  all_goals (
    go_enter Try.func20, Try.ntmps20
    go_wp2_with (refine wpList_load_blk rfl 33 _ rfl w.heap.size rfl 33 (pmA p) _ (Blk.new w _ _) Try.underlying33 rfl (by kernel_rfl) ?_)
    refine (CK.out _).mono ?_
    rintro _ w1 ⟨rfl, l1⟩
    have K1 := (one_mk w 33 (pmA p)).on l1
    have R1 := (H0.out.alloc (.cells (pmA p) 33)).on l1
    have K1b := K1.2
    have k0 : w1.cell? ⟨w.heap.size, 0, none⟩ = some (.int .i64 p.k) := K1.2.cell 0
    have k2 : w1.cell? ⟨w.heap.size, 2, none⟩ = some (.int .i64 p.fl) := K1.2.cell 2
    have kz := K1.2.lt
    have R1 := Lib.hid R1
    clear l1
    go_wp2_with (refine wpList_load_blk rfl 33 _ rfl w.heap.size rfl 33 (pmA p) _ K1b Try.underlying33 rfl (by kernel_rfl) ?_)
    refine (FD.out _ R1.out).mono ?_
    rintro _ w2 ⟨rfl, l2⟩
    have K2 := K1.on l2
    have R2 := R1.out.on l2
    clear l2 K1 K1b k0 k2 kz R1
    have k1 : w2.cell? ⟨u, 1, none⟩ = some (.slice a n c) := R2.blk.cell 1
    have k0 : w2.cell? ⟨u, 0, none⟩ = some (.int .i64 lim) := R2.blk.cell 0
    have uz := R2.blk.lt
    have R2 := Lib.hid R2
    go_wp2_with fail
    go_quiet (fail)
    go_wp2_with fail
    have R3 := R2.out.drewN (nq + 1)
    have K3 := K2.2.drewN (nq + 1)
    have F3 := (Fr.of_below (u := u) K2.1 HB.out).drewN (nq + 1)
    clear k0 k1 uz R2 K2
    have hS0 := Lib.hid (blk_rng K3)
    refine wp_region_held_drew (S := fun w' => w'.rangeAt w.heap.size 0 (pmA p).toList) (by kernel_rfl) hS0.out (fun hHeld => ?_)
    clear hS0
    have e4 : (w2.drewN nq).drew = w2.drewN (nq + 1) := rfl
    rw [e4] at hHeld ⊢
    generalize (w2.drewN (nq + 1)) = w4 at hHeld R3 K3 F3 ⊢
    clear e4
    have k1 : w4.cell? ⟨u, 1, none⟩ = some (.slice a n c) := R3.blk.cell 1
    have uz := R3.blk.lt
    have R4 := Lib.hid R3
    have K4 := Lib.hid K3
    have F4 := Lib.hid F3
    have O4 : Hid ((w4.alloc (.cells (hA (p, s)).toArray 80)).ownsRow B 80 22 (.slice a n c) n (hC l)) := Lib.hid (R3.own.alloc _)
    have S4 := Lib.hid hHeld
    have S8 := Lib.hid (blk_rng (K3.alloc (.cells (hA (p, s)).toArray 80)))
    clear R3 K3 F3
    refine wpAnyH_take (i := 0) (oi := _) (v := ?_) rfl (by kernel_rfl) (by kernel_rfl) (by kernel_rfl) (fun _ _ _ h => h) (Or.inl ⟨by rfl, ?_⟩) (by assumption) ?_
    rotate_left
    focus (intro w hSw; (try dsimp only at hSw); go_simp; try with_reducible rfl)
    try simp only [Act.put, List.getElem_toArray, List.getElem_cons_zero, List.getElem_cons_succ, List.setIfInBounds_toArray, List.set_cons_zero, List.set_cons_succ]
    refine wpAnyH_take (i := 1) (oi := _) (v := ?_) rfl (by kernel_rfl) (by kernel_rfl) (by kernel_rfl) (fun _ _ _ h => h) (Or.inl ⟨by rfl, ?_⟩) (by assumption) ?_
    rotate_left
    focus (intro w hSw; (try dsimp only at hSw); go_simp; try with_reducible rfl)
    try simp only [Act.put, List.getElem_toArray, List.getElem_cons_zero, List.getElem_cons_succ, List.setIfInBounds_toArray, List.set_cons_zero, List.set_cons_succ]
    refine wpAnyH_take (i := 2) (oi := _) (v := ?_) rfl (by kernel_rfl) (by kernel_rfl) (by kernel_rfl) (fun _ _ _ h => h) (Or.inl ⟨by rfl, ?_⟩) (by assumption) ?_
    rotate_left
    focus (intro w hSw; (try dsimp only at hSw); go_simp; try with_reducible rfl)
    try simp only [Act.put, List.getElem_toArray, List.getElem_cons_zero, List.getElem_cons_succ, List.setIfInBounds_toArray, List.set_cons_zero, List.set_cons_succ]
    refine wpAnyH_take (i := 3) (oi := _) (v := ?_) rfl (by kernel_rfl) (by kernel_rfl) (by kernel_rfl) (fun _ _ _ h => h) (Or.inl ⟨by rfl, ?_⟩) (by assumption) ?_
    rotate_left
    focus (intro w hSw; (try dsimp only at hSw); go_simp; try with_reducible rfl)
    try simp only [Act.put, List.getElem_toArray, List.getElem_cons_zero, List.getElem_cons_succ, List.setIfInBounds_toArray, List.set_cons_zero, List.set_cons_succ]
    refine wpAnyH_take (i := 5) (oi := _) (v := .agg (pmA p)) rfl (by kernel_rfl) (by kernel_rfl) (by kernel_rfl) (fun _ _ _ h => h) (yieldsIf_load_rng rfl 33 _ rfl w.heap.size 0 rfl (pmA p) _ (fun w' h => h) Try.underlying33 rfl (by kernel_rfl)) (by assumption) ?_
    try simp only [Act.put, List.getElem_toArray, List.getElem_cons_zero, List.getElem_cons_succ, List.setIfInBounds_toArray, List.set_cons_zero, List.set_cons_succ]
    refine wpAnyH_take (i := 6) (oi := _) (v := ?_) rfl (by kernel_rfl) (by kernel_rfl) (by kernel_rfl) (fun _ _ _ h => h) (Or.inl ⟨by rfl, ?_⟩) (by assumption) ?_
    rotate_left
    focus (intro w hSw; (try dsimp only at hSw); go_simp; try with_reducible rfl)
    try simp only [Act.put, List.getElem_toArray, List.getElem_cons_zero, List.getElem_cons_succ, List.setIfInBounds_toArray, List.set_cons_zero, List.set_cons_succ]
    refine wpAnyH_take (i := 7) (oi := _) (v := ?_) rfl (by kernel_rfl) (by kernel_rfl) (by kernel_rfl) (fun _ _ _ h => h) (Or.inl ⟨by rfl, ?_⟩) (by assumption) ?_
    rotate_left
    focus (intro w hSw; (try dsimp only at hSw); go_simp; try with_reducible rfl)
    try simp only [Act.put, List.getElem_toArray, List.getElem_cons_zero, List.getElem_cons_succ, List.setIfInBounds_toArray, List.set_cons_zero, List.set_cons_succ]
    refine wpAnyH_ready (rs := [4, 8]) (by kernel_rfl) (by simp) ?_
    refine AllReadyH.cons rfl (fun K hK => ?_) (AllReadyH.cons rfl (fun K hK => ?_) AllReadyH.nil)
    · go_simp
      refine hK.out _ _ (S4.out) (fun hHeld2 => ?_)
      clear hK K hHeld
      have hHeld := hHeld2
      clear hHeld2
      try simp only [Act.put, List.getElem_toArray, List.getElem_cons_zero, List.getElem_cons_succ, List.setIfInBounds_toArray, List.set_cons_zero, List.set_cons_succ]
      refine wpAnyH_ready (rs := [8]) (by kernel_rfl) (by simp) ?_
      refine AllReadyH.cons rfl (fun K hK => ?_) AllReadyH.nil
      go_simp
      refine hK.out _ _ (S8.out) (fun hHeld2 => ?_)
      clear hK K hHeld
      have hHeld := hHeld2
      clear hHeld2
      try simp only [Act.put, List.getElem_toArray, List.getElem_cons_zero, List.getElem_cons_succ, List.setIfInBounds_toArray, List.set_cons_zero, List.set_cons_succ]
      refine wpAnyH_ready (rs := [9]) (by kernel_rfl) (by simp) ?_
      refine AllReadyH.cons rfl (fun K hK => ?_) AllReadyH.nil
      refine step_append_own rfl _ _ 72 rfl B 80 i0 z0 22 176 Try.underlying72 HI.out.1 HI.out.2.1 HI.out.2.2.1 HI.out.2.2.2.1 HI.out.2.2.2.2 (by decide) (.slice a n c) n (hC l) rfl O4.out _ 1 _ (hA (p, s)) rfl rfl (news_lit w4 _ _) (oneA p s) (by unfold maxLen; omega) (by omega) (Nat.le_trans R4.out.base (only_alloc (only_refl _ none) _).size) ?_
      rintro v' w5 hown5 hgrow5 -
      obtain ⟨g5, c5, rfl⟩ : ∃ g cap, v' = .slice (some ⟨g, 0, none⟩) (n + 1) cap := own_form hown5 (by omega)
      have Y5 := (R4.out.alloc (.cells (hA (p, s)).toArray 80)).blk.grown hgrow5 (fun e => own_ne R4.out.own R4.out.blk (by decide) e)
      have P5 := (K4.out.alloc (.cells (hA (p, s)).toArray 80)).grown hgrow5 (fun e => own_ne R4.out.own K4.out (by decide) e)
      have z1 : w5.cell? ⟨u, 1, none⟩ = some (.slice a n c) := Y5.cell 1
      have zf := Y5.frozen 1
      have zz := Y5.lt
      have S5 := Lib.hid (blk_rng P5)
      have S6 := Lib.hid (blk_rng (P5.far (p := ⟨u, 1, none⟩) hup.out (.slice (some ⟨g5, 0, none⟩) (n + 1) c5)))
      have Y6 := Y5.set_ 1 (.slice (some ⟨g5, 0, none⟩) (n + 1) c5)
      have O6 := hown5.kept (only_setCell (only_refl w5 (some u)) (p := ⟨u, 1, none⟩) (.inl rfl) (.slice (some ⟨g5, 0, none⟩) (n + 1) c5)) (Or.inr (own_ne hown5 Y5 (by decide)).symm)
      have B6 := Nat.le_trans (Nat.le_trans R4.out.base (only_alloc (only_refl w4 none) (.cells (hA (p, s)).toArray 80)).size) hgrow5.size
      have R6 : Hid (Rt (w5.setCell ⟨u, 1, none⟩ (.slice (some ⟨g5, 0, none⟩) (n + 1) c5)) u B lim (some ⟨g5, 0, none⟩) (n + 1) c5 (l ++ [(p, s)])) := Lib.hid ⟨Y6, Nat.le_trans B6 (only_setCell (only_refl w5 (some u)) (p := ⟨u, 1, none⟩) (.inl rfl) (.slice (some ⟨g5, 0, none⟩) (n + 1) c5)).size, by rw [hC_app, hC_one]; exact O6, by rw [List.length_append, R4.out.len]; rfl⟩
      have G6 : Hid (Fr B u w (w5.setCell ⟨u, 1, none⟩ (.slice (some ⟨g5, 0, none⟩) (n + 1) c5))) := Lib.hid (((F4.out.then_own (only_alloc (only_refl w4 none) (.cells (hA (p, s)).toArray 80)) (fun g h => by cases h) (fun k t cs _ _ _ _ e => by cases e)).then_own hgrow5 (fun g h => Or.inl (R4.out.own.lt g h).1) (fun k t cs hb ht _ _ => own_ne O4.out hb ht)).then_own (only_setCell (only_refl w5 (some u)) (p := ⟨u, 1, none⟩) (.inl rfl) (.slice (some ⟨g5, 0, none⟩) (n + 1) c5)) (fun g h => Or.inr (by injection h with h; exact h.symm)) (fun k t cs _ _ _ hu e => hu (by injection e)))
      clear P5 Y5 Y6 O6 B6 hown5 hgrow5
      refine hK.out _ _ (S5.out) (fun hHeld2 => ?_)
      clear hK K hHeld
      have hHeld := hHeld2
      clear hHeld2
      try simp only [Act.put, List.getElem_toArray, List.getElem_cons_zero, List.getElem_cons_succ, List.setIfInBounds_toArray, List.set_cons_zero, List.set_cons_succ]
      refine wpAnyH_take (i := 10) (oi := _) (v := ?_) rfl (by kernel_rfl) (by kernel_rfl) (by kernel_rfl) (fun _ _ _ h => h) (Or.inl ⟨by rfl, ?_⟩) (by assumption) ?_
      rotate_left
      focus (intro w hSw; (try dsimp only at hSw); go_simp; try with_reducible rfl)
      try simp only [Act.put, List.getElem_toArray, List.getElem_cons_zero, List.getElem_cons_succ, List.setIfInBounds_toArray, List.set_cons_zero, List.set_cons_succ]
      refine wpAnyH_take (i := 11) (oi := _) (v := ?_) rfl (by kernel_rfl) (by kernel_rfl) (by kernel_rfl) (fun _ _ _ h => h) (Or.inl ⟨by rfl, ?_⟩) (by assumption) ?_
      rotate_left
      focus (intro w hSw; (try dsimp only at hSw); go_simp; try with_reducible rfl)
      try simp only [Act.put, List.getElem_toArray, List.getElem_cons_zero, List.getElem_cons_succ, List.setIfInBounds_toArray, List.set_cons_zero, List.set_cons_succ]
      refine wpAnyH_ready (rs := [12]) (by kernel_rfl) (by simp) ?_
      refine AllReadyH.cons rfl (fun K hK => ?_) AllReadyH.nil
      go_simp
      refine hK.out _ _ (S6.out) (fun hHeld2 => ?_)
      clear hK K hHeld
      have hHeld := hHeld2
      clear hHeld2
      try simp only [Act.put, List.getElem_toArray, List.getElem_cons_zero, List.getElem_cons_succ, List.setIfInBounds_toArray, List.set_cons_zero, List.set_cons_succ]
      refine wpAnyH_done (by kernel_rfl) ?_ _
      clear S4 S5 S6 hHeld z1 zf zz
      go_wp2_with fail
      go_ret
      exact ⟨rfl, G6.out, _, _, _, R6.out⟩
    · go_simp
      refine hK.out _ _ (S8.out) (fun hHeld2 => ?_)
      clear hK K hHeld
      have hHeld := hHeld2
      clear hHeld2
      try simp only [Act.put, List.getElem_toArray, List.getElem_cons_zero, List.getElem_cons_succ, List.setIfInBounds_toArray, List.set_cons_zero, List.set_cons_succ]
      refine wpAnyH_ready (rs := [4]) (by kernel_rfl) (by simp) ?_
      refine AllReadyH.cons rfl (fun K hK => ?_) AllReadyH.nil
      go_simp
      refine hK.out _ _ (S8.out) (fun hHeld2 => ?_)
      clear hK K hHeld
      have hHeld := hHeld2
      clear hHeld2
      try simp only [Act.put, List.getElem_toArray, List.getElem_cons_zero, List.getElem_cons_succ, List.setIfInBounds_toArray, List.set_cons_zero, List.set_cons_succ]
      refine wpAnyH_ready (rs := [9]) (by kernel_rfl) (by simp) ?_
      refine AllReadyH.cons rfl (fun K hK => ?_) AllReadyH.nil
      refine step_append_own rfl _ _ 72 rfl B 80 i0 z0 22 176 Try.underlying72 HI.out.1 HI.out.2.1 HI.out.2.2.1 HI.out.2.2.2.1 HI.out.2.2.2.2 (by decide) (.slice a n c) n (hC l) rfl O4.out _ 1 _ (hA (p, s)) rfl rfl (news_lit w4 _ _) (oneA p s) (by unfold maxLen; omega) (by omega) (Nat.le_trans R4.out.base (only_alloc (only_refl _ none) _).size) ?_
      rintro v' w5 hown5 hgrow5 -
      obtain ⟨g5, c5, rfl⟩ : ∃ g cap, v' = .slice (some ⟨g, 0, none⟩) (n + 1) cap := own_form hown5 (by omega)
      have Y5 := (R4.out.alloc (.cells (hA (p, s)).toArray 80)).blk.grown hgrow5 (fun e => own_ne R4.out.own R4.out.blk (by decide) e)
      have P5 := (K4.out.alloc (.cells (hA (p, s)).toArray 80)).grown hgrow5 (fun e => own_ne R4.out.own K4.out (by decide) e)
      have z1 : w5.cell? ⟨u, 1, none⟩ = some (.slice a n c) := Y5.cell 1
      have zf := Y5.frozen 1
      have zz := Y5.lt
      have S5 := Lib.hid (blk_rng P5)
      have S6 := Lib.hid (blk_rng (P5.far (p := ⟨u, 1, none⟩) hup.out (.slice (some ⟨g5, 0, none⟩) (n + 1) c5)))
      have Y6 := Y5.set_ 1 (.slice (some ⟨g5, 0, none⟩) (n + 1) c5)
      have O6 := hown5.kept (only_setCell (only_refl w5 (some u)) (p := ⟨u, 1, none⟩) (.inl rfl) (.slice (some ⟨g5, 0, none⟩) (n + 1) c5)) (Or.inr (own_ne hown5 Y5 (by decide)).symm)
      have B6 := Nat.le_trans (Nat.le_trans R4.out.base (only_alloc (only_refl w4 none) (.cells (hA (p, s)).toArray 80)).size) hgrow5.size
      have R6 : Hid (Rt (w5.setCell ⟨u, 1, none⟩ (.slice (some ⟨g5, 0, none⟩) (n + 1) c5)) u B lim (some ⟨g5, 0, none⟩) (n + 1) c5 (l ++ [(p, s)])) := Lib.hid ⟨Y6, Nat.le_trans B6 (only_setCell (only_refl w5 (some u)) (p := ⟨u, 1, none⟩) (.inl rfl) (.slice (some ⟨g5, 0, none⟩) (n + 1) c5)).size, by rw [hC_app, hC_one]; exact O6, by rw [List.length_append, R4.out.len]; rfl⟩
      have G6 : Hid (Fr B u w (w5.setCell ⟨u, 1, none⟩ (.slice (some ⟨g5, 0, none⟩) (n + 1) c5))) := Lib.hid (((F4.out.then_own (only_alloc (only_refl w4 none) (.cells (hA (p, s)).toArray 80)) (fun g h => by cases h) (fun k t cs _ _ _ _ e => by cases e)).then_own hgrow5 (fun g h => Or.inl (R4.out.own.lt g h).1) (fun k t cs hb ht _ _ => own_ne O4.out hb ht)).then_own (only_setCell (only_refl w5 (some u)) (p := ⟨u, 1, none⟩) (.inl rfl) (.slice (some ⟨g5, 0, none⟩) (n + 1) c5)) (fun g h => Or.inr (by injection h with h; exact h.symm)) (fun k t cs _ _ _ hu e => hu (by injection e)))
      clear P5 Y5 Y6 O6 B6 hown5 hgrow5
      refine hK.out _ _ (S5.out) (fun hHeld2 => ?_)
      clear hK K hHeld
      have hHeld := hHeld2
      clear hHeld2
      try simp only [Act.put, List.getElem_toArray, List.getElem_cons_zero, List.getElem_cons_succ, List.setIfInBounds_toArray, List.set_cons_zero, List.set_cons_succ]
      refine wpAnyH_take (i := 10) (oi := _) (v := ?_) rfl (by kernel_rfl) (by kernel_rfl) (by kernel_rfl) (fun _ _ _ h => h) (Or.inl ⟨by rfl, ?_⟩) (by assumption) ?_
      rotate_left
      focus (intro w hSw; (try dsimp only at hSw); go_simp; try with_reducible rfl)
      try simp only [Act.put, List.getElem_toArray, List.getElem_cons_zero, List.getElem_cons_succ, List.setIfInBounds_toArray, List.set_cons_zero, List.set_cons_succ]
      refine wpAnyH_take (i := 11) (oi := _) (v := ?_) rfl (by kernel_rfl) (by kernel_rfl) (by kernel_rfl) (fun _ _ _ h => h) (Or.inl ⟨by rfl, ?_⟩) (by assumption) ?_
      rotate_left
      focus (intro w hSw; (try dsimp only at hSw); go_simp; try with_reducible rfl)
      try simp only [Act.put, List.getElem_toArray, List.getElem_cons_zero, List.getElem_cons_succ, List.setIfInBounds_toArray, List.set_cons_zero, List.set_cons_succ]
      refine wpAnyH_ready (rs := [12]) (by kernel_rfl) (by simp) ?_
      refine AllReadyH.cons rfl (fun K hK => ?_) AllReadyH.nil
      go_simp
      refine hK.out _ _ (S6.out) (fun hHeld2 => ?_)
      clear hK K hHeld
      have hHeld := hHeld2
      clear hHeld2
      try simp only [Act.put, List.getElem_toArray, List.getElem_cons_zero, List.getElem_cons_succ, List.setIfInBounds_toArray, List.set_cons_zero, List.set_cons_succ]
      refine wpAnyH_done (by kernel_rfl) ?_ _
      clear S4 S5 S6 hHeld z1 zf zz
      go_wp2_with fail
      go_ret
      exact ⟨rfl, G6.out, _, _, _, R6.out⟩)
set_option maxHeartbeats 4000000 in
set_option maxRecDepth 100000 in
theorem uhold_any (u B : Nat) (lim : Int) (a : Option Addr) (n c : Nat) (l : RL) (p : Pl.PM) (s : Int) (w : World) (h : Rt w u B lim a n c l) (hB : B ≤ w.heap.size) (hn : n ≤ 64) :
    Calls Try.prog 20 #[.pointer (some ⟨u, 0, none⟩), pmV p, .int .i64 s] w fun e w' => e = .returned (.int .i64 (uholdE l lim p s)) ∧ Fr B u w w' ∧ ∃ (a' : Option Addr) (n' c' : Nat), Rt w' u B lim a' n' c' (uholdL l lim p s) := by
  have hv : ∀ E, uholdE l lim p s = E → E ≠ 0 → uholdL l lim p s = l := fun E h h0 => by unfold uholdL; rw [h, if_neg h0]
  have CK := fun W => rpmcheck_any p W
  have H0 := Lib.hid h
  have HB := Lib.hid hB
  by_cases hc : Pl.chk p = 0
  · by_cases hk : p.k = 0 ∨ p.k = 3
    · cases hf : twoOff p with
      | true =>
        have e1 : uholdE l lim p s = 15 := by unfold uholdE; rw [if_pos hc, if_pos hk, hf]; rfl
        rw [hv 15 e1 (by omega), e1]
        rw [hc] at CK
        replace CK := Lib.hid CK
        unfold twoOff at hf
        have tk : ((p.k != 0) = false) ∨ ((p.k != 0) = true ∧ (p.k != 3) = false) := by
          rcases hk with q | q
          · exact .inl (by simp [q])
          · exact .inr ⟨by simp [q], by simp [q]⟩
        clear hv e1 hc hk h hB hn
        rcases tk with t1 | ⟨t1, t2⟩
        all_goals (
          go_enter Try.func20, Try.ntmps20
          go_wp2_with (refine wpList_load_blk rfl 33 _ rfl w.heap.size rfl 33 (pmA p) _ (Blk.new w _ _) Try.underlying33 rfl (by kernel_rfl) ?_)
          refine (CK.out _).mono ?_
          rintro _ w1 ⟨rfl, l1⟩
          have K1 := (one_mk w 33 (pmA p)).on l1
          have R1 := (H0.out.alloc (.cells (pmA p) 33)).on l1
          have K1b := K1.2
          have k0 : w1.cell? ⟨w.heap.size, 0, none⟩ = some (.int .i64 p.k) := K1.2.cell 0
          have k2 : w1.cell? ⟨w.heap.size, 2, none⟩ = some (.int .i64 p.fl) := K1.2.cell 2
          have kz := K1.2.lt
          have R1 := Lib.hid R1
          clear l1
          go_wp2_with fail
          go_ret
          exact ⟨rfl, Fr.of_below K1.1 HB.out, a, n, c, R1.out⟩)
      | false =>
        cases hs : Pl.inr s 0 1125899906842624 with
        | false =>
          have e1 : uholdE l lim p s = 3 := by unfold uholdE; rw [if_pos hc, if_pos hk, hf, hs]; rfl
          rw [hv 3 e1 (by omega), e1]
          rw [hc] at CK
          replace CK := Lib.hid CK
          unfold twoOff at hf
          have tk : ((p.k != 0) = false) ∨ ((p.k != 0) = true ∧ (p.k != 3) = false) := by
            rcases hk with q | q
            · exact .inl (by simp [q])
            · exact .inr ⟨by simp [q], by simp [q]⟩
          have ts : decide (s < 0) = true ∨ (decide (s < 0) = false ∧ decide (1125899906842624 < s) = true) := by
            have := Pl.inr_no.1 hs
            simp
            omega
          clear hv e1 hc hk h hB hn hs
          rcases tk with t1 | ⟨t1, t2⟩
          all_goals (
            rcases ts with s1 | ⟨s1, s2⟩
            all_goals (
              go_enter Try.func20, Try.ntmps20
              go_wp2_with (refine wpList_load_blk rfl 33 _ rfl w.heap.size rfl 33 (pmA p) _ (Blk.new w _ _) Try.underlying33 rfl (by kernel_rfl) ?_)
              refine (CK.out _).mono ?_
              rintro _ w1 ⟨rfl, l1⟩
              have K1 := (one_mk w 33 (pmA p)).on l1
              have R1 := (H0.out.alloc (.cells (pmA p) 33)).on l1
              have K1b := K1.2
              have k0 : w1.cell? ⟨w.heap.size, 0, none⟩ = some (.int .i64 p.k) := K1.2.cell 0
              have k2 : w1.cell? ⟨w.heap.size, 2, none⟩ = some (.int .i64 p.fl) := K1.2.cell 2
              have kz := K1.2.lt
              have R1 := Lib.hid R1
              clear l1
              go_wp2_with fail
              go_ret
              exact ⟨rfl, Fr.of_below K1.1 HB.out, a, n, c, R1.out⟩))
        | true =>
          have hE : uholdE l lim p s = if 0 ≤ fndA l (nmOf p.k p) 0 then 10 else if lim ≤ l.length then 13 else 0 := by
            unfold uholdE
            rw [if_pos hc, if_pos hk, hf, if_neg (by simp), if_pos hs]
          by_cases hno : 0 ≤ fndA l (nmOf p.k p) 0
          · rw [if_pos hno] at hE
            rw [hv 10 hE (by omega), hE]
            rw [hc] at CK
            replace CK := Lib.hid CK
            have FD := Lib.hid (fun W (q : Rt W u B lim a n c l) => ufind_any u B lim a n c l p.k p W q hn)
            obtain ⟨F, hF⟩ : ∃ F, fndA l (nmOf p.k p) 0 = F := ⟨_, rfl⟩
            rw [hF] at FD hno
            have t6 : decide (0 ≤ F) = true := by simp [hno]
            have hs' := Pl.inr_iff.1 hs
            have d1 : decide (s < 0) = false := by simp; omega
            have d2 : decide (1125899906842624 < s) = false := by simp; omega
            have tk : ((p.k != 0) = false) ∨ ((p.k != 0) = true ∧ (p.k != 3) = false) := by
              rcases hk with q | q
              · exact .inl (by simp [q])
              · exact .inr ⟨by simp [q], by simp [q]⟩
            unfold twoOff at hf
            clear hv hc hk hs h hF hno hB hE
            rcases tk with t1 | ⟨t1, t2⟩
            all_goals (
              go_enter Try.func20, Try.ntmps20
              go_wp2_with (refine wpList_load_blk rfl 33 _ rfl w.heap.size rfl 33 (pmA p) _ (Blk.new w _ _) Try.underlying33 rfl (by kernel_rfl) ?_)
              refine (CK.out _).mono ?_
              rintro _ w1 ⟨rfl, l1⟩
              have K1 := (one_mk w 33 (pmA p)).on l1
              have R1 := (H0.out.alloc (.cells (pmA p) 33)).on l1
              have K1b := K1.2
              have k0 : w1.cell? ⟨w.heap.size, 0, none⟩ = some (.int .i64 p.k) := K1.2.cell 0
              have k2 : w1.cell? ⟨w.heap.size, 2, none⟩ = some (.int .i64 p.fl) := K1.2.cell 2
              have kz := K1.2.lt
              have R1 := Lib.hid R1
              clear l1
              go_wp2_with (refine wpList_load_blk rfl 33 _ rfl w.heap.size rfl 33 (pmA p) _ K1b Try.underlying33 rfl (by kernel_rfl) ?_)
              refine (FD.out _ R1.out).mono ?_
              rintro _ w2 ⟨rfl, l2⟩
              have K2 := K1.on l2
              have R2 := R1.out.on l2
              clear l2 K1 K1b k0 k2 kz R1
              go_wp2_with fail
              go_ret
              exact ⟨rfl, Fr.of_below K2.1 HB.out, a, n, c, R2⟩)
          · rw [if_neg hno] at hE
            by_cases hfull : lim ≤ (l.length : Int)
            · rw [if_pos hfull] at hE
              rw [hv 13 hE (by omega), hE]
              rw [hc] at CK
              replace CK := Lib.hid CK
              have FD := Lib.hid (fun W (q : Rt W u B lim a n c l) => ufind_any u B lim a n c l p.k p W q hn)
              obtain ⟨F, hF⟩ : ∃ F, fndA l (nmOf p.k p) 0 = F := ⟨_, rfl⟩
              rw [hF] at FD hno
              have t6 : decide (0 ≤ F) = false := by simp; omega
              have t7 : decide (lim ≤ (n : Int)) = true := by simp; have := h.len; omega
              have hs' := Pl.inr_iff.1 hs
              have d1 : decide (s < 0) = false := by simp; omega
              have d2 : decide (1125899906842624 < s) = false := by simp; omega
              have tk : ((p.k != 0) = false) ∨ ((p.k != 0) = true ∧ (p.k != 3) = false) := by
                rcases hk with q | q
                · exact .inl (by simp [q])
                · exact .inr ⟨by simp [q], by simp [q]⟩
              unfold twoOff at hf
              clear hv hc hk hs h hF hno hB hE hfull
              rcases tk with t1 | ⟨t1, t2⟩
              all_goals (
                go_enter Try.func20, Try.ntmps20
                go_wp2_with (refine wpList_load_blk rfl 33 _ rfl w.heap.size rfl 33 (pmA p) _ (Blk.new w _ _) Try.underlying33 rfl (by kernel_rfl) ?_)
                refine (CK.out _).mono ?_
                rintro _ w1 ⟨rfl, l1⟩
                have K1 := (one_mk w 33 (pmA p)).on l1
                have R1 := (H0.out.alloc (.cells (pmA p) 33)).on l1
                have K1b := K1.2
                have k0 : w1.cell? ⟨w.heap.size, 0, none⟩ = some (.int .i64 p.k) := K1.2.cell 0
                have k2 : w1.cell? ⟨w.heap.size, 2, none⟩ = some (.int .i64 p.fl) := K1.2.cell 2
                have kz := K1.2.lt
                have R1 := Lib.hid R1
                clear l1
                go_wp2_with (refine wpList_load_blk rfl 33 _ rfl w.heap.size rfl 33 (pmA p) _ K1b Try.underlying33 rfl (by kernel_rfl) ?_)
                refine (FD.out _ R1.out).mono ?_
                rintro _ w2 ⟨rfl, l2⟩
                have K2 := K1.on l2
                have R2 := R1.out.on l2
                clear l2 K1 K1b k0 k2 kz R1
                have k1 : w2.cell? ⟨u, 1, none⟩ = some (.slice a n c) := R2.blk.cell 1
                have k0 : w2.cell? ⟨u, 0, none⟩ = some (.int .i64 lim) := R2.blk.cell 0
                have uz := R2.blk.lt
                have R2 := Lib.hid R2
                go_wp2_with fail
                go_quiet (fail)
                go_wp2_with fail
                go_ret
                exact ⟨rfl, (Fr.of_below K2.1 HB.out).drewN _, a, n, c, R2.out.drewN _⟩)
            · rw [if_neg hfull] at hE
              have hL : uholdL l lim p s = l ++ [(p, s)] := by unfold uholdL; rw [hE, if_pos rfl]
              rw [hE, hL]
              exact uhold_put u B lim a n c l p s w h hB hn hc hk hf hs (by omega) (by have := h.len; omega)
    · have e1 : uholdE l lim p s = 8 := by unfold uholdE; rw [if_pos hc, if_neg hk]
      rw [hv 8 e1 (by omega), e1]
      rw [hc] at CK
      replace CK := Lib.hid CK
      have t1 : (p.k != 0) = true := by simp; omega
      have t2 : (p.k != 3) = true := by simp; omega
      clear hv e1 hc hk h hB hn
      go_enter Try.func20, Try.ntmps20
      go_wp2_with (refine wpList_load_blk rfl 33 _ rfl w.heap.size rfl 33 (pmA p) _ (Blk.new w _ _) Try.underlying33 rfl (by kernel_rfl) ?_)
      refine (CK.out _).mono ?_
      rintro _ w1 ⟨rfl, l1⟩
      have K1 := (one_mk w 33 (pmA p)).on l1
      have R1 := (H0.out.alloc (.cells (pmA p) 33)).on l1
      have K1b := K1.2
      have k0 : w1.cell? ⟨w.heap.size, 0, none⟩ = some (.int .i64 p.k) := K1.2.cell 0
      have k2 : w1.cell? ⟨w.heap.size, 2, none⟩ = some (.int .i64 p.fl) := K1.2.cell 2
      have kz := K1.2.lt
      have R1 := Lib.hid R1
      clear l1
      go_wp2_with fail
      go_ret
      exact ⟨rfl, Fr.of_below K1.1 HB.out, a, n, c, R1.out⟩
  · have e1 : uholdE l lim p s = 2 := by unfold uholdE; rw [if_neg hc]
    rw [hv 2 e1 (by omega), e1]
    obtain ⟨C, hC⟩ : ∃ C, Pl.chk p = C := ⟨_, rfl⟩
    rw [hC] at CK hc
    have t0 : (C == 0) = false := by simp [hc]
    have t0' : (C != 0) = true := by simp [hc]
    replace CK := Lib.hid CK
    clear hv e1 hC hc h hB hn
    go_enter Try.func20, Try.ntmps20
    go_wp2_with (refine wpList_load_blk rfl 33 _ rfl w.heap.size rfl 33 (pmA p) _ (Blk.new w _ _) Try.underlying33 rfl (by kernel_rfl) ?_)
    refine (CK.out _).mono ?_
    rintro _ w1 ⟨rfl, l1⟩
    have K1 := (one_mk w 33 (pmA p)).on l1
    have R1 := (H0.out.alloc (.cells (pmA p) 33)).on l1
    have K1b := K1.2
    have k0 : w1.cell? ⟨w.heap.size, 0, none⟩ = some (.int .i64 p.k) := K1.2.cell 0
    have k2 : w1.cell? ⟨w.heap.size, 2, none⟩ = some (.int .i64 p.fl) := K1.2.cell 2
    have kz := K1.2.lt
    have R1 := Lib.hid R1
    clear l1
    go_wp2_with fail
    go_ret
    exact ⟨rfl, Fr.of_below K1.1 HB.out, a, n, c, R1.out⟩
end Go.Proofs.Ytnlfkafebbfenaa
