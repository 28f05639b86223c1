/- The reference's table of layer 40 against the list of names and stays. -/
import Derived.Test.YtnlfkafebbfenaaResPl4
namespace Go.Proofs.Ytnlfkafebbfenaa
open Go.RowKit Go.Lib Go.Maps
def tlOf (l : RL) : TL := l.map (fun q => (nmQ q, q.2))
theorem tlOf_app (l m : RL) : tlOf (l ++ m) = tlOf l ++ tlOf m := by simp [tlOf]
theorem tlOf_len (l : RL) : (tlOf l).length = l.length := by simp [tlOf]
theorem hasN_no {l : RL} {nm : Nm} (h : ∀ x ∈ l, nmQ x ≠ nm) : TL.hasN (tlOf l) nm = false := by
  unfold TL.hasN tlOf
  rw [List.any_eq_false]
  intro y hy
  obtain ⟨x, hx, rfl⟩ := List.mem_map.1 hy
  have := h x hx
  simpa using this
theorem filt_no {l : RL} {nm : Nm} (h : ∀ x ∈ l, nmQ x ≠ nm) : (tlOf l).filter (fun q => !(q.1 == nm)) = tlOf l := by
  rw [List.filter_eq_self]
  intro y hy
  obtain ⟨x, hx, rfl⟩ := List.mem_map.1 hy
  have := h x hx
  simpa using this
theorem fndA_cases (nm : Nm) : ∀ (l : RL) (i0 : Nat), (fndA l nm i0 = -1 ∧ ∀ x ∈ l, nmQ x ≠ nm) ∨ ∃ (l1 : RL) (q : Pl.PM) (s : Int) (l2 : RL), l = l1 ++ (q, s) :: l2 ∧ nmQ (q, s) = nm ∧ fndA l nm i0 = (i0 : Int) + l1.length ∧ ∀ x ∈ l1, nmQ x ≠ nm
  | [], i0 => .inl ⟨rfl, by simp⟩
  | (q, s) :: r, i0 => by
    by_cases h : nmQ (q, s) = nm
    · refine .inr ⟨[], q, s, r, rfl, h, ?_, by simp⟩
      unfold fndA
      rw [if_pos (by simp [h])]
      simp
    · have e : fndA ((q, s) :: r) nm i0 = fndA r nm (i0 + 1) := by
        rw [fndA, if_neg (by simp [h])]
      rcases fndA_cases nm r (i0 + 1) with ⟨h1, h2⟩ | ⟨l1, q', s', l2, h1, h2, h3, h4⟩
      · refine .inl ⟨e.trans h1, ?_⟩
        intro x hx
        rcases List.mem_cons.1 hx with rfl | hx
        · exact h
        · exact h2 x hx
      · refine .inr ⟨(q, s) :: l1, q', s', l2, by rw [h1]; rfl, h2, ?_, ?_⟩
        · rw [e, h3, List.length_cons]
          omega
        · intro x hx
          rcases List.mem_cons.1 hx with rfl | hx
          · exact h
          · exact h4 x hx
theorem stay_found {l1 l2 : RL} {q : Pl.PM} {s : Int} {nm : Nm} (hq : nmQ (q, s) = nm) (h : ∀ x ∈ l1, nmQ x ≠ nm) : TL.hasN (tlOf (l1 ++ (q, s) :: l2)) nm = true ∧ TL.stay (tlOf (l1 ++ (q, s) :: l2)) nm = s := by
  have e : tlOf (l1 ++ (q, s) :: l2) = tlOf l1 ++ (nm, s) :: tlOf l2 := by rw [tlOf_app, ← hq]; rfl
  have hn : (tlOf l1).find? (fun q => q.1 == nm) = none := by
    rw [List.find?_eq_none]
    intro y hy
    obtain ⟨x, hx, rfl⟩ := List.mem_map.1 hy
    have := h x hx
    simpa using this
  rw [e]
  constructor
  · unfold TL.hasN
    simp
  · unfold TL.stay
    rw [List.find?_append, hn]
    simp
theorem filt_found {l1 l2 : RL} {q : Pl.PM} {s : Int} {nm : Nm} (hq : nmQ (q, s) = nm) (h : ∀ x ∈ l1, nmQ x ≠ nm) (hd : ((tlOf (l1 ++ (q, s) :: l2)).map Prod.fst).Nodup) : (tlOf (l1 ++ (q, s) :: l2)).filter (fun q => !(q.1 == nm)) = tlOf (l1 ++ l2) := by
  have e : tlOf (l1 ++ (q, s) :: l2) = tlOf l1 ++ (nm, s) :: tlOf l2 := by rw [tlOf_app, ← hq]; rfl
  rw [e] at hd ⊢
  rw [List.map_append, List.map_cons] at hd
  have hd2 := (List.nodup_cons.1 (List.nodup_append.1 hd).2.1).1
  have h2 : ∀ x ∈ l2, nmQ x ≠ nm := fun x hx e => hd2 (List.mem_map.2 ⟨(nmQ x, x.2), List.mem_map.2 ⟨x, hx, rfl⟩, e⟩)
  rw [List.filter_append, filt_no h, List.filter_cons, if_neg (by simp), filt_no h2, tlOf_app]
theorem uhold_tl (u B : Nat) (lim : Int) (a : Option Addr) (n c : Nat) (l : RL) (p : Pl.PM) (s : Int) (w : World) (h : Rt w u B lim a n c l) (hB : B ≤ w.heap.size) (hn : n ≤ 64) :
    Calls Try.prog 20 #[.pointer (some ⟨u, 0, none⟩), pmV p, .int .i64 s] w fun e w' => e = .returned (.int .i64 (holdE (tlOf l) lim p s)) ∧ Fr B u w w' ∧ ∃ (l' : RL) (a' : Option Addr) (n' c' : Nat), Rt w' u B lim a' n' c' l' ∧ tlOf l' = holdL (tlOf l) lim p s := by
  have e : uholdE l lim p s = holdE (tlOf l) lim p s := by
    unfold uholdE holdE
    rw [tlOf_len]
    rcases fndA_cases (nmOf p.k p) l 0 with ⟨h1, h2⟩ | ⟨l1, q', s', l2, h1, h2, h3, h4⟩
    · rw [h1, hasN_no h2]
      rfl
    · have hs := (stay_found (l2 := l2) h2 h4).1
      rw [← h1] at hs
      rw [h3, hs, if_pos (c := (0 : Int) ≤ ((0 : Nat) : Int) + (l1.length : Int)) (by omega)]
      rfl
  have e2 : tlOf (uholdL l lim p s) = holdL (tlOf l) lim p s := by
    unfold uholdL holdL
    rw [e]
    by_cases c : holdE (tlOf l) lim p s = 0
    · rw [if_pos c, if_pos c, tlOf_app]
      rfl
    · rw [if_neg c, if_neg c]
  refine (uhold_any u B lim a n c l p s w h hB hn).mono ?_
  rintro _ w' ⟨rfl, f, a', n', c', r⟩
  exact ⟨by rw [e], f, _, a', n', c', r, e2⟩
set_option maxRecDepth 100000 in
theorem urel_nil (p : Pl.PM) (w : World) : Calls Try.prog 22 #[.pointer none, pmV p] w fun e w' => e = .returned (.tuple #[pmV Pl.pm0, .int .i64 1]) ∧ Below w.heap.size w w' := by
  have K1 := Rz.mk w p
  go_enter Try.func22, Try.ntmps22
  go_wp2_with (refine wpList_store_blk rfl 33 _ _ rfl (w.heap.size + 1) zA rfl rfl 33 zA K1.2.2 (by kernel_rfl) rfl (by kernel_rfl) ?_; intro W6 HW6 HG6)
  exact bodyPost_ret (v := .tuple #[.agg zA, .int .i64 1]) (results_cell_tmp rfl _ _ (w.heap.size + 1) 33 zA _ _ rfl rfl HW6 Try.underlying33 rfl info_pm) rfl ⟨rfl, (K1.out HW6 HG6).1⟩
set_option maxHeartbeats 4000000 in
set_option maxRecDepth 100000 in
theorem urel_any (u B : Nat) (lim : Int) (a : Option Addr) (n c : Nat) (l : RL) (p : Pl.PM) (w : World) (h : Rt w u B lim a n c l) (hB : B ≤ w.heap.size) (hn : n ≤ 64) (hw : PmWf p) (hs : ∀ q ∈ tlOf l, (Lit.int .i64 q.2).wf = true) (hd : ((tlOf l).map Prod.fst).Nodup) :
    Calls Try.prog 22 #[.pointer (some ⟨u, 0, none⟩), pmV p] w fun e w' => e = .returned (.tuple #[pmV (relP (tlOf l) p), .int .i64 (relE (tlOf l) p)]) ∧ Fr B u w w' ∧ ∃ (l' : RL) (a' : Option Addr) (n' c' : Nat), Rt w' u B lim a' n' c' l' ∧ tlOf l' = relL (tlOf l) p := by
  have hv : ∀ E, relE (tlOf l) p = E → E ≠ 0 → relP (tlOf l) p = Pl.pm0 ∧ relL (tlOf l) p = tlOf l := fun E h h0 => by unfold relP relL; rw [h, if_neg h0, if_neg h0]; exact ⟨rfl, rfl⟩
  have CK := fun W => rpmcheck_any p W
  have HB := Lib.hid hB
  have H0 := Lib.hid h
  by_cases hc : Pl.chk p = 0
  · by_cases hk : p.k = 8 ∨ p.k = 10
    · obtain ⟨K, hK⟩ : ∃ K, knd p = K := ⟨_, rfl⟩
      have hk2 : (p.k = 8 ∧ K = 0) ∨ (p.k = 10 ∧ K = 3) := by
        unfold knd at hK
        rcases hk with q | q
        · rw [if_pos q] at hK; exact .inl ⟨q, hK.symm⟩
        · rw [if_neg (by omega)] at hK; exact .inr ⟨q, hK.symm⟩
      have hE : relE (tlOf l) p = if TL.hasN (tlOf l) (nmOf K p) = true then (if Pl.corOk p (TL.stay (tlOf l) (nmOf K p)) = true then 0 else 4) else 11 := by
        unfold relE
        rw [if_pos hc, if_pos hk, hK]
      rcases fndA_cases (nmOf K p) l 0 with ⟨h1, h2⟩ | ⟨l1, q, s, l2, h1, h2, h3, h4⟩
      · have hno := hasN_no h2
        rw [hno, if_neg (by simp)] at hE
        obtain ⟨v1, v2⟩ := hv 11 hE (by omega)
        rw [v1, v2, hE]
        rw [hc] at CK
        replace CK := Lib.hid CK
        have FD := Lib.hid (fun W (q : Rt W u B lim a n c l) => ufind_any u B lim a n c l K p W q hn)
        rw [h1] at FD
        have tk : ((p.k == 10) = false ∧ (p.k != 8) = false ∧ K = 0) ∨ ((p.k == 10) = true ∧ K = 3) := by
          rcases hk2 with ⟨q1, q2⟩ | ⟨q1, q2⟩
          · exact .inl ⟨by simp [q1], by simp [q1], q2⟩
          · exact .inr ⟨by simp [q1], q2⟩
        clear hv hE v1 v2 hc hk hk2 hK h1 h2 hno h hB hn hs hd hw
        rcases tk with ⟨t1, t2, rfl⟩ | ⟨t1, rfl⟩
        all_goals (
          go_enter Try.func22, Try.ntmps22
          go_wp2_with (refine wpList_load_blk rfl 33 _ rfl w.heap.size rfl 33 (pmA p) _ (Rz.mk w p).2.1 Try.underlying33 rfl (by kernel_rfl) ?_)
          refine (CK.out _).mono ?_
          rintro _ w1 ⟨rfl, l1⟩
          have K1 := (Rz.mk w p).on l1
          have K1a := K1.2.1
          have R1 := ((H0.out.alloc (.cells (pmA p) 33)).alloc (.cells zA 33)).on l1
          have k0 : w1.cell? ⟨w.heap.size, 0, none⟩ = some (.int .i64 p.k) := K1.2.1.cell 0
          have kz := K1.2.1.lt
          have R1 := Lib.hid R1
          clear l1
          go_wp2_with (refine wpList_load_blk rfl 33 _ rfl w.heap.size rfl 33 (pmA p) _ K1a Try.underlying33 rfl (by kernel_rfl) ?_)
          refine (FD.out _ R1.out).mono ?_
          rintro _ w2 ⟨rfl, l2⟩
          have Z2 := Lib.hid (K1.on l2)
          have R2 := Lib.hid (R1.out.on l2)
          clear l2 K1 K1a k0 kz R1
          go_wp2_with (first | (refine wpList_load_blk rfl 33 _ rfl w.heap.size rfl 33 (pmA p) _ Z2.out.2.1 Try.underlying33 rfl (by kernel_rfl) ?_) | (refine wpList_store_blk rfl 33 _ _ rfl (w.heap.size + 1) zA rfl rfl 33 zA Z2.out.2.2 (by kernel_rfl) rfl (by kernel_rfl) ?_; intro W6 HW6 HG6))
          have R6 : Rt W6 u B lim a n c l := R2.out.grown HG6 (fun e => by subst e; exact absurd (R2.out.blk.ne_ Z2.out.2.2 (by decide)) (by simp)) (own_ne R2.out.own Z2.out.2.2 (by decide))
          exact bodyPost_ret (v := .tuple #[.agg zA, .int .i64 11]) (results_cell_tmp rfl _ _ (w.heap.size + 1) 33 zA _ _ rfl rfl HW6 Try.underlying33 rfl info_pm) rfl ⟨rfl, Fr.of_below (Z2.out.out HW6 HG6).1 HB.out, l, _, _, _, R6, rfl⟩)
      · obtain ⟨hs1, hs2⟩ := stay_found (l2 := l2) h2 h4
        have hlen := h.len
        have hi : l[l1.length]? = some (q, s) := by rw [h1]; simp
        have hsw : (Lit.int .i64 s).wf = true := by
          refine hs (nmQ (q, s), s) ?_
          rw [h1, tlOf_app]
          exact List.mem_append_right _ (List.mem_cons_self ..)
        rw [← h1] at hs1 hs2
        rw [hs1, if_pos rfl, hs2] at hE
        have h3' : fndA l (nmOf K p) 0 = (l1.length : Int) := by rw [h3]; omega
        cases ho : Pl.corOk p s with
        | false =>
          rw [ho, if_neg (by simp)] at hE
          obtain ⟨v1, v2⟩ := hv 4 hE (by omega)
          rw [v1, v2, hE]
          refine (urel_no u B lim a n c l p K l1.length q s w h hB hn hc hk2 hi h3' hsw hw.co ho).mono ?_
          rintro _ w' ⟨rfl, f, a', n', c', r⟩
          exact ⟨rfl, f, l, a', n', c', r, rfl⟩
        | true =>
          rw [ho, if_pos rfl] at hE
          have v1 : relP (tlOf l) p = p.wco (p.co + s * 65536) := by unfold relP; rw [hE, if_pos rfl, hK, hs2]
          have v2 : relL (tlOf l) p = tlOf (l.take l1.length ++ l.drop (l1.length + 1)) := by
            unfold relL
            rw [hE, if_pos rfl, hK, h1]
            rw [h1] at hd
            rw [filt_found h2 h4 hd]
            congr 1
            simp
          rw [v1, v2, hE]
          refine (urel_yes u B lim a n c l p K l1.length q s w h hB hn hc hk2 hi h3' hsw hw.co ho).mono ?_
          rintro _ w' ⟨rfl, f, a', n', c', r⟩
          exact ⟨rfl, f, _, a', n', c', r, rfl⟩
    · have hE : relE (tlOf l) p = 8 := by unfold relE; rw [if_pos hc, if_neg hk]
      obtain ⟨v1, v2⟩ := hv 8 hE (by omega)
      rw [v1, v2, hE]
      rw [hc] at CK
      replace CK := Lib.hid CK
      have t1 : (p.k == 10) = false := by simp; omega
      have t2 : (p.k != 8) = true := by simp; omega
      clear hv hE v1 v2 hc hk h hB hn hs hd hw
      go_enter Try.func22, Try.ntmps22
      go_wp2_with (refine wpList_load_blk rfl 33 _ rfl w.heap.size rfl 33 (pmA p) _ (Rz.mk w p).2.1 Try.underlying33 rfl (by kernel_rfl) ?_)
      refine (CK.out _).mono ?_
      rintro _ w1 ⟨rfl, l1⟩
      have K1 := (Rz.mk w p).on l1
      have K1a := K1.2.1
      have R1 := ((H0.out.alloc (.cells (pmA p) 33)).alloc (.cells zA 33)).on l1
      have k0 : w1.cell? ⟨w.heap.size, 0, none⟩ = some (.int .i64 p.k) := K1.2.1.cell 0
      have kz := K1.2.1.lt
      have R1 := Lib.hid R1
      clear l1
      go_wp2_with (first | (refine wpList_load_blk rfl 33 _ rfl w.heap.size rfl 33 (pmA p) _ K1a Try.underlying33 rfl (by kernel_rfl) ?_) | (refine wpList_store_blk rfl 33 _ _ rfl (w.heap.size + 1) zA rfl rfl 33 zA K1.2.2 (by kernel_rfl) rfl (by kernel_rfl) ?_; intro W6 HW6 HG6))
      have R6 : Rt W6 u B lim a n c l := R1.out.grown HG6 (fun e => by subst e; exact absurd (R1.out.blk.ne_ K1.2.2 (by decide)) (by simp)) (own_ne R1.out.own K1.2.2 (by decide))
      exact bodyPost_ret (v := .tuple #[.agg zA, .int .i64 8]) (results_cell_tmp rfl _ _ (w.heap.size + 1) 33 zA _ _ rfl rfl HW6 Try.underlying33 rfl info_pm) rfl ⟨rfl, Fr.of_below (K1.out HW6 HG6).1 HB.out, l, _, _, _, R6, rfl⟩
  · have hE : relE (tlOf l) p = 2 := by unfold relE; rw [if_neg hc]
    obtain ⟨v1, v2⟩ := hv 2 hE (by omega)
    rw [v1, v2, hE]
    obtain ⟨C, hC⟩ : ∃ C, Pl.chk p = C := ⟨_, rfl⟩
    rw [hC] at CK hc
    have t0 : (C == 0) = false := by simp [hc]
    have t0' : (C != 0) = true := by simp [hc]
    replace CK := Lib.hid CK
    clear hv hE v1 v2 hC hc h hB hn hs hd hw
    go_enter Try.func22, Try.ntmps22
    go_wp2_with (refine wpList_load_blk rfl 33 _ rfl w.heap.size rfl 33 (pmA p) _ (Rz.mk w p).2.1 Try.underlying33 rfl (by kernel_rfl) ?_)
    refine (CK.out _).mono ?_
    rintro _ w1 ⟨rfl, l1⟩
    have K1 := (Rz.mk w p).on l1
    have K1a := K1.2.1
    have R1 := ((H0.out.alloc (.cells (pmA p) 33)).alloc (.cells zA 33)).on l1
    have k0 : w1.cell? ⟨w.heap.size, 0, none⟩ = some (.int .i64 p.k) := K1.2.1.cell 0
    have kz := K1.2.1.lt
    have R1 := Lib.hid R1
    clear l1
    go_wp2_with (first | (refine wpList_load_blk rfl 33 _ rfl w.heap.size rfl 33 (pmA p) _ K1a Try.underlying33 rfl (by kernel_rfl) ?_) | (refine wpList_store_blk rfl 33 _ _ rfl (w.heap.size + 1) zA rfl rfl 33 zA K1.2.2 (by kernel_rfl) rfl (by kernel_rfl) ?_; intro W6 HW6 HG6))
    have R6 : Rt W6 u B lim a n c l := R1.out.grown HG6 (fun e => by subst e; exact absurd (R1.out.blk.ne_ K1.2.2 (by decide)) (by simp)) (own_ne R1.out.own K1.2.2 (by decide))
    exact bodyPost_ret (v := .tuple #[.agg zA, .int .i64 2]) (results_cell_tmp rfl _ _ (w.heap.size + 1) 33 zA _ _ rfl rfl HW6 Try.underlying33 rfl info_pm) rfl ⟨rfl, Fr.of_below (K1.out HW6 HG6).1 HB.out, l, _, _, _, R6, rfl⟩
end Go.Proofs.Ytnlfkafebbfenaa
