/- Contracts of the loop's large and small. -/
import Derived.Test.YtdjfbghdnkjdoaaDoorPll2
namespace Go.Proofs.YtdjfbghdnkjdoaaDoor
open Go.RowKit Go.Lib

theorem LeftP.trans {b : Nat} {c : Pl.LC} {s s' : Pl.LS} {w W W' : World} (h : LeftP b c s w W) (k : LeftP b c s' W W') : LeftP b c s' w W' := ⟨k.1, only_trans h.2 k.2⟩
theorem leftP_below {b : Nat} {c : Pl.LC} {s : Pl.LS} {w w' : World} (h : Blk w b 46 (lvA c s)) (k : Below w.heap.size w w') : LeftP b c s w w' := ⟨h.below_ k, only_of_below k _⟩
theorem leftP_box {b : Nat} {c : Pl.LC} {s : Pl.LS} {w w' : World} {o : Obj} (h : LeftP b c s (w.alloc o) w') : LeftP b c s w w' := ⟨h.1, only_trans (only_alloc (only_refl _ _) _) h.2⟩
/-- .. and a result's box, laid first, that is written last -/
theorem leftP_out {b : Nat} {c : Pl.LC} {s : Pl.LS} {w w1 : World} {o : Obj} (h : LeftP b c s (w.alloc o) w1) (hb : b < w.heap.size) (x y : Value) :
    LeftP b c s w ((w1.setCell ⟨w.heap.size, 0, none⟩ x).setCell ⟨w.heap.size, 1, none⟩ y) :=
  ⟨(h.1.far (p := ⟨w.heap.size, 0, none⟩) (Nat.ne_of_lt hb) _).far (p := ⟨w.heap.size, 1, none⟩) (Nat.ne_of_lt hb) _,
    only_setNew (only_setNew (only_trans (only_alloc (only_refl _ _) _) h.2) (p := ⟨w.heap.size, 0, none⟩) (Nat.le_refl _) _) (p := ⟨w.heap.size, 1, none⟩) (Nat.le_refl _) _⟩
theorem leftP_bx {b : Nat} {c : Pl.LC} {s : Pl.LS} {w w1 : World} {t : TypeId} {cs : Array Value} (h : LeftP b c s (w.alloc (.cells cs t)) w1) (hb : b < w.heap.size) : Blk w1 w.heap.size t cs ∧ w.heap.size + 1 ≤ w1.heap.size :=
  ⟨(Blk.new w t cs).grown h.2 (fun e => by injection e with e; omega), by have := h.2.size; simp at this; omega⟩

theorem lgset {W : World} {b : Nat} {c : Pl.LC} {s : Pl.LS} (hk : Blk W b 46 (lvA c s)) (st sp p : Int) : LeftP b c ⟨st, s.f, p, s.kn, s.at_, s.po, sp⟩ W (((W.setCell ⟨b, 5, none⟩ (.int .i64 st)).setCell ⟨b, 11, none⟩ (.int .i64 sp)).setCell ⟨b, 7, none⟩ (.int .i64 p)) := by
  refine ⟨?_, ?_⟩
  · have := (((hk.set_ 5 (.int .i64 st)).set_ 11 (.int .i64 sp)).set_ 7 (.int .i64 p))
    exact this
  ·
    have k1 := only_setCell (only_refl W (some b)) (p := ⟨b, 5, none⟩) (.inl rfl) (.int .i64 st)
    have k2 := only_setCell k1 (p := ⟨b, 11, none⟩) (.inl rfl) (.int .i64 sp)
    have k3 := only_setCell k2 (p := ⟨b, 7, none⟩) (.inl rfl) (.int .i64 p)
    exact k3
theorem smset {W : World} {b : Nat} {c : Pl.LC} {s : Pl.LS} (hk : Blk W b 46 (lvA c s)) (st p : Int) : LeftP b c ⟨st, s.f, p, s.kn, s.at_, s.po, s.sp⟩ W ((W.setCell ⟨b, 5, none⟩ (.int .i64 st)).setCell ⟨b, 7, none⟩ (.int .i64 p)) := by
  refine ⟨?_, ?_⟩
  · have := ((hk.set_ 5 (.int .i64 st)).set_ 7 (.int .i64 p))
    exact this
  ·
    have k1 := only_setCell (only_refl W (some b)) (p := ⟨b, 5, none⟩) (.inl rfl) (.int .i64 st)
    have k2 := only_setCell k1 (p := ⟨b, 7, none⟩) (.inl rfl) (.int .i64 p)
    exact k2
theorem spset {W : World} {b : Nat} {c : Pl.LC} {s : Pl.LS} (hk : Blk W b 46 (lvA c s)) (st sp : Int) : LeftP b c ⟨st, s.f, s.p, s.kn, s.at_, s.po, sp⟩ W ((W.setCell ⟨b, 5, none⟩ (.int .i64 st)).setCell ⟨b, 11, none⟩ (.int .i64 sp)) := by
  refine ⟨?_, ?_⟩
  · have := ((hk.set_ 5 (.int .i64 st)).set_ 11 (.int .i64 sp))
    exact this
  ·
    have k1 := only_setCell (only_refl W (some b)) (p := ⟨b, 5, none⟩) (.inl rfl) (.int .i64 st)
    have k2 := only_setCell k1 (p := ⟨b, 11, none⟩) (.inl rfl) (.int .i64 sp)
    exact k2
theorem sp0set {W : World} {b : Nat} {c : Pl.LC} {s : Pl.LS} (hk : Blk W b 46 (lvA c s)) : LeftP b c ⟨s.st, s.f, s.p, s.kn, s.at_, s.po, 0⟩ W (W.setCell ⟨b, 11, none⟩ (.int .i64 0)) := by
  refine ⟨?_, ?_⟩
  · have := (hk.set_ 11 (.int .i64 0))
    exact this
  ·
    have k1 := only_setCell (only_refl W (some b)) (p := ⟨b, 11, none⟩) (.inl rfl) (.int .i64 0)
    exact k1
theorem leftP_alloc {b : Nat} {c : Pl.LC} {s : Pl.LS} {w W : World} (h : LeftP b c s w W) (o : Obj) : LeftP b c s w (W.alloc o) := ⟨h.1.alloc o, only_alloc h.2 o⟩
theorem leftP_drew {b : Nat} {c : Pl.LC} {s : Pl.LS} {w W : World} (h : LeftP b c s w W) : LeftP b c s w W.drew := ⟨h.1.drew, only_drew h.2⟩
theorem leftP_from {b : Nat} {c : Pl.LC} {s : Pl.LS} {w W : World} {n : Nat} (h : LeftP b c s (w.drewN n) W) : LeftP b c s w W := ⟨h.1, only_trans (only_drewN (only_refl _ _) n) h.2⟩

set_option maxHeartbeats 4000000 in
theorem plarge_any (b : Nat) (c : Pl.LC) (s : Pl.LS) (t o m : Int) (w : World) (hk : Blk w b 46 (lvA c s)) (hc : c.err = 0) (hi : Pl.LInv c s) (ht : 0 ≤ t) (ht2 : t ≤ 1073741824) (ho : -1125899906842624 ≤ o) (ho2 : o ≤ 1125899906842624) (hm : s.st = 1 → 1 ≤ m) (hm2 : m ≤ 1073741824) :
    Calls Tryd.prog 27 #[.pointer (some ⟨b, 0, none⟩), .int .i64 t, .int .i64 o, .int .i64 m] w fun e w' => e = .returned (.agg #[.int .i64 (Pl.lgK c s t), .int .i64 (if Pl.lgK c s t = 0 then 0 else o)]) ∧ LeftP b c (Pl.lgS c s t o m) w w' := by
  have hok := Pl.LC.ok hc
  obtain ⟨i1, i2, i3, i4, i5, i6⟩ := hi
  obtain ⟨⟨k0, k1, k2, k3, k4⟩, k5, k6, k7, k8, k9, k10, k11⟩ := lv_cells hk
  have kz := hk.lt
  have f5 := hk.frozen 5
  have f7 := hk.frozen 7
  have f11 := hk.frozen 11
  have HK := Lib.hid hk
  unfold Pl.lgK Pl.lgS
  clear i4 i5
  by_cases c0 : s.st = 0
  · simp only [if_pos c0]
    have t0 : (s.st == 0) = true := by simp [c0]
    clear c0 hk
    go_enter Tryd.func27, Tryd.ntmps27
    go_wp2
    exact bodyPost_ret (v := .agg #[.int .i64 2, .int .i64 o]) (by simp [results, Tryd.results27, go_sem]) rfl ⟨rfl, leftP_alloc (lgset HK.out 1 0 0) _⟩
  · simp only [if_neg c0]
    have t0 : (s.st == 0) = false := by simp [c0]
    by_cases c1 : s.st = 1
    · simp only [if_pos c1]
      have t1 : (s.st == 1) = true := by simp [c1]
      have hm1 := hm c1
      have Q := Lib.hid (fun W => pquot_any o m (by omega) (by omega) (by omega) (by omega) W)
      have qb := Pl.floor_in (a := o) (b := m) (K := 1125899906842624) (by omega) ho ho2 (by omega)
      have AJ := Lib.hid (fun W (k : Blk W b 46 (lvA c s)) => padjust_any b c s (o / m) W k (by omega) (by omega) (by omega) (by omega) (by omega) (by omega))
      obtain ⟨X, hX⟩ : ∃ X, o / m = X := ⟨_, rfl⟩
      rw [hX] at Q AJ ⊢
      clear c0 c1 hk hX qb hm
      go_enter Tryd.func27, Tryd.ntmps27
      go_wp2_with fail
      refine (Q.out _).mono ?_
      rintro _ w1 ⟨rfl, n1, rfl⟩
      go_wp2_with fail
      refine (AJ.out _ ((HK.out.alloc _).drewN n1)).mono ?_
      rintro _ w2 ⟨rfl, l2⟩
      have l2 := leftP_from l2
      obtain ⟨hbx, gz⟩ := leftP_bx l2 HK.out.lt
      have d0 : w2.cell? ⟨w.heap.size, 0, none⟩ = some (.int .i64 0) := hbx.cell 0
      have d1 : w2.cell? ⟨w.heap.size, 1, none⟩ = some (.int .i64 0) := hbx.cell 1
      have d2 := hbx.frozen 0
      have d3 := hbx.frozen 1
      clear k0 k1 k2 k3 k4 k5 k6 k7 k8 k9 k10 k11 kz f5 f7 f11
      obtain ⟨⟨k0, k1, k2, k3, k4⟩, k5, k6, k7, k8, k9, k10, k11⟩ := lv_cells l2.1
      have kz := l2.1.lt
      have f5 := l2.1.frozen 5
      have f7 := l2.1.frozen 7
      have f11 := l2.1.frozen 11
      have HL := Lib.hid l2
      have hne : ¬ w.heap.size = b := by have := HK.out.lt; omega
      have hne2 : ¬ b = w.heap.size := by have := HK.out.lt; omega
      clear hbx l2
      go_wp2
      exact bodyPost_ret (v := .agg #[.int .i64 2, .int .i64 o]) (by simp [results, Tryd.results27, go_sem, d0, d1, d2, d3, gz, kz]) rfl ⟨rfl, leftP_out (HL.out.trans (lgset HL.out.1 3 0 0)) HK.out.lt _ _⟩
    · simp only [if_neg c1]
      have t1 : (s.st == 1) = false := by simp [c1]
      by_cases c3 : s.st = 3
      · simp only [if_pos c3]
        have t3 : (s.st == 3) = true := by simp [c3]
        have kw : IntKind.i64.wrap (t - t) = t - t := IntWalk.i64_in _ (by omega)
        have kw0 : IntKind.i64.wrap 0 = 0 := IntWalk.i64_in _ (by omega)
        have hso : 1 ≤ c.so := by omega
        have tt : decide (t - t < c.so) = true := by simp; omega
        clear c0 c1 c3 hk hm
        go_enter Tryd.func27, Tryd.ntmps27
        go_wp2_with fail
        go_region_with fail
        all_goals (
          go_wp2
          exact bodyPost_ret (v := .agg #[.int .i64 0, .int .i64 0]) (by simp [results, Tryd.results27, go_sem]) rfl ⟨rfl, by first | exact leftP_alloc (leftP_drew (spset HK.out 2 t)) _ | exact leftP_drew (leftP_alloc (spset HK.out 2 t) _)⟩)
      · simp only [if_neg c3]
        have c2 : s.st = 2 := by omega
        have t3 : (s.st == 3) = false := by simp [c3]
        have t2 : (s.st == 2) = true := by simp [c2]
        have kw : IntKind.i64.wrap (t - s.sp) = t - s.sp := IntWalk.i64_in _ (by omega)
        by_cases cs : t - s.sp < c.so
        · simp only [if_pos cs]
          have tt : decide (t - s.sp < c.so) = true := by simp [cs]
          clear c0 c1 c3 hk hm c2
          go_enter Tryd.func27, Tryd.ntmps27
          go_wp2_with fail
          go_region_with fail
          all_goals (
            go_wp2
            exact bodyPost_ret (v := .agg #[.int .i64 0, .int .i64 0]) (by simp [results, Tryd.results27, go_sem]) rfl ⟨rfl, by first | exact leftP_alloc (leftP_drew (leftP_refl HK.out)) _ | exact leftP_drew (leftP_alloc (leftP_refl HK.out) _)⟩)
        · simp only [if_neg cs]
          have tt : decide (t - s.sp < c.so) = false := by simp; omega
          clear c0 c1 c3 hk hm c2
          go_enter Tryd.func27, Tryd.ntmps27
          go_wp2_with fail
          go_region_with fail
          all_goals (
            go_wp2
            exact bodyPost_ret (v := .agg #[.int .i64 2, .int .i64 o]) (by simp [results, Tryd.results27, go_sem]) rfl ⟨rfl, by first | exact leftP_alloc (leftP_drew (lgset HK.out 3 0 0)) _ | exact leftP_drew (leftP_alloc (lgset HK.out 3 0 0) _) | exact leftP_alloc ((leftP_drew (leftP_refl HK.out)).trans (lgset HK.out.drew 3 0 0)) _⟩)

set_option maxHeartbeats 4000000 in
theorem psmall_any (b : Nat) (c : Pl.LC) (s : Pl.LS) (o m po : Int) (w : World) (hk : Blk w b 46 (lvA c s)) (hc : c.err = 0) (hi : Pl.LInv c s) (ho : -1125899906842624 ≤ o) (ho2 : o ≤ 1125899906842624) (hm : s.st ≠ 0 → 1 ≤ m) (hm2 : m ≤ 1073741824) (hp : c.lo ≤ po) (hp2 : po ≤ c.hi) :
    Calls Tryd.prog 28 #[.pointer (some ⟨b, 0, none⟩), .int .i64 o, .int .i64 m, .int .i64 po] w fun e w' => e = .returned (.agg #[.int .i64 1, .int .i64 (Pl.smS c s o m po).f]) ∧ LeftP b c (Pl.smS c s o m po) w w' := by
  have hok := Pl.LC.ok hc
  obtain ⟨i1, i2, i3, i4, i5, i6⟩ := hi
  obtain ⟨⟨k0, k1, k2, k3, k4⟩, k5, k6, k7, k8, k9, k10, k11⟩ := lv_cells hk
  have kz := hk.lt
  have f5 := hk.frozen 5
  have f7 := hk.frozen 7
  have f11 := hk.frozen 11
  have HK := Lib.hid hk
  unfold Pl.smS
  clear i4 i5
  by_cases c0 : s.st = 0
  · simp only [if_pos c0]
    have t0 : (s.st == 0) = true := by simp [c0]
    clear c0 hk
    go_enter Tryd.func28, Tryd.ntmps28
    go_wp2
    exact bodyPost_ret (v := .agg #[.int .i64 1, .int .i64 s.f]) (by simp [results, Tryd.results28, go_sem]) rfl ⟨rfl, leftP_alloc (smset HK.out 1 o) _⟩
  · simp only [if_neg c0]
    have t0 : (s.st == 0) = false := by simp [c0]
    have hm1 := hm c0
    by_cases c1 : s.st = 1
    · simp only [if_pos c1]
      have t1 : (s.st == 1) = true := by simp [c1]
      have Q := Lib.hid (fun W => pquot_any o m (by omega) (by omega) (by omega) (by omega) W)
      have qb := Pl.floor_in (a := o) (b := m) (K := 1125899906842624) (by omega) ho ho2 (by omega)
      have AJ := Lib.hid (fun W (k : Blk W b 46 (lvA c s)) => padjust_any b c s (o / m) W k (by omega) (by omega) (by omega) (by omega) (by omega) (by omega))
      obtain ⟨X, hX⟩ : ∃ X, o / m = X := ⟨_, rfl⟩
      rw [hX] at Q AJ ⊢
      obtain ⟨F, hF⟩ : ∃ F, Pl.adj c s.f X = F := ⟨_, rfl⟩
      rw [hF] at AJ ⊢
      clear c0 c1 hk hX qb hm hF
      go_enter Tryd.func28, Tryd.ntmps28
      go_wp2_with fail
      refine (Q.out _).mono ?_
      rintro _ w1 ⟨rfl, n1, rfl⟩
      go_wp2_with fail
      refine (AJ.out _ ((HK.out.alloc _).drewN n1)).mono ?_
      rintro _ w2 ⟨rfl, l2⟩
      have l2 := leftP_from l2
      obtain ⟨hbx, gz⟩ := leftP_bx l2 HK.out.lt
      have d0 : w2.cell? ⟨w.heap.size, 0, none⟩ = some (.int .i64 0) := hbx.cell 0
      have d1 : w2.cell? ⟨w.heap.size, 1, none⟩ = some (.int .i64 0) := hbx.cell 1
      have d2 := hbx.frozen 0
      have d3 := hbx.frozen 1
      clear k0 k1 k2 k3 k4 k5 k6 k7 k8 k9 k10 k11 kz f5 f7 f11
      obtain ⟨⟨k0, k1, k2, k3, k4⟩, k5, k6, k7, k8, k9, k10, k11⟩ := lv_cells l2.1
      have kz := l2.1.lt
      have f5 := l2.1.frozen 5
      have f7 := l2.1.frozen 7
      have f11 := l2.1.frozen 11
      have HL := Lib.hid l2
      have hne : ¬ w.heap.size = b := by have := HK.out.lt; omega
      have hne2 : ¬ b = w.heap.size := by have := HK.out.lt; omega
      clear hbx l2
      go_wp2
      exact bodyPost_ret (v := .agg #[.int .i64 1, .int .i64 F]) (by simp [results, Tryd.results28, go_sem, d0, d1, d2, d3, gz, kz]) rfl ⟨rfl, leftP_out (HL.out.trans (smset HL.out.1 3 o)) HK.out.lt _ _⟩
    · simp only [if_neg c1]
      have t1 : (s.st == 1) = false := by simp [c1]
      have PL := Lib.hid (fun S W (e : S.p = s.p) (k : Blk W b 46 (lvA c S)) => e ▸ ppull_any b c S o m po W k ho ho2 hm1 hm2 (by omega) (by omega) (by rw [e]; omega) (by rw [e]; omega))
      have pb := Pl.pull_in (p := s.p) (o := o) (m := m) (po := po) ho ho2 hm1 (by omega) (by omega) (by omega) (by omega)
      obtain ⟨X, hX⟩ : ∃ X, Pl.pull s.p o m po = X := ⟨_, rfl⟩
      rw [hX] at PL pb ⊢
      obtain ⟨F, hF⟩ : ∃ F, Pl.adj c s.f X = F := ⟨_, rfl⟩
      rw [hF]
      by_cases c2 : s.st = 2
      · simp only [if_pos c2]
        have t2 : (s.st == 2) = true := by simp [c2]
        have AJ := Lib.hid (fun W (k : Blk W b 46 (lvA c ⟨s.st, s.f, s.p, s.kn, s.at_, s.po, 0⟩)) => padjust_any b c ⟨s.st, s.f, s.p, s.kn, s.at_, s.po, 0⟩ X W k (by omega) (by omega) (by show -c.lim ≤ s.f; omega) (by show s.f ≤ c.lim; omega) (by omega) (by omega))
        simp only [hF] at AJ
        clear c0 c1 hk hX pb hm hF c2
        go_enter Tryd.func28, Tryd.ntmps28
        go_wp2_with fail
        refine (PL.out ⟨s.st, s.f, s.p, s.kn, s.at_, s.po, 0⟩ _ rfl (leftP_alloc (sp0set HK.out) _).1).mono ?_
        rintro _ w1 ⟨rfl, b1⟩
        have HK0 := sp0set HK.out
        have hs : (w.setCell ⟨b, 11, none⟩ (.int .i64 0)).heap.size = w.heap.size := by simp
        have hk1 := (leftP_alloc HK0 (.cells #[.int .i64 0, .int .i64 0] 38)).1.below_ b1
        have l1 := leftP_below (HK0.1.alloc (.cells #[.int .i64 0, .int .i64 0] 38)) b1
        clear b1
        go_wp2_with fail
        refine (AJ.out _ hk1).mono ?_
        rintro _ w2 ⟨rfl, l2⟩
        have l2 := l1.trans l2
        obtain ⟨hbx, gz⟩ := leftP_bx l2 HK0.1.lt
        rw [hs] at hbx gz
        have d0 : w2.cell? ⟨w.heap.size, 0, none⟩ = some (.int .i64 0) := hbx.cell 0
        have d1 : w2.cell? ⟨w.heap.size, 1, none⟩ = some (.int .i64 0) := hbx.cell 1
        have d2 := hbx.frozen 0
        have d3 := hbx.frozen 1
        clear k0 k1 k2 k3 k4 k5 k6 k7 k8 k9 k10 k11 kz f5 f7 f11
        obtain ⟨⟨k0, k1, k2, k3, k4⟩, k5, k6, k7, k8, k9, k10, k11⟩ := lv_cells l2.1
        have kz := l2.1.lt
        have f5 := l2.1.frozen 5
        have f7 := l2.1.frozen 7
        have f11 := l2.1.frozen 11
        have HL := Lib.hid l2
        have HKZ := Lib.hid HK0
        have HS := Lib.hid hs
        have hne : ¬ w.heap.size = b := by have := HK.out.lt; omega
        have hne2 : ¬ b = w.heap.size := by have := HK.out.lt; omega
        clear hbx l2 l1 hk1 HK0 hs
        go_wp2
        have q := leftP_out (HL.out.trans (smset HL.out.1 3 o)) HKZ.out.1.lt (.int .i64 1) (.int .i64 F)
        rw [HS.out] at q
        exact bodyPost_ret (v := .agg #[.int .i64 1, .int .i64 F]) (by simp [results, Tryd.results28, go_sem, d0, d1, d2, d3, gz, kz]) rfl ⟨rfl, HKZ.out.trans q⟩
      · simp only [if_neg c2]
        have c3 : s.st = 3 := by omega
        have t2 : (s.st == 2) = false := by simp [c2]
        have t3 : (s.st == 3) = true := by simp [c3]
        have AJ := Lib.hid (fun W (k : Blk W b 46 (lvA c s)) => padjust_any b c s X W k (by omega) (by omega) (by omega) (by omega) (by omega) (by omega))
        rw [hF] at AJ
        clear c0 c1 hk hX pb hm hF c2 c3
        go_enter Tryd.func28, Tryd.ntmps28
        go_wp2_with fail
        refine (PL.out s _ rfl (HK.out.alloc _)).mono ?_
        rintro _ w1 ⟨rfl, b1⟩
        have hk1 := (HK.out.alloc (.cells #[.int .i64 0, .int .i64 0] 38)).below_ b1
        have l1 := leftP_below (HK.out.alloc (.cells #[.int .i64 0, .int .i64 0] 38)) b1
        go_wp2_with fail
        refine (AJ.out _ hk1).mono ?_
        rintro _ w2 ⟨rfl, l2⟩
        have l2 : LeftP b c _ ((w.alloc (.cells #[.int .i64 0, .int .i64 0] 38)).drewN 0) w2 := l1.trans l2
        clear l1 hk1 b1
        have l2 := leftP_from l2
        obtain ⟨hbx, gz⟩ := leftP_bx l2 HK.out.lt
        have d0 : w2.cell? ⟨w.heap.size, 0, none⟩ = some (.int .i64 0) := hbx.cell 0
        have d1 : w2.cell? ⟨w.heap.size, 1, none⟩ = some (.int .i64 0) := hbx.cell 1
        have d2 := hbx.frozen 0
        have d3 := hbx.frozen 1
        clear k0 k1 k2 k3 k4 k5 k6 k7 k8 k9 k10 k11 kz f5 f7 f11
        obtain ⟨⟨k0, k1, k2, k3, k4⟩, k5, k6, k7, k8, k9, k10, k11⟩ := lv_cells l2.1
        have kz := l2.1.lt
        have f5 := l2.1.frozen 5
        have f7 := l2.1.frozen 7
        have f11 := l2.1.frozen 11
        have HL := Lib.hid l2
        have hne : ¬ w.heap.size = b := by have := HK.out.lt; omega
        have hne2 : ¬ b = w.heap.size := by have := HK.out.lt; omega
        clear hbx l2
        go_wp2
        exact bodyPost_ret (v := .agg #[.int .i64 1, .int .i64 F]) (by simp [results, Tryd.results28, go_sem, d0, d1, d2, d3, gz, kz]) rfl ⟨rfl, leftP_out (HL.out.trans (smset HL.out.1 3 o)) HK.out.lt _ _⟩
end Go.Proofs.YtdjfbghdnkjdoaaDoor
