/- Contracts of the reference's New and Update. -/
import Derived.Test.YtdjfbghdnkjdoaaDoorPllRef2
namespace Go.Proofs.YtdjfbghdnkjdoaaDoor
namespace Pl
section
variable {c : LC} {s : LS} {t o po : Int}
theorem up_w (he : upE c s t o po = 0) (hw : waits c s t = true) : upS c s t o po = s ∧ upR c s t o po = ⟨0, 0, 0⟩ := by
  unfold upS upR
  rw [if_pos he, if_pos he, if_pos hw, if_pos hw]
  exact ⟨rfl, rfl⟩
theorem up_b (he : upE c s t o po = 0) (hw : waits c s t = false) (hb : big c o = true) : upS c s t o po = (lgS c s t o (mu s t)).upd t po ∧ upR c s t o po = ⟨lgK c s t, if lgK c s t = 0 then 0 else o, 0⟩ := by
  unfold upS upR
  rw [if_pos he, if_pos he]
  simp only [hw, hb, Bool.false_eq_true, if_false, if_true, and_self]
theorem up_s (he : upE c s t o po = 0) (hw : waits c s t = false) (hb : big c o = false) : upS c s t o po = (smS c s o (mu s t) po).upd t po ∧ upR c s t o po = ⟨1, (smS c s o (mu s t) po).f, 0⟩ := by
  unfold upS upR
  rw [if_pos he, if_pos he]
  simp only [hw, hb, Bool.false_eq_true, if_false, and_self]
theorem up_e (he : upE c s t o po ≠ 0) : upS c s t o po = s ∧ upR c s t o po = ⟨0, 0, upE c s t o po⟩ := by
  unfold upS upR
  rw [if_neg he, if_neg he]
  exact ⟨rfl, rfl⟩
/-- what the reference's spike keeps -/
def XInv (s : LS) (X : RX) : Prop := (s.st = 2 → X.x = s.sp) ∧ -1073741824 ≤ X.x ∧ X.x ≤ 1073741824
theorem waits_no (h : waits c s t = false) : s.st = 1 → ¬ mu s t < c.so := by
  intro h1 h2
  unfold waits at h
  simp [h1, h2] at h
theorem waits_yes (h : waits c s t = true) : s.st = 1 ∧ mu s t < c.so := by
  unfold waits at h
  simpa using h
end
end Pl
open Go.RowKit Go.Lib
section
variable {c : Pl.LC} {s : Pl.LS} {X : Pl.RX} {t o po : Int}
theorem lg_same (hX : Pl.XInv s X) (hi : Pl.LInv c s) (hw : Pl.waits c s t = false) (Z : Pl.RX) : rvA c ((rlgS c s X t o (Pl.mu s t)).upd t po) Z = rvA c ((Pl.lgS c s t o (Pl.mu s t)).upd t po) Z := by
  have hw := Pl.waits_no hw
  have hi := hi.1
  unfold rlgS Pl.lgS
  by_cases c0 : s.st = 0
  · simp only [if_pos c0]; rfl
  · by_cases c1 : s.st = 1
    · simp only [if_neg c0, if_pos c1, if_neg (hw c1)]; rfl
    · by_cases c3 : s.st = 3
      · simp only [if_neg c0, if_neg c1, if_pos c3]; rfl
      · have e := hX.1 (by omega)
        rw [e]
        by_cases cs : t - s.sp < c.so
        · simp only [if_neg c0, if_neg c1, if_neg c3, if_pos cs]
        · simp only [if_neg c0, if_neg c1, if_neg c3, if_neg cs]; rfl
theorem lg_act (hX : Pl.XInv s X) (hi : Pl.LInv c s) (ht : 0 ≤ t ∧ t ≤ 1073741824) (hw : Pl.waits c s t = false) :
    (rlgX c s ⟨X.x, 0, 0⟩ t o (Pl.mu s t)).k = Pl.lgK c s t ∧ (rlgX c s ⟨X.x, 0, 0⟩ t o (Pl.mu s t)).v = (if Pl.lgK c s t = 0 then 0 else o) ∧ Pl.XInv ((Pl.lgS c s t o (Pl.mu s t)).upd t po) (rlgX c s ⟨X.x, 0, 0⟩ t o (Pl.mu s t)) := by
  have hw := Pl.waits_no hw
  have hi := hi.1
  obtain ⟨x0, x1, x2⟩ := hX
  unfold rlgX Pl.lgS Pl.lgK Pl.XInv Pl.LS.upd
  by_cases c0 : s.st = 0
  · simp [c0, x1, x2]
  · by_cases c1 : s.st = 1
    · have := hw c1
      simp [c1, this, x1, x2]
    · by_cases c3 : s.st = 3
      · simp [c3]; omega
      · have e := x0 (by omega)
        have c2 : s.st = 2 := by omega
        rw [e] at x1 x2 ⊢
        by_cases cs : t - s.sp < c.so
        · simp [c2, cs, x1, x2]
        · simp [c2, cs, x1, x2]
theorem sm_same (hw : Pl.waits c s t = false) (Z : Pl.RX) : rvA c ((rsmS c s o (Pl.mu s t) po).upd t po) Z = rvA c ((Pl.smS c s o (Pl.mu s t) po).upd t po) Z := by
  have hw := Pl.waits_no hw
  unfold rsmS Pl.smS
  by_cases c0 : s.st = 0
  · simp only [if_pos c0]
  · by_cases c1 : s.st = 1
    · simp only [if_neg c0, if_pos c1, if_neg (hw c1)]
    · simp only [if_neg c0, if_neg c1]; rfl
theorem sm_act (hX : Pl.XInv s X) (hw : Pl.waits c s t = false) :
    (rsmX c s ⟨X.x, 0, 0⟩ o (Pl.mu s t) po).k = 1 ∧ (rsmX c s ⟨X.x, 0, 0⟩ o (Pl.mu s t) po).v = (Pl.smS c s o (Pl.mu s t) po).f ∧ Pl.XInv ((Pl.smS c s o (Pl.mu s t) po).upd t po) (rsmX c s ⟨X.x, 0, 0⟩ o (Pl.mu s t) po) := by
  have hw := Pl.waits_no hw
  obtain ⟨x0, x1, x2⟩ := hX
  unfold rsmX rsmS Pl.smS Pl.XInv Pl.LS.upd
  by_cases c0 : s.st = 0
  · simp [c0, x1, x2]
  · by_cases c1 : s.st = 1
    · have := hw c1
      simp [c1, this, x1, x2]
    · simp [c0, c1, x1, x2]
end
theorem rnew_yes (c : Pl.LC) (hc : c.err = 0) (w : World) :
    Calls Tryd.prog 14 #[lcV c] w fun e w' => ∃ g, e = .returned (.pointer (some ⟨g, 0, none⟩)) ∧ w.heap.size ≤ g ∧ Blk w' g 50 (rvA c ⟨0, 0, 0, false, 0, 0, 0⟩ ⟨0, 0, 0⟩) ∧ Below w.heap.size w w' := by
  have V := fun W => rlcheck_any c W
  rw [hc] at V
  have V := Lib.hid V
  clear hc
  go_enter Tryd.func14, Tryd.ntmps14
  go_wp2_with fail
  refine (V.out _).mono ?_
  rintro _ w1 ⟨rfl, b1⟩
  have T := (one_mk w 23 #[.int .i64 c.lo, .int .i64 c.hi, .int .i64 c.sa, .int .i64 c.so, .int .i64 c.lim]).on b1
  obtain ⟨k0, k1, k2, k3, k4⟩ := cf_cells T
  have kz := T.2.lt
  have HT := Lib.hid T
  clear b1 T
  go_wp2
  go_ret
  exact ⟨w1.heap.size, rfl, HT.out.1.size, Blk.new w1 _ _, bel_more HT.out.1 _⟩
theorem rnew_no (c : Pl.LC) (hc : c.err ≠ 0) (w : World) :
    Calls Tryd.prog 14 #[lcV c] w fun e w' => e = .returned (.pointer none) ∧ Below w.heap.size w w' := by
  have V := fun W => rlcheck_any c W
  obtain ⟨E, hE⟩ : ∃ E, c.err = E := ⟨_, rfl⟩
  rw [hE] at V hc
  have V := Lib.hid V
  have t : (E == 0) = false := by simp [hc]
  clear hE hc
  go_enter Tryd.func14, Tryd.ntmps14
  go_wp2_with fail
  refine (V.out _).mono ?_
  rintro _ w1 ⟨rfl, b1⟩
  go_wp2
  go_ret
  exact ⟨rfl, bel_on (bel_bx w _) b1⟩
/-- an update recorded, its action handed out -/
theorem rupd_end {w w1 : World} {b : Nat} {c : Pl.LC} {S : Pl.LS} {X : Pl.RX} (hk : Blk w1 b 50 (rvA c S X)) (G : w.grownBy w1 (some b)) (hnb : w.heap.size ≠ b) (t po : Int) (u v : Value) :
    LeftR b c (S.upd t po) X w (((((w1.setCell ⟨b, 8, none⟩ (.bool true)).setCell ⟨b, 9, none⟩ (.int .i64 t)).setCell ⟨b, 10, none⟩ (.int .i64 po)).setCell ⟨w.heap.size, 0, none⟩ u).setCell ⟨w.heap.size, 1, none⟩ v) :=
  ⟨((((hk.set_ 8 (.bool true)).set_ 9 (.int .i64 t)).set_ 10 (.int .i64 po)).far (p := ⟨w.heap.size, 0, none⟩) (Ne.symm hnb) u).far (p := ⟨w.heap.size, 1, none⟩) (Ne.symm hnb) v,
   only_setNew (only_setNew (only_setCell (only_setCell (only_setCell G (p := ⟨b, 8, none⟩) (.inl rfl) _) (p := ⟨b, 9, none⟩) (.inl rfl) _) (p := ⟨b, 10, none⟩) (.inl rfl) _) (p := ⟨w.heap.size, 0, none⟩) (Nat.le_refl _) _) (p := ⟨w.heap.size, 1, none⟩) (Nat.le_refl _) _⟩
theorem rupd_wait {w w1 : World} {b : Nat} {c : Pl.LC} {S : Pl.LS} {X : Pl.RX} (hk : Blk w1 b 50 (rvA c S X)) (G : w.grownBy w1 (some b)) (hnb : w.heap.size ≠ b) (u v : Value) :
    LeftR b c S X w ((w1.setCell ⟨w.heap.size, 0, none⟩ u).setCell ⟨w.heap.size, 1, none⟩ v) :=
  ⟨(hk.far (p := ⟨w.heap.size, 0, none⟩) (Ne.symm hnb) u).far (p := ⟨w.heap.size, 1, none⟩) (Ne.symm hnb) v,
   only_setNew (only_setNew G (p := ⟨w.heap.size, 0, none⟩) (Nat.le_refl _) _) (p := ⟨w.heap.size, 1, none⟩) (Nat.le_refl _) _⟩
theorem blk_new2 (w : World) (p q : Addr) (x y : Value) (t : TypeId) (cs : Array Value) : Blk (((w.setCell p x).setCell q y).alloc (.cells cs t)) w.heap.size t cs := by
  have h := Blk.new ((w.setCell p x).setCell q y) t cs
  have hs : ((w.setCell p x).setCell q y).heap.size = w.heap.size := by simp [World.setCell]
  rwa [hs] at h
def RUp (b : Nat) (c : Pl.LC) (S : Pl.LS) (R : Pl.LR) (w : World) (e : Ending) (w' : World) : Prop :=
  ∃ X : Pl.RX, e = .returned (.tuple #[.agg #[.int .i64 R.k, .int .i64 R.v], .int .i64 R.e]) ∧ LeftR b c S X w w' ∧ Pl.XInv S X
set_option maxHeartbeats 4000000 in
theorem rupdate_any (b : Nat) (c : Pl.LC) (s : Pl.LS) (X : Pl.RX) (t o po : Int) (w : World) (hk : Blk w b 50 (rvA c s X)) (hc : c.err = 0) (hi : Pl.LInv c s) (hX : Pl.XInv s X) :
    Calls Tryd.prog 19 #[.pointer (some ⟨b, 0, none⟩), .int .i64 t, .int .i64 o, .int .i64 po] w (RUp b c (Pl.upS c s t o po) (Pl.upR c s t o po) w) := by
  have hok := Pl.LC.ok hc
  obtain ⟨⟨k0, k1, k2, k3, k4⟩, k5, k6, k7, k8, k9, k10, k11, k12, k13⟩ := rv_cells hk
  have kz := hk.lt
  have HK := Lib.hid hk
  have hnb : w.heap.size ≠ b := by omega
  have hnb' : b ≠ w.heap.size := by omega
  by_cases ha : Pl.argsOkL c t o po = true
  · have ha' := Pl.args_iff.1 ha
    obtain ⟨⟨a1, a2⟩, ⟨a3, a4⟩, a5, a6⟩ := ha'
    have d1 : decide (t < 0) = false := by simp; omega
    have d2 : decide (1073741824 < t) = false := by simp; omega
    have d3 : decide (o < -1125899906842624) = false := by simp; omega
    have d4 : decide (1125899906842624 < o) = false := by simp; omega
    have d5 : decide (po < c.lo) = false := by simp; omega
    have d6 : decide (c.hi < po) = false := by simp; omega
    by_cases hE : Pl.upE c s t o po = 0
    · have hmu := Pl.mu_in hi hE
      have f12 := hk.frozen 12
      have f13 := hk.frozen 13
      have hkn : s.kn = false ∧ Pl.mu s t = 0 ∨ s.kn = true ∧ decide (t ≤ s.at_) = false ∧ IntKind.i64.wrap (t - s.at_) = Pl.mu s t := by
        cases h : s.kn with
        | false => exact .inl ⟨rfl, by unfold Pl.mu; rw [h]; rfl⟩
        | true =>
          have := (Pl.upE_zero hE).2 h
          have := hi.2.2.2.2.1 h
          refine .inr ⟨rfl, by simp; omega, ?_⟩
          rw [show Pl.mu s t = t - s.at_ by unfold Pl.mu; rw [h]; rfl]
          exact IntWalk.i64_in _ (by omega)
      have hst1 : s.st = 1 → 1 ≤ Pl.mu s t := fun h => by
        cases hh : s.kn with
        | false => have := hi.2.2.2.1 hh; omega
        | true => exact hmu.2.2 hh
      have hst0 : s.st ≠ 0 → 1 ≤ Pl.mu s t := fun h => by
        cases hh : s.kn with
        | false => exact absurd (hi.2.2.2.1 hh) h
        | true => exact hmu.2.2 hh
      have LG := fun W (h : Blk W b 50 (rvA c s ⟨X.x, 0, 0⟩)) => rlarge_any b c s ⟨X.x, 0, 0⟩ t o (Pl.mu s t) W h hc hi hX.2 a1 a2 a3 a4 hst1 hmu.2.1
      have SM := fun W (h : Blk W b 50 (rvA c s ⟨X.x, 0, 0⟩)) => rsmall_any b c s ⟨X.x, 0, 0⟩ o (Pl.mu s t) po W h hc hi a3 a4 hst0 hmu.2.1 (by omega) (by omega)
      have kwn : IntKind.i64.wrap (-c.sa) = -c.sa := IntWalk.i64_in _ (by omega)
      have eW : (!(decide (s.st = 1) && decide (Pl.mu s t < c.so))) = !(Pl.waits c s t) := rfl
      have HX := Lib.hid hX
      have HI := Lib.hid hi
      have HA : Hid (0 ≤ t ∧ t ≤ 1073741824) := Lib.hid ⟨a1, a2⟩
      obtain ⟨m, hm⟩ : ∃ m, Pl.mu s t = m := ⟨_, rfl⟩
      have HM := Lib.hid hm
      rw [hm] at hkn
      rcases hkn with ⟨hn, hm0⟩ | ⟨hn, hm1, hm2⟩
      · have hbb : (decide (c.sa ≤ o) = true ∧ Pl.big c o = true) ∨ (decide (c.sa ≤ o) = false ∧ decide (o ≤ -c.sa) = true ∧ Pl.big c o = true) ∨ (decide (c.sa ≤ o) = false ∧ decide (o ≤ -c.sa) = false ∧ Pl.big c o = false) := by
          by_cases q : c.sa ≤ o
          · exact .inl ⟨by simp [q], Pl.big_iff.2 (.inl q)⟩
          · by_cases q2 : o ≤ -c.sa
            · exact .inr (.inl ⟨by simp; omega, by simp [q2], Pl.big_iff.2 (.inr q2)⟩)
            · exact .inr (.inr ⟨by simp; omega, by simp; omega, Pl.big_no.2 (by omega)⟩)
        rcases hbb with ⟨g1, hb⟩ | ⟨g1, g2, hb⟩ | ⟨g1, g2, hb⟩
        · cases hw : Pl.waits c s t with
          | true =>
            rw [eW, hw] at LG
            replace HM := HM
            obtain ⟨e1, e2⟩ := Pl.up_w hE hw
            rw [e1, e2]
            obtain ⟨v1, v2⟩ := Pl.waits_yes hw
            unfold rlgS rlgX at LG
            simp only [if_pos v1, if_neg (show ¬ s.st = 0 by omega), if_pos v2] at LG
            rw [hm] at LG
            replace LG : ∀ W, Blk W b 50 (rvA c s ⟨X.x, 0, 0⟩) → Calls Tryd.prog 29 #[.pointer (some ⟨b, 0, none⟩), .int .i64 t, .int .i64 o, .int .i64 m] W fun e w' => e = .returned (.bool false) ∧ LeftR b c s ⟨X.x, 0, 0⟩ W w' := LG
            replace LG := Lib.hid LG
            clear hk hc hi hX ha hE hmu hst0 hst1 SM eW HM hw e1 e2 v1 v2 HI HA
            subst hm0
            clear hm hb
            rw [hn] at k8
            go_enter Tryd.func19, Tryd.ntmps19
            go_wp2_with fail
            refine (LG.out _ (by first | exact ((HK.out.set_ 12 (.int .i64 0)).set_ 13 (.int .i64 0)).alloc _ | exact ((HK.out.alloc _).set_ 12 (.int .i64 0)).set_ 13 (.int .i64 0))).mono ?_
            rintro _ w1 ⟨rfl, l1⟩
            have G1 : w.grownBy w1 (some b) := only_trans (by first | exact only_alloc (only_setCell (only_setCell (only_refl w (some b)) (p := ⟨b, 12, none⟩) (.inl rfl) _) (p := ⟨b, 13, none⟩) (.inl rfl) _) _ | exact only_setCell (only_setCell (only_alloc (only_refl w (some b)) _) (p := ⟨b, 12, none⟩) (.inl rfl) _) (p := ⟨b, 13, none⟩) (.inl rfl) _) l1.2
            have Q1 : Blk w1 w.heap.size 38 #[.int .i64 0, .int .i64 0] := Blk.grown (by first | exact blk_new2 w _ _ _ _ _ _ | exact ((Blk.new w 38 #[.int .i64 0, .int .i64 0]).far (p := ⟨b, 12, none⟩) hnb _).far (p := ⟨b, 13, none⟩) hnb _) l1.2 (fun e => by injection e with e; exact hnb e)
            have q0 : w1.cell? ⟨w.heap.size, 0, none⟩ = some (.int .i64 0) := Q1.cell 0
            have q1 : w1.cell? ⟨w.heap.size, 1, none⟩ = some (.int .i64 0) := Q1.cell 1
            have q2 := Q1.frozen 0
            have q3 := Q1.frozen 1
            have qz := Q1.lt
            clear k0 k1 k2 k3 k4 k5 k6 k7 k8 k9 k10 k11 k12 k13 kz f12 f13
            obtain ⟨⟨k0, k1, k2, k3, k4⟩, k5, k6, k7, k8, k9, k10, k11, k12, k13⟩ := rv_cells l1.1
            have kz := l1.1.lt
            have f8 := l1.1.frozen 8
            have f9 := l1.1.frozen 9
            have f10 := l1.1.frozen 10
            have HL := Lib.hid l1.1
            have HG := Lib.hid G1
            clear l1 G1 Q1
            go_wp2_with fail
            exact bodyPost_ret (v := .tuple #[.agg #[.int .i64 0, .int .i64 0], .int .i64 0]) (by simp [results, Tryd.results19, go_sem, q0, q1, q2, q3, qz, kz, hnb, hnb']) rfl ⟨⟨X.x, 0, 0⟩, rfl, rupd_wait HL.out HG.out hnb _ _, HX.out⟩
          | false =>
            rw [eW, hw] at LG
            replace HM := HM
            obtain ⟨e1, e2⟩ := Pl.up_b hE hw hb
            rw [e1, e2]
            obtain ⟨z1, z2, z3⟩ := lg_act (o := o) (po := po) hX hi ⟨a1, a2⟩ hw
            have SS := Lib.hid (lg_same (o := o) (po := po) hX hi hw)
            have eS : rlgS c s ⟨X.x, 0, 0⟩ t o (Pl.mu s t) = rlgS c s X t o (Pl.mu s t) := rfl
            obtain ⟨X1, hX1⟩ : ∃ Z, (rlgX c s ⟨X.x, 0, 0⟩ t o (Pl.mu s t)) = Z := ⟨_, rfl⟩
            obtain ⟨S1, hS1⟩ : ∃ Z, (rlgS c s ⟨X.x, 0, 0⟩ t o (Pl.mu s t)) = Z := ⟨_, rfl⟩
            obtain ⟨F, hF⟩ : ∃ Z, (Pl.lgS c s t o (Pl.mu s t)).upd t po = Z := ⟨_, rfl⟩
            rw [hX1, hS1] at LG
            rw [hX1] at z1 z2 z3
            rw [hF] at z3 ⊢
            replace SS : Hid (∀ Z, rvA c (S1.upd t po) Z = rvA c F Z) := Lib.hid (fun Z => by rw [← hS1, ← hF]; exact SS.out Z)
            rw [← z2, ← z1]
            rw [hm] at LG
            have Z3 := Lib.hid z3
            replace LG : ∀ W, Blk W b 50 (rvA c s ⟨X.x, 0, 0⟩) → Calls Tryd.prog 29 #[.pointer (some ⟨b, 0, none⟩), .int .i64 t, .int .i64 o, .int .i64 m] W fun e w' => e = .returned (.bool true) ∧ LeftR b c S1 X1 W w' := LG
            replace LG := Lib.hid LG
            clear z1 z2 z3 hX1 hS1 hF eS
            clear hk hc hi hX ha hE hmu hst0 hst1 SM eW HM hw e1 e2 HI HA
            subst hm0
            clear hm hb
            rw [hn] at k8
            go_enter Tryd.func19, Tryd.ntmps19
            go_wp2_with fail
            refine (LG.out _ (by first | exact ((HK.out.set_ 12 (.int .i64 0)).set_ 13 (.int .i64 0)).alloc _ | exact ((HK.out.alloc _).set_ 12 (.int .i64 0)).set_ 13 (.int .i64 0))).mono ?_
            rintro _ w1 ⟨rfl, l1⟩
            have G1 : w.grownBy w1 (some b) := only_trans (by first | exact only_alloc (only_setCell (only_setCell (only_refl w (some b)) (p := ⟨b, 12, none⟩) (.inl rfl) _) (p := ⟨b, 13, none⟩) (.inl rfl) _) _ | exact only_setCell (only_setCell (only_alloc (only_refl w (some b)) _) (p := ⟨b, 12, none⟩) (.inl rfl) _) (p := ⟨b, 13, none⟩) (.inl rfl) _) l1.2
            have Q1 : Blk w1 w.heap.size 38 #[.int .i64 0, .int .i64 0] := Blk.grown (by first | exact blk_new2 w _ _ _ _ _ _ | exact ((Blk.new w 38 #[.int .i64 0, .int .i64 0]).far (p := ⟨b, 12, none⟩) hnb _).far (p := ⟨b, 13, none⟩) hnb _) l1.2 (fun e => by injection e with e; exact hnb e)
            have q0 : w1.cell? ⟨w.heap.size, 0, none⟩ = some (.int .i64 0) := Q1.cell 0
            have q1 : w1.cell? ⟨w.heap.size, 1, none⟩ = some (.int .i64 0) := Q1.cell 1
            have q2 := Q1.frozen 0
            have q3 := Q1.frozen 1
            have qz := Q1.lt
            clear k0 k1 k2 k3 k4 k5 k6 k7 k8 k9 k10 k11 k12 k13 kz f12 f13
            obtain ⟨⟨k0, k1, k2, k3, k4⟩, k5, k6, k7, k8, k9, k10, k11, k12, k13⟩ := rv_cells l1.1
            have kz := l1.1.lt
            have f8 := l1.1.frozen 8
            have f9 := l1.1.frozen 9
            have f10 := l1.1.frozen 10
            have HL := Lib.hid l1.1
            have HG := Lib.hid G1
            clear l1 G1 Q1
            go_wp2_with fail
            exact bodyPost_ret (v := .tuple #[.agg #[.int .i64 X1.k, .int .i64 X1.v], .int .i64 0]) (by simp [results, Tryd.results19, go_sem, q0, q1, q2, q3, qz, kz, hnb, hnb']) rfl ⟨X1, rfl, (by have q := rupd_end HL.out HG.out hnb t po (.int .i64 X1.k) (.int .i64 X1.v); exact ⟨(SS.out X1) ▸ q.1, q.2⟩), Z3.out⟩
        · cases hw : Pl.waits c s t with
          | true =>
            rw [eW, hw] at LG
            replace HM := HM
            obtain ⟨e1, e2⟩ := Pl.up_w hE hw
            rw [e1, e2]
            obtain ⟨v1, v2⟩ := Pl.waits_yes hw
            unfold rlgS rlgX at LG
            simp only [if_pos v1, if_neg (show ¬ s.st = 0 by omega), if_pos v2] at LG
            rw [hm] at LG
            replace LG : ∀ W, Blk W b 50 (rvA c s ⟨X.x, 0, 0⟩) → Calls Tryd.prog 29 #[.pointer (some ⟨b, 0, none⟩), .int .i64 t, .int .i64 o, .int .i64 m] W fun e w' => e = .returned (.bool false) ∧ LeftR b c s ⟨X.x, 0, 0⟩ W w' := LG
            replace LG := Lib.hid LG
            clear hk hc hi hX ha hE hmu hst0 hst1 SM eW HM hw e1 e2 v1 v2 HI HA
            subst hm0
            clear hm hb
            rw [hn] at k8
            go_enter Tryd.func19, Tryd.ntmps19
            go_wp2_with fail
            refine (LG.out _ (by first | exact ((HK.out.set_ 12 (.int .i64 0)).set_ 13 (.int .i64 0)).alloc _ | exact ((HK.out.alloc _).set_ 12 (.int .i64 0)).set_ 13 (.int .i64 0))).mono ?_
            rintro _ w1 ⟨rfl, l1⟩
            have G1 : w.grownBy w1 (some b) := only_trans (by first | exact only_alloc (only_setCell (only_setCell (only_refl w (some b)) (p := ⟨b, 12, none⟩) (.inl rfl) _) (p := ⟨b, 13, none⟩) (.inl rfl) _) _ | exact only_setCell (only_setCell (only_alloc (only_refl w (some b)) _) (p := ⟨b, 12, none⟩) (.inl rfl) _) (p := ⟨b, 13, none⟩) (.inl rfl) _) l1.2
            have Q1 : Blk w1 w.heap.size 38 #[.int .i64 0, .int .i64 0] := Blk.grown (by first | exact blk_new2 w _ _ _ _ _ _ | exact ((Blk.new w 38 #[.int .i64 0, .int .i64 0]).far (p := ⟨b, 12, none⟩) hnb _).far (p := ⟨b, 13, none⟩) hnb _) l1.2 (fun e => by injection e with e; exact hnb e)
            have q0 : w1.cell? ⟨w.heap.size, 0, none⟩ = some (.int .i64 0) := Q1.cell 0
            have q1 : w1.cell? ⟨w.heap.size, 1, none⟩ = some (.int .i64 0) := Q1.cell 1
            have q2 := Q1.frozen 0
            have q3 := Q1.frozen 1
            have qz := Q1.lt
            clear k0 k1 k2 k3 k4 k5 k6 k7 k8 k9 k10 k11 k12 k13 kz f12 f13
            obtain ⟨⟨k0, k1, k2, k3, k4⟩, k5, k6, k7, k8, k9, k10, k11, k12, k13⟩ := rv_cells l1.1
            have kz := l1.1.lt
            have f8 := l1.1.frozen 8
            have f9 := l1.1.frozen 9
            have f10 := l1.1.frozen 10
            have HL := Lib.hid l1.1
            have HG := Lib.hid G1
            clear l1 G1 Q1
            go_wp2_with fail
            exact bodyPost_ret (v := .tuple #[.agg #[.int .i64 0, .int .i64 0], .int .i64 0]) (by simp [results, Tryd.results19, go_sem, q0, q1, q2, q3, qz, kz, hnb, hnb']) rfl ⟨⟨X.x, 0, 0⟩, rfl, rupd_wait HL.out HG.out hnb _ _, HX.out⟩
          | false =>
            rw [eW, hw] at LG
            replace HM := HM
            obtain ⟨e1, e2⟩ := Pl.up_b hE hw hb
            rw [e1, e2]
            obtain ⟨z1, z2, z3⟩ := lg_act (o := o) (po := po) hX hi ⟨a1, a2⟩ hw
            have SS := Lib.hid (lg_same (o := o) (po := po) hX hi hw)
            have eS : rlgS c s ⟨X.x, 0, 0⟩ t o (Pl.mu s t) = rlgS c s X t o (Pl.mu s t) := rfl
            obtain ⟨X1, hX1⟩ : ∃ Z, (rlgX c s ⟨X.x, 0, 0⟩ t o (Pl.mu s t)) = Z := ⟨_, rfl⟩
            obtain ⟨S1, hS1⟩ : ∃ Z, (rlgS c s ⟨X.x, 0, 0⟩ t o (Pl.mu s t)) = Z := ⟨_, rfl⟩
            obtain ⟨F, hF⟩ : ∃ Z, (Pl.lgS c s t o (Pl.mu s t)).upd t po = Z := ⟨_, rfl⟩
            rw [hX1, hS1] at LG
            rw [hX1] at z1 z2 z3
            rw [hF] at z3 ⊢
            replace SS : Hid (∀ Z, rvA c (S1.upd t po) Z = rvA c F Z) := Lib.hid (fun Z => by rw [← hS1, ← hF]; exact SS.out Z)
            rw [← z2, ← z1]
            rw [hm] at LG
            have Z3 := Lib.hid z3
            replace LG : ∀ W, Blk W b 50 (rvA c s ⟨X.x, 0, 0⟩) → Calls Tryd.prog 29 #[.pointer (some ⟨b, 0, none⟩), .int .i64 t, .int .i64 o, .int .i64 m] W fun e w' => e = .returned (.bool true) ∧ LeftR b c S1 X1 W w' := LG
            replace LG := Lib.hid LG
            clear z1 z2 z3 hX1 hS1 hF eS
            clear hk hc hi hX ha hE hmu hst0 hst1 SM eW HM hw e1 e2 HI HA
            subst hm0
            clear hm hb
            rw [hn] at k8
            go_enter Tryd.func19, Tryd.ntmps19
            go_wp2_with fail
            refine (LG.out _ (by first | exact ((HK.out.set_ 12 (.int .i64 0)).set_ 13 (.int .i64 0)).alloc _ | exact ((HK.out.alloc _).set_ 12 (.int .i64 0)).set_ 13 (.int .i64 0))).mono ?_
            rintro _ w1 ⟨rfl, l1⟩
            have G1 : w.grownBy w1 (some b) := only_trans (by first | exact only_alloc (only_setCell (only_setCell (only_refl w (some b)) (p := ⟨b, 12, none⟩) (.inl rfl) _) (p := ⟨b, 13, none⟩) (.inl rfl) _) _ | exact only_setCell (only_setCell (only_alloc (only_refl w (some b)) _) (p := ⟨b, 12, none⟩) (.inl rfl) _) (p := ⟨b, 13, none⟩) (.inl rfl) _) l1.2
            have Q1 : Blk w1 w.heap.size 38 #[.int .i64 0, .int .i64 0] := Blk.grown (by first | exact blk_new2 w _ _ _ _ _ _ | exact ((Blk.new w 38 #[.int .i64 0, .int .i64 0]).far (p := ⟨b, 12, none⟩) hnb _).far (p := ⟨b, 13, none⟩) hnb _) l1.2 (fun e => by injection e with e; exact hnb e)
            have q0 : w1.cell? ⟨w.heap.size, 0, none⟩ = some (.int .i64 0) := Q1.cell 0
            have q1 : w1.cell? ⟨w.heap.size, 1, none⟩ = some (.int .i64 0) := Q1.cell 1
            have q2 := Q1.frozen 0
            have q3 := Q1.frozen 1
            have qz := Q1.lt
            clear k0 k1 k2 k3 k4 k5 k6 k7 k8 k9 k10 k11 k12 k13 kz f12 f13
            obtain ⟨⟨k0, k1, k2, k3, k4⟩, k5, k6, k7, k8, k9, k10, k11, k12, k13⟩ := rv_cells l1.1
            have kz := l1.1.lt
            have f8 := l1.1.frozen 8
            have f9 := l1.1.frozen 9
            have f10 := l1.1.frozen 10
            have HL := Lib.hid l1.1
            have HG := Lib.hid G1
            clear l1 G1 Q1
            go_wp2_with fail
            exact bodyPost_ret (v := .tuple #[.agg #[.int .i64 X1.k, .int .i64 X1.v], .int .i64 0]) (by simp [results, Tryd.results19, go_sem, q0, q1, q2, q3, qz, kz, hnb, hnb']) rfl ⟨X1, rfl, (by have q := rupd_end HL.out HG.out hnb t po (.int .i64 X1.k) (.int .i64 X1.v); exact ⟨(SS.out X1) ▸ q.1, q.2⟩), Z3.out⟩
        · cases hw : Pl.waits c s t with
          | true =>
            rw [eW, hw] at SM
            replace HM := HM
            obtain ⟨e1, e2⟩ := Pl.up_w hE hw
            rw [e1, e2]
            obtain ⟨v1, v2⟩ := Pl.waits_yes hw
            unfold rsmX rsmS at SM
            simp only [if_pos v1, if_neg (show ¬ s.st = 0 by omega), if_pos v2, if_pos (And.intro v1 v2)] at SM
            rw [hm] at SM
            replace SM : ∀ W, Blk W b 50 (rvA c s ⟨X.x, 0, 0⟩) → Calls Tryd.prog 30 #[.pointer (some ⟨b, 0, none⟩), .int .i64 o, .int .i64 m, .int .i64 po] W fun e w' => e = .returned (.bool false) ∧ LeftR b c s ⟨X.x, 0, 0⟩ W w' := SM
            replace SM := Lib.hid SM
            clear hk hc hi hX ha hE hmu hst0 hst1 LG eW HM hw e1 e2 v1 v2 HI HA
            subst hm0
            clear hm hb
            rw [hn] at k8
            go_enter Tryd.func19, Tryd.ntmps19
            go_wp2_with fail
            refine (SM.out _ (by first | exact ((HK.out.set_ 12 (.int .i64 0)).set_ 13 (.int .i64 0)).alloc _ | exact ((HK.out.alloc _).set_ 12 (.int .i64 0)).set_ 13 (.int .i64 0))).mono ?_
            rintro _ w1 ⟨rfl, l1⟩
            have G1 : w.grownBy w1 (some b) := only_trans (by first | exact only_alloc (only_setCell (only_setCell (only_refl w (some b)) (p := ⟨b, 12, none⟩) (.inl rfl) _) (p := ⟨b, 13, none⟩) (.inl rfl) _) _ | exact only_setCell (only_setCell (only_alloc (only_refl w (some b)) _) (p := ⟨b, 12, none⟩) (.inl rfl) _) (p := ⟨b, 13, none⟩) (.inl rfl) _) l1.2
            have Q1 : Blk w1 w.heap.size 38 #[.int .i64 0, .int .i64 0] := Blk.grown (by first | exact blk_new2 w _ _ _ _ _ _ | exact ((Blk.new w 38 #[.int .i64 0, .int .i64 0]).far (p := ⟨b, 12, none⟩) hnb _).far (p := ⟨b, 13, none⟩) hnb _) l1.2 (fun e => by injection e with e; exact hnb e)
            have q0 : w1.cell? ⟨w.heap.size, 0, none⟩ = some (.int .i64 0) := Q1.cell 0
            have q1 : w1.cell? ⟨w.heap.size, 1, none⟩ = some (.int .i64 0) := Q1.cell 1
            have q2 := Q1.frozen 0
            have q3 := Q1.frozen 1
            have qz := Q1.lt
            clear k0 k1 k2 k3 k4 k5 k6 k7 k8 k9 k10 k11 k12 k13 kz f12 f13
            obtain ⟨⟨k0, k1, k2, k3, k4⟩, k5, k6, k7, k8, k9, k10, k11, k12, k13⟩ := rv_cells l1.1
            have kz := l1.1.lt
            have f8 := l1.1.frozen 8
            have f9 := l1.1.frozen 9
            have f10 := l1.1.frozen 10
            have HL := Lib.hid l1.1
            have HG := Lib.hid G1
            clear l1 G1 Q1
            go_wp2_with fail
            exact bodyPost_ret (v := .tuple #[.agg #[.int .i64 0, .int .i64 0], .int .i64 0]) (by simp [results, Tryd.results19, go_sem, q0, q1, q2, q3, qz, kz, hnb, hnb']) rfl ⟨⟨X.x, 0, 0⟩, rfl, rupd_wait HL.out HG.out hnb _ _, HX.out⟩
          | false =>
            rw [eW, hw] at SM
            replace HM := HM
            obtain ⟨e1, e2⟩ := Pl.up_s hE hw hb
            rw [e1, e2]
            obtain ⟨z1, z2, z3⟩ := sm_act (o := o) (po := po) hX hw
            have SS := Lib.hid (sm_same (c := c) (s := s) (t := t) (o := o) (po := po) hw)
            obtain ⟨X1, hX1⟩ : ∃ Z, (rsmX c s ⟨X.x, 0, 0⟩ o (Pl.mu s t) po) = Z := ⟨_, rfl⟩
            obtain ⟨S1, hS1⟩ : ∃ Z, (rsmS c s o (Pl.mu s t) po) = Z := ⟨_, rfl⟩
            obtain ⟨F, hF⟩ : ∃ Z, (Pl.smS c s o (Pl.mu s t) po).upd t po = Z := ⟨_, rfl⟩
            rw [hX1, hS1] at SM
            rw [hX1] at z1 z2 z3
            rw [hF] at z3 ⊢
            replace SS : Hid (∀ Z, rvA c (S1.upd t po) Z = rvA c F Z) := Lib.hid (fun Z => by rw [← hS1, ← hF]; exact SS.out Z)
            rw [← z2, ← z1]
            rw [hm] at SM
            have Z3 := Lib.hid z3
            replace SM : ∀ W, Blk W b 50 (rvA c s ⟨X.x, 0, 0⟩) → Calls Tryd.prog 30 #[.pointer (some ⟨b, 0, none⟩), .int .i64 o, .int .i64 m, .int .i64 po] W fun e w' => e = .returned (.bool true) ∧ LeftR b c S1 X1 W w' := SM
            replace SM := Lib.hid SM
            clear z1 z2 z3 hX1 hS1 hF
            clear hk hc hi hX ha hE hmu hst0 hst1 LG eW HM hw e1 e2 HI HA
            subst hm0
            clear hm hb
            rw [hn] at k8
            go_enter Tryd.func19, Tryd.ntmps19
            go_wp2_with fail
            refine (SM.out _ (by first | exact ((HK.out.set_ 12 (.int .i64 0)).set_ 13 (.int .i64 0)).alloc _ | exact ((HK.out.alloc _).set_ 12 (.int .i64 0)).set_ 13 (.int .i64 0))).mono ?_
            rintro _ w1 ⟨rfl, l1⟩
            have G1 : w.grownBy w1 (some b) := only_trans (by first | exact only_alloc (only_setCell (only_setCell (only_refl w (some b)) (p := ⟨b, 12, none⟩) (.inl rfl) _) (p := ⟨b, 13, none⟩) (.inl rfl) _) _ | exact only_setCell (only_setCell (only_alloc (only_refl w (some b)) _) (p := ⟨b, 12, none⟩) (.inl rfl) _) (p := ⟨b, 13, none⟩) (.inl rfl) _) l1.2
            have Q1 : Blk w1 w.heap.size 38 #[.int .i64 0, .int .i64 0] := Blk.grown (by first | exact blk_new2 w _ _ _ _ _ _ | exact ((Blk.new w 38 #[.int .i64 0, .int .i64 0]).far (p := ⟨b, 12, none⟩) hnb _).far (p := ⟨b, 13, none⟩) hnb _) l1.2 (fun e => by injection e with e; exact hnb e)
            have q0 : w1.cell? ⟨w.heap.size, 0, none⟩ = some (.int .i64 0) := Q1.cell 0
            have q1 : w1.cell? ⟨w.heap.size, 1, none⟩ = some (.int .i64 0) := Q1.cell 1
            have q2 := Q1.frozen 0
            have q3 := Q1.frozen 1
            have qz := Q1.lt
            clear k0 k1 k2 k3 k4 k5 k6 k7 k8 k9 k10 k11 k12 k13 kz f12 f13
            obtain ⟨⟨k0, k1, k2, k3, k4⟩, k5, k6, k7, k8, k9, k10, k11, k12, k13⟩ := rv_cells l1.1
            have kz := l1.1.lt
            have f8 := l1.1.frozen 8
            have f9 := l1.1.frozen 9
            have f10 := l1.1.frozen 10
            have HL := Lib.hid l1.1
            have HG := Lib.hid G1
            clear l1 G1 Q1
            go_wp2_with fail
            exact bodyPost_ret (v := .tuple #[.agg #[.int .i64 X1.k, .int .i64 X1.v], .int .i64 0]) (by simp [results, Tryd.results19, go_sem, q0, q1, q2, q3, qz, kz, hnb, hnb']) rfl ⟨X1, rfl, (by have q := rupd_end HL.out HG.out hnb t po (.int .i64 X1.k) (.int .i64 X1.v); exact ⟨(SS.out X1) ▸ q.1, q.2⟩), Z3.out⟩
      · have hbb : (decide (c.sa ≤ o) = true ∧ Pl.big c o = true) ∨ (decide (c.sa ≤ o) = false ∧ decide (o ≤ -c.sa) = true ∧ Pl.big c o = true) ∨ (decide (c.sa ≤ o) = false ∧ decide (o ≤ -c.sa) = false ∧ Pl.big c o = false) := by
          by_cases q : c.sa ≤ o
          · exact .inl ⟨by simp [q], Pl.big_iff.2 (.inl q)⟩
          · by_cases q2 : o ≤ -c.sa
            · exact .inr (.inl ⟨by simp; omega, by simp [q2], Pl.big_iff.2 (.inr q2)⟩)
            · exact .inr (.inr ⟨by simp; omega, by simp; omega, Pl.big_no.2 (by omega)⟩)
        rcases hbb with ⟨g1, hb⟩ | ⟨g1, g2, hb⟩ | ⟨g1, g2, hb⟩
        · cases hw : Pl.waits c s t with
          | true =>
            rw [eW, hw] at LG
            replace HM := HM
            obtain ⟨e1, e2⟩ := Pl.up_w hE hw
            rw [e1, e2]
            obtain ⟨v1, v2⟩ := Pl.waits_yes hw
            unfold rlgS rlgX at LG
            simp only [if_pos v1, if_neg (show ¬ s.st = 0 by omega), if_pos v2] at LG
            rw [hm] at LG
            replace LG : ∀ W, Blk W b 50 (rvA c s ⟨X.x, 0, 0⟩) → Calls Tryd.prog 29 #[.pointer (some ⟨b, 0, none⟩), .int .i64 t, .int .i64 o, .int .i64 m] W fun e w' => e = .returned (.bool false) ∧ LeftR b c s ⟨X.x, 0, 0⟩ W w' := LG
            replace LG := Lib.hid LG
            clear hk hc hi hX ha hE hmu hst0 hst1 SM eW HM hw e1 e2 v1 v2 HI HA
            clear hm hb
            rw [hn] at k8
            go_enter Tryd.func19, Tryd.ntmps19
            go_wp2_with fail
            refine (LG.out _ (by first | exact ((HK.out.set_ 12 (.int .i64 0)).set_ 13 (.int .i64 0)).alloc _ | exact ((HK.out.alloc _).set_ 12 (.int .i64 0)).set_ 13 (.int .i64 0))).mono ?_
            rintro _ w1 ⟨rfl, l1⟩
            have G1 : w.grownBy w1 (some b) := only_trans (by first | exact only_alloc (only_setCell (only_setCell (only_refl w (some b)) (p := ⟨b, 12, none⟩) (.inl rfl) _) (p := ⟨b, 13, none⟩) (.inl rfl) _) _ | exact only_setCell (only_setCell (only_alloc (only_refl w (some b)) _) (p := ⟨b, 12, none⟩) (.inl rfl) _) (p := ⟨b, 13, none⟩) (.inl rfl) _) l1.2
            have Q1 : Blk w1 w.heap.size 38 #[.int .i64 0, .int .i64 0] := Blk.grown (by first | exact blk_new2 w _ _ _ _ _ _ | exact ((Blk.new w 38 #[.int .i64 0, .int .i64 0]).far (p := ⟨b, 12, none⟩) hnb _).far (p := ⟨b, 13, none⟩) hnb _) l1.2 (fun e => by injection e with e; exact hnb e)
            have q0 : w1.cell? ⟨w.heap.size, 0, none⟩ = some (.int .i64 0) := Q1.cell 0
            have q1 : w1.cell? ⟨w.heap.size, 1, none⟩ = some (.int .i64 0) := Q1.cell 1
            have q2 := Q1.frozen 0
            have q3 := Q1.frozen 1
            have qz := Q1.lt
            clear k0 k1 k2 k3 k4 k5 k6 k7 k8 k9 k10 k11 k12 k13 kz f12 f13
            obtain ⟨⟨k0, k1, k2, k3, k4⟩, k5, k6, k7, k8, k9, k10, k11, k12, k13⟩ := rv_cells l1.1
            have kz := l1.1.lt
            have f8 := l1.1.frozen 8
            have f9 := l1.1.frozen 9
            have f10 := l1.1.frozen 10
            have HL := Lib.hid l1.1
            have HG := Lib.hid G1
            clear l1 G1 Q1
            go_wp2_with fail
            exact bodyPost_ret (v := .tuple #[.agg #[.int .i64 0, .int .i64 0], .int .i64 0]) (by simp [results, Tryd.results19, go_sem, q0, q1, q2, q3, qz, kz, hnb, hnb']) rfl ⟨⟨X.x, 0, 0⟩, rfl, rupd_wait HL.out HG.out hnb _ _, HX.out⟩
          | false =>
            rw [eW, hw] at LG
            replace HM := HM
            obtain ⟨e1, e2⟩ := Pl.up_b hE hw hb
            rw [e1, e2]
            obtain ⟨z1, z2, z3⟩ := lg_act (o := o) (po := po) hX hi ⟨a1, a2⟩ hw
            have SS := Lib.hid (lg_same (o := o) (po := po) hX hi hw)
            have eS : rlgS c s ⟨X.x, 0, 0⟩ t o (Pl.mu s t) = rlgS c s X t o (Pl.mu s t) := rfl
            obtain ⟨X1, hX1⟩ : ∃ Z, (rlgX c s ⟨X.x, 0, 0⟩ t o (Pl.mu s t)) = Z := ⟨_, rfl⟩
            obtain ⟨S1, hS1⟩ : ∃ Z, (rlgS c s ⟨X.x, 0, 0⟩ t o (Pl.mu s t)) = Z := ⟨_, rfl⟩
            obtain ⟨F, hF⟩ : ∃ Z, (Pl.lgS c s t o (Pl.mu s t)).upd t po = Z := ⟨_, rfl⟩
            rw [hX1, hS1] at LG
            rw [hX1] at z1 z2 z3
            rw [hF] at z3 ⊢
            replace SS : Hid (∀ Z, rvA c (S1.upd t po) Z = rvA c F Z) := Lib.hid (fun Z => by rw [← hS1, ← hF]; exact SS.out Z)
            rw [← z2, ← z1]
            rw [hm] at LG
            have Z3 := Lib.hid z3
            replace LG : ∀ W, Blk W b 50 (rvA c s ⟨X.x, 0, 0⟩) → Calls Tryd.prog 29 #[.pointer (some ⟨b, 0, none⟩), .int .i64 t, .int .i64 o, .int .i64 m] W fun e w' => e = .returned (.bool true) ∧ LeftR b c S1 X1 W w' := LG
            replace LG := Lib.hid LG
            clear z1 z2 z3 hX1 hS1 hF eS
            clear hk hc hi hX ha hE hmu hst0 hst1 SM eW HM hw e1 e2 HI HA
            clear hm hb
            rw [hn] at k8
            go_enter Tryd.func19, Tryd.ntmps19
            go_wp2_with fail
            refine (LG.out _ (by first | exact ((HK.out.set_ 12 (.int .i64 0)).set_ 13 (.int .i64 0)).alloc _ | exact ((HK.out.alloc _).set_ 12 (.int .i64 0)).set_ 13 (.int .i64 0))).mono ?_
            rintro _ w1 ⟨rfl, l1⟩
            have G1 : w.grownBy w1 (some b) := only_trans (by first | exact only_alloc (only_setCell (only_setCell (only_refl w (some b)) (p := ⟨b, 12, none⟩) (.inl rfl) _) (p := ⟨b, 13, none⟩) (.inl rfl) _) _ | exact only_setCell (only_setCell (only_alloc (only_refl w (some b)) _) (p := ⟨b, 12, none⟩) (.inl rfl) _) (p := ⟨b, 13, none⟩) (.inl rfl) _) l1.2
            have Q1 : Blk w1 w.heap.size 38 #[.int .i64 0, .int .i64 0] := Blk.grown (by first | exact blk_new2 w _ _ _ _ _ _ | exact ((Blk.new w 38 #[.int .i64 0, .int .i64 0]).far (p := ⟨b, 12, none⟩) hnb _).far (p := ⟨b, 13, none⟩) hnb _) l1.2 (fun e => by injection e with e; exact hnb e)
            have q0 : w1.cell? ⟨w.heap.size, 0, none⟩ = some (.int .i64 0) := Q1.cell 0
            have q1 : w1.cell? ⟨w.heap.size, 1, none⟩ = some (.int .i64 0) := Q1.cell 1
            have q2 := Q1.frozen 0
            have q3 := Q1.frozen 1
            have qz := Q1.lt
            clear k0 k1 k2 k3 k4 k5 k6 k7 k8 k9 k10 k11 k12 k13 kz f12 f13
            obtain ⟨⟨k0, k1, k2, k3, k4⟩, k5, k6, k7, k8, k9, k10, k11, k12, k13⟩ := rv_cells l1.1
            have kz := l1.1.lt
            have f8 := l1.1.frozen 8
            have f9 := l1.1.frozen 9
            have f10 := l1.1.frozen 10
            have HL := Lib.hid l1.1
            have HG := Lib.hid G1
            clear l1 G1 Q1
            go_wp2_with fail
            exact bodyPost_ret (v := .tuple #[.agg #[.int .i64 X1.k, .int .i64 X1.v], .int .i64 0]) (by simp [results, Tryd.results19, go_sem, q0, q1, q2, q3, qz, kz, hnb, hnb']) rfl ⟨X1, rfl, (by have q := rupd_end HL.out HG.out hnb t po (.int .i64 X1.k) (.int .i64 X1.v); exact ⟨(SS.out X1) ▸ q.1, q.2⟩), Z3.out⟩
        · cases hw : Pl.waits c s t with
          | true =>
            rw [eW, hw] at LG
            replace HM := HM
            obtain ⟨e1, e2⟩ := Pl.up_w hE hw
            rw [e1, e2]
            obtain ⟨v1, v2⟩ := Pl.waits_yes hw
            unfold rlgS rlgX at LG
            simp only [if_pos v1, if_neg (show ¬ s.st = 0 by omega), if_pos v2] at LG
            rw [hm] at LG
            replace LG : ∀ W, Blk W b 50 (rvA c s ⟨X.x, 0, 0⟩) → Calls Tryd.prog 29 #[.pointer (some ⟨b, 0, none⟩), .int .i64 t, .int .i64 o, .int .i64 m] W fun e w' => e = .returned (.bool false) ∧ LeftR b c s ⟨X.x, 0, 0⟩ W w' := LG
            replace LG := Lib.hid LG
            clear hk hc hi hX ha hE hmu hst0 hst1 SM eW HM hw e1 e2 v1 v2 HI HA
            clear hm hb
            rw [hn] at k8
            go_enter Tryd.func19, Tryd.ntmps19
            go_wp2_with fail
            refine (LG.out _ (by first | exact ((HK.out.set_ 12 (.int .i64 0)).set_ 13 (.int .i64 0)).alloc _ | exact ((HK.out.alloc _).set_ 12 (.int .i64 0)).set_ 13 (.int .i64 0))).mono ?_
            rintro _ w1 ⟨rfl, l1⟩
            have G1 : w.grownBy w1 (some b) := only_trans (by first | exact only_alloc (only_setCell (only_setCell (only_refl w (some b)) (p := ⟨b, 12, none⟩) (.inl rfl) _) (p := ⟨b, 13, none⟩) (.inl rfl) _) _ | exact only_setCell (only_setCell (only_alloc (only_refl w (some b)) _) (p := ⟨b, 12, none⟩) (.inl rfl) _) (p := ⟨b, 13, none⟩) (.inl rfl) _) l1.2
            have Q1 : Blk w1 w.heap.size 38 #[.int .i64 0, .int .i64 0] := Blk.grown (by first | exact blk_new2 w _ _ _ _ _ _ | exact ((Blk.new w 38 #[.int .i64 0, .int .i64 0]).far (p := ⟨b, 12, none⟩) hnb _).far (p := ⟨b, 13, none⟩) hnb _) l1.2 (fun e => by injection e with e; exact hnb e)
            have q0 : w1.cell? ⟨w.heap.size, 0, none⟩ = some (.int .i64 0) := Q1.cell 0
            have q1 : w1.cell? ⟨w.heap.size, 1, none⟩ = some (.int .i64 0) := Q1.cell 1
            have q2 := Q1.frozen 0
            have q3 := Q1.frozen 1
            have qz := Q1.lt
            clear k0 k1 k2 k3 k4 k5 k6 k7 k8 k9 k10 k11 k12 k13 kz f12 f13
            obtain ⟨⟨k0, k1, k2, k3, k4⟩, k5, k6, k7, k8, k9, k10, k11, k12, k13⟩ := rv_cells l1.1
            have kz := l1.1.lt
            have f8 := l1.1.frozen 8
            have f9 := l1.1.frozen 9
            have f10 := l1.1.frozen 10
            have HL := Lib.hid l1.1
            have HG := Lib.hid G1
            clear l1 G1 Q1
            go_wp2_with fail
            exact bodyPost_ret (v := .tuple #[.agg #[.int .i64 0, .int .i64 0], .int .i64 0]) (by simp [results, Tryd.results19, go_sem, q0, q1, q2, q3, qz, kz, hnb, hnb']) rfl ⟨⟨X.x, 0, 0⟩, rfl, rupd_wait HL.out HG.out hnb _ _, HX.out⟩
          | false =>
            rw [eW, hw] at LG
            replace HM := HM
            obtain ⟨e1, e2⟩ := Pl.up_b hE hw hb
            rw [e1, e2]
            obtain ⟨z1, z2, z3⟩ := lg_act (o := o) (po := po) hX hi ⟨a1, a2⟩ hw
            have SS := Lib.hid (lg_same (o := o) (po := po) hX hi hw)
            have eS : rlgS c s ⟨X.x, 0, 0⟩ t o (Pl.mu s t) = rlgS c s X t o (Pl.mu s t) := rfl
            obtain ⟨X1, hX1⟩ : ∃ Z, (rlgX c s ⟨X.x, 0, 0⟩ t o (Pl.mu s t)) = Z := ⟨_, rfl⟩
            obtain ⟨S1, hS1⟩ : ∃ Z, (rlgS c s ⟨X.x, 0, 0⟩ t o (Pl.mu s t)) = Z := ⟨_, rfl⟩
            obtain ⟨F, hF⟩ : ∃ Z, (Pl.lgS c s t o (Pl.mu s t)).upd t po = Z := ⟨_, rfl⟩
            rw [hX1, hS1] at LG
            rw [hX1] at z1 z2 z3
            rw [hF] at z3 ⊢
            replace SS : Hid (∀ Z, rvA c (S1.upd t po) Z = rvA c F Z) := Lib.hid (fun Z => by rw [← hS1, ← hF]; exact SS.out Z)
            rw [← z2, ← z1]
            rw [hm] at LG
            have Z3 := Lib.hid z3
            replace LG : ∀ W, Blk W b 50 (rvA c s ⟨X.x, 0, 0⟩) → Calls Tryd.prog 29 #[.pointer (some ⟨b, 0, none⟩), .int .i64 t, .int .i64 o, .int .i64 m] W fun e w' => e = .returned (.bool true) ∧ LeftR b c S1 X1 W w' := LG
            replace LG := Lib.hid LG
            clear z1 z2 z3 hX1 hS1 hF eS
            clear hk hc hi hX ha hE hmu hst0 hst1 SM eW HM hw e1 e2 HI HA
            clear hm hb
            rw [hn] at k8
            go_enter Tryd.func19, Tryd.ntmps19
            go_wp2_with fail
            refine (LG.out _ (by first | exact ((HK.out.set_ 12 (.int .i64 0)).set_ 13 (.int .i64 0)).alloc _ | exact ((HK.out.alloc _).set_ 12 (.int .i64 0)).set_ 13 (.int .i64 0))).mono ?_
            rintro _ w1 ⟨rfl, l1⟩
            have G1 : w.grownBy w1 (some b) := only_trans (by first | exact only_alloc (only_setCell (only_setCell (only_refl w (some b)) (p := ⟨b, 12, none⟩) (.inl rfl) _) (p := ⟨b, 13, none⟩) (.inl rfl) _) _ | exact only_setCell (only_setCell (only_alloc (only_refl w (some b)) _) (p := ⟨b, 12, none⟩) (.inl rfl) _) (p := ⟨b, 13, none⟩) (.inl rfl) _) l1.2
            have Q1 : Blk w1 w.heap.size 38 #[.int .i64 0, .int .i64 0] := Blk.grown (by first | exact blk_new2 w _ _ _ _ _ _ | exact ((Blk.new w 38 #[.int .i64 0, .int .i64 0]).far (p := ⟨b, 12, none⟩) hnb _).far (p := ⟨b, 13, none⟩) hnb _) l1.2 (fun e => by injection e with e; exact hnb e)
            have q0 : w1.cell? ⟨w.heap.size, 0, none⟩ = some (.int .i64 0) := Q1.cell 0
            have q1 : w1.cell? ⟨w.heap.size, 1, none⟩ = some (.int .i64 0) := Q1.cell 1
            have q2 := Q1.frozen 0
            have q3 := Q1.frozen 1
            have qz := Q1.lt
            clear k0 k1 k2 k3 k4 k5 k6 k7 k8 k9 k10 k11 k12 k13 kz f12 f13
            obtain ⟨⟨k0, k1, k2, k3, k4⟩, k5, k6, k7, k8, k9, k10, k11, k12, k13⟩ := rv_cells l1.1
            have kz := l1.1.lt
            have f8 := l1.1.frozen 8
            have f9 := l1.1.frozen 9
            have f10 := l1.1.frozen 10
            have HL := Lib.hid l1.1
            have HG := Lib.hid G1
            clear l1 G1 Q1
            go_wp2_with fail
            exact bodyPost_ret (v := .tuple #[.agg #[.int .i64 X1.k, .int .i64 X1.v], .int .i64 0]) (by simp [results, Tryd.results19, go_sem, q0, q1, q2, q3, qz, kz, hnb, hnb']) rfl ⟨X1, rfl, (by have q := rupd_end HL.out HG.out hnb t po (.int .i64 X1.k) (.int .i64 X1.v); exact ⟨(SS.out X1) ▸ q.1, q.2⟩), Z3.out⟩
        · cases hw : Pl.waits c s t with
          | true =>
            rw [eW, hw] at SM
            replace HM := HM
            obtain ⟨e1, e2⟩ := Pl.up_w hE hw
            rw [e1, e2]
            obtain ⟨v1, v2⟩ := Pl.waits_yes hw
            unfold rsmX rsmS at SM
            simp only [if_pos v1, if_neg (show ¬ s.st = 0 by omega), if_pos v2, if_pos (And.intro v1 v2)] at SM
            rw [hm] at SM
            replace SM : ∀ W, Blk W b 50 (rvA c s ⟨X.x, 0, 0⟩) → Calls Tryd.prog 30 #[.pointer (some ⟨b, 0, none⟩), .int .i64 o, .int .i64 m, .int .i64 po] W fun e w' => e = .returned (.bool false) ∧ LeftR b c s ⟨X.x, 0, 0⟩ W w' := SM
            replace SM := Lib.hid SM
            clear hk hc hi hX ha hE hmu hst0 hst1 LG eW HM hw e1 e2 v1 v2 HI HA
            clear hm hb
            rw [hn] at k8
            go_enter Tryd.func19, Tryd.ntmps19
            go_wp2_with fail
            refine (SM.out _ (by first | exact ((HK.out.set_ 12 (.int .i64 0)).set_ 13 (.int .i64 0)).alloc _ | exact ((HK.out.alloc _).set_ 12 (.int .i64 0)).set_ 13 (.int .i64 0))).mono ?_
            rintro _ w1 ⟨rfl, l1⟩
            have G1 : w.grownBy w1 (some b) := only_trans (by first | exact only_alloc (only_setCell (only_setCell (only_refl w (some b)) (p := ⟨b, 12, none⟩) (.inl rfl) _) (p := ⟨b, 13, none⟩) (.inl rfl) _) _ | exact only_setCell (only_setCell (only_alloc (only_refl w (some b)) _) (p := ⟨b, 12, none⟩) (.inl rfl) _) (p := ⟨b, 13, none⟩) (.inl rfl) _) l1.2
            have Q1 : Blk w1 w.heap.size 38 #[.int .i64 0, .int .i64 0] := Blk.grown (by first | exact blk_new2 w _ _ _ _ _ _ | exact ((Blk.new w 38 #[.int .i64 0, .int .i64 0]).far (p := ⟨b, 12, none⟩) hnb _).far (p := ⟨b, 13, none⟩) hnb _) l1.2 (fun e => by injection e with e; exact hnb e)
            have q0 : w1.cell? ⟨w.heap.size, 0, none⟩ = some (.int .i64 0) := Q1.cell 0
            have q1 : w1.cell? ⟨w.heap.size, 1, none⟩ = some (.int .i64 0) := Q1.cell 1
            have q2 := Q1.frozen 0
            have q3 := Q1.frozen 1
            have qz := Q1.lt
            clear k0 k1 k2 k3 k4 k5 k6 k7 k8 k9 k10 k11 k12 k13 kz f12 f13
            obtain ⟨⟨k0, k1, k2, k3, k4⟩, k5, k6, k7, k8, k9, k10, k11, k12, k13⟩ := rv_cells l1.1
            have kz := l1.1.lt
            have f8 := l1.1.frozen 8
            have f9 := l1.1.frozen 9
            have f10 := l1.1.frozen 10
            have HL := Lib.hid l1.1
            have HG := Lib.hid G1
            clear l1 G1 Q1
            go_wp2_with fail
            exact bodyPost_ret (v := .tuple #[.agg #[.int .i64 0, .int .i64 0], .int .i64 0]) (by simp [results, Tryd.results19, go_sem, q0, q1, q2, q3, qz, kz, hnb, hnb']) rfl ⟨⟨X.x, 0, 0⟩, rfl, rupd_wait HL.out HG.out hnb _ _, HX.out⟩
          | false =>
            rw [eW, hw] at SM
            replace HM := HM
            obtain ⟨e1, e2⟩ := Pl.up_s hE hw hb
            rw [e1, e2]
            obtain ⟨z1, z2, z3⟩ := sm_act (o := o) (po := po) hX hw
            have SS := Lib.hid (sm_same (c := c) (s := s) (t := t) (o := o) (po := po) hw)
            obtain ⟨X1, hX1⟩ : ∃ Z, (rsmX c s ⟨X.x, 0, 0⟩ o (Pl.mu s t) po) = Z := ⟨_, rfl⟩
            obtain ⟨S1, hS1⟩ : ∃ Z, (rsmS c s o (Pl.mu s t) po) = Z := ⟨_, rfl⟩
            obtain ⟨F, hF⟩ : ∃ Z, (Pl.smS c s o (Pl.mu s t) po).upd t po = Z := ⟨_, rfl⟩
            rw [hX1, hS1] at SM
            rw [hX1] at z1 z2 z3
            rw [hF] at z3 ⊢
            replace SS : Hid (∀ Z, rvA c (S1.upd t po) Z = rvA c F Z) := Lib.hid (fun Z => by rw [← hS1, ← hF]; exact SS.out Z)
            rw [← z2, ← z1]
            rw [hm] at SM
            have Z3 := Lib.hid z3
            replace SM : ∀ W, Blk W b 50 (rvA c s ⟨X.x, 0, 0⟩) → Calls Tryd.prog 30 #[.pointer (some ⟨b, 0, none⟩), .int .i64 o, .int .i64 m, .int .i64 po] W fun e w' => e = .returned (.bool true) ∧ LeftR b c S1 X1 W w' := SM
            replace SM := Lib.hid SM
            clear z1 z2 z3 hX1 hS1 hF
            clear hk hc hi hX ha hE hmu hst0 hst1 LG eW HM hw e1 e2 HI HA
            clear hm hb
            rw [hn] at k8
            go_enter Tryd.func19, Tryd.ntmps19
            go_wp2_with fail
            refine (SM.out _ (by first | exact ((HK.out.set_ 12 (.int .i64 0)).set_ 13 (.int .i64 0)).alloc _ | exact ((HK.out.alloc _).set_ 12 (.int .i64 0)).set_ 13 (.int .i64 0))).mono ?_
            rintro _ w1 ⟨rfl, l1⟩
            have G1 : w.grownBy w1 (some b) := only_trans (by first | exact only_alloc (only_setCell (only_setCell (only_refl w (some b)) (p := ⟨b, 12, none⟩) (.inl rfl) _) (p := ⟨b, 13, none⟩) (.inl rfl) _) _ | exact only_setCell (only_setCell (only_alloc (only_refl w (some b)) _) (p := ⟨b, 12, none⟩) (.inl rfl) _) (p := ⟨b, 13, none⟩) (.inl rfl) _) l1.2
            have Q1 : Blk w1 w.heap.size 38 #[.int .i64 0, .int .i64 0] := Blk.grown (by first | exact blk_new2 w _ _ _ _ _ _ | exact ((Blk.new w 38 #[.int .i64 0, .int .i64 0]).far (p := ⟨b, 12, none⟩) hnb _).far (p := ⟨b, 13, none⟩) hnb _) l1.2 (fun e => by injection e with e; exact hnb e)
            have q0 : w1.cell? ⟨w.heap.size, 0, none⟩ = some (.int .i64 0) := Q1.cell 0
            have q1 : w1.cell? ⟨w.heap.size, 1, none⟩ = some (.int .i64 0) := Q1.cell 1
            have q2 := Q1.frozen 0
            have q3 := Q1.frozen 1
            have qz := Q1.lt
            clear k0 k1 k2 k3 k4 k5 k6 k7 k8 k9 k10 k11 k12 k13 kz f12 f13
            obtain ⟨⟨k0, k1, k2, k3, k4⟩, k5, k6, k7, k8, k9, k10, k11, k12, k13⟩ := rv_cells l1.1
            have kz := l1.1.lt
            have f8 := l1.1.frozen 8
            have f9 := l1.1.frozen 9
            have f10 := l1.1.frozen 10
            have HL := Lib.hid l1.1
            have HG := Lib.hid G1
            clear l1 G1 Q1
            go_wp2_with fail
            exact bodyPost_ret (v := .tuple #[.agg #[.int .i64 X1.k, .int .i64 X1.v], .int .i64 0]) (by simp [results, Tryd.results19, go_sem, q0, q1, q2, q3, qz, kz, hnb, hnb']) rfl ⟨X1, rfl, (by have q := rupd_end HL.out HG.out hnb t po (.int .i64 X1.k) (.int .i64 X1.v); exact ⟨(SS.out X1) ▸ q.1, q.2⟩), Z3.out⟩
    · have hu : s.kn = true ∧ t ≤ s.at_ := by
        unfold Pl.upE at hE
        rw [if_pos ha] at hE
        by_cases q : s.kn = true ∧ t ≤ s.at_
        · exact q
        · rw [if_neg q] at hE; exact absurd rfl hE
      have hu2 : Pl.upE c s t o po = 12 := by unfold Pl.upE; rw [if_pos ha, if_pos hu]
      obtain ⟨e1, e2⟩ := Pl.up_e hE
      rw [e1, e2, hu2]
      have dt : decide (t ≤ s.at_) = true := by simp [hu.2]
      rw [hu.1] at k8
      have HX := Lib.hid hX
      clear hk hc hi hX ha hE hu hu2 e1 e2
      go_enter Tryd.func19, Tryd.ntmps19
      go_wp2_with fail
      exact bodyPost_ret (v := .tuple #[.agg #[.int .i64 0, .int .i64 0], .int .i64 12]) (by simp [results, Tryd.results19, go_sem]) rfl ⟨X, rfl, (leftR_refl HK.out).alloc _, HX.out⟩
  · have hu2 : Pl.upE c s t o po = 3 := by unfold Pl.upE; rw [if_neg ha]
    obtain ⟨e1, e2⟩ := Pl.up_e (c := c) (s := s) (t := t) (o := o) (po := po) (by rw [hu2]; omega)
    rw [e1, e2, hu2]
    have HX := Lib.hid hX
    have hn : ¬ ((0 ≤ t ∧ t ≤ 1073741824) ∧ (-1125899906842624 ≤ o ∧ o ≤ 1125899906842624) ∧ (c.lo ≤ po ∧ po ≤ c.hi)) := fun h => ha (Pl.args_iff.2 h)
    clear hk hc hi hX ha hu2 e1 e2 hok
    go_enter Tryd.func19, Tryd.ntmps19
    go_wp2_with fail
    all_goals first
      | exact bodyPost_ret (v := .tuple #[.agg #[.int .i64 0, .int .i64 0], .int .i64 3]) (by simp [results, Tryd.results19, go_sem]) rfl ⟨X, rfl, (leftR_refl HK.out).alloc _, HX.out⟩
      | (exfalso; omega)
end Go.Proofs.YtdjfbghdnkjdoaaDoor
