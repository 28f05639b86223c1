/- The contract of Follow. -/
import Derived.Test.YtmdfbcabpmadgaaP2p3
namespace Go.Proofs.Ytmdfbcabpmadgaa
namespace Pl
def mineF (x : XS) (p : PM) (ck po : Int) : Bool := x.wt && (p.sq == x.asq) && (p.ck == x.ac) && (p.po == x.ap) && (p.rc == ck) && (p.rp == po)
def folE (x : XS) (p : PM) (ck po : Int) : Int := if comE p 10 x.dom = 0 then (if mineF x p ck po = true then (if insB p = true then 0 else 3) else 11) else comE p 10 x.dom
def halfN (x : XS) (p : PM) : Int := ((x.a4 - x.a1) - (insN p - x.a2) - sat x.aco p.co / 65536) / 2
def XS.clr (x : XS) : XS := ⟨x.dom, x.pend, x.seq, x.t1, false, 0, 0, 0, 0, 0, 0, 0, x.cnt, x.dl, x.f1, x.f2, x.l1, x.l2⟩
def XS.put (x : XS) (k : Nat) (v : Int) : XS := ⟨x.dom, x.pend, x.seq, x.t1, x.wt, x.ac, x.ap, x.asq, x.aco, x.a1, x.a2, x.a4, x.cnt, (fun i => if i = k then v else x.dl i), x.f1, x.f2, x.l1, x.l2⟩
def XS.end_ (x : XS) (t4 t3 : Int) : XS := ⟨x.dom, x.pend, x.seq, x.t1, x.wt, x.ac, x.ap, x.asq, x.aco, x.a1, x.a2, x.a4, (x.cnt + 1), x.dl, (if x.cnt = 0 then t3 else x.f1), (if x.cnt = 0 then t4 else x.f2), t3, t4⟩
def slot (x : XS) : Nat := (x.cnt % 8).toNat
def XS.fol (x : XS) (p : PM) : XS := ((x.clr.put (slot x) (max 0 (halfN x p))).end_ x.a4 (insN p))
def folX (x : XS) (p : PM) (ck po : Int) : XS := if folE x p ck po = 0 then x.fol p else x
structure XOk (x : XS) : Prop where
  aco : -9223372036854775808 ≤ x.aco ∧ x.aco ≤ 9223372036854775807
  t1 : -4503599627370496 ≤ x.t1 ∧ x.t1 ≤ 4503599627370496
  a1 : -4503599627370496 ≤ x.a1 ∧ x.a1 ≤ 4503599627370496
  a2 : -4503599627370496 ≤ x.a2 ∧ x.a2 ≤ 4503599627370496
  a4 : -4503599627370496 ≤ x.a4 ∧ x.a4 ≤ 4503599627370496
  cnt : 0 ≤ x.cnt ∧ x.cnt ≤ 1000000000000
  dl : ∀ i, 0 ≤ x.dl i ∧ x.dl i ≤ 18014398509481984
  f1 : -4503599627370496 ≤ x.f1 ∧ x.f1 ≤ 4503599627370496
  f2 : -4503599627370496 ≤ x.f2 ∧ x.f2 ≤ 4503599627370496
  l1 : -4503599627370496 ≤ x.l1 ∧ x.l1 ≤ 4503599627370496
  l2 : -4503599627370496 ≤ x.l2 ∧ x.l2 ≤ 4503599627370496
end Pl
open Go.RowKit Go.Lib Go.Maps
theorem xA_dl (x : Pl.XS) (k : Nat) (hk : k < 8) : (xA x)[13 + k]? = some (.int .i64 (x.dl k)) := by
  rcases (by omega : k = 0 ∨ k = 1 ∨ k = 2 ∨ k = 3 ∨ k = 4 ∨ k = 5 ∨ k = 6 ∨ k = 7) with rfl | rfl | rfl | rfl | rfl | rfl | rfl | rfl <;> rfl
theorem xA_put (x : Pl.XS) (k : Nat) (hk : k < 8) (v : Int) : (xA x).setIfInBounds (13 + k) (.int .i64 v) = xA (x.put k v) := by
  rcases (by omega : k = 0 ∨ k = 1 ∨ k = 2 ∨ k = 3 ∨ k = 4 ∨ k = 5 ∨ k = 6 ∨ k = 7) with rfl | rfl | rfl | rfl | rfl | rfl | rfl | rfl <;> rfl
def clrW (W : World) (b : Nat) : World := (((((((W.setCell ⟨b, 4, none⟩ (.bool false)).setCell ⟨b, 5, none⟩ (.int .u64 0)).setCell ⟨b, 6, none⟩ (.int .i64 0)).setCell ⟨b, 7, none⟩ (.int .i64 0)).setCell ⟨b, 8, none⟩ (.int .i64 0)).setCell ⟨b, 9, none⟩ (.int .i64 0)).setCell ⟨b, 10, none⟩ (.int .i64 0)).setCell ⟨b, 11, none⟩ (.int .i64 0)
theorem clr_x {w : World} {b : Nat} {x : Pl.XS} (hx : Blk w b 65 (xA x)) : Blk (clrW w b) b 65 (xA x.clr) := by
  have := (((((((hx.set_ 4 (.bool false)).set_ 5 (.int .u64 0)).set_ 6 (.int .i64 0)).set_ 7 (.int .i64 0)).set_ 8 (.int .i64 0)).set_ 9 (.int .i64 0)).set_ 10 (.int .i64 0)).set_ 11 (.int .i64 0)
  rcases x with ⟨x1, x2, x3, x4, x5, x6, x7, x8, x9, x10, x11, x12, x13, x14, x15, x16, x17, x18⟩
  refine (congrArg (Blk _ b 65) ?_).mp this
  kernel_rfl
theorem clr_far {w : World} {b g : Nat} {t : TypeId} {cs : Array Value} (h : Blk w g t cs) (hn : g ≠ b) : Blk (clrW w b) g t cs :=
  (((((((h.far (p := ⟨b, 4, none⟩) hn _).far (p := ⟨b, 5, none⟩) hn _).far (p := ⟨b, 6, none⟩) hn _).far (p := ⟨b, 7, none⟩) hn _).far (p := ⟨b, 8, none⟩) hn _).far (p := ⟨b, 9, none⟩) hn _).far (p := ⟨b, 10, none⟩) hn _).far (p := ⟨b, 11, none⟩) hn _
theorem clr_own {w W : World} {b : Nat} (h : w.grownBy W (some b)) : w.grownBy (clrW W b) (some b) :=
  only_setCell (only_setCell (only_setCell (only_setCell (only_setCell (only_setCell (only_setCell (only_setCell h (p := ⟨b, 4, none⟩) (.inl rfl) _) (p := ⟨b, 5, none⟩) (.inl rfl) _) (p := ⟨b, 6, none⟩) (.inl rfl) _) (p := ⟨b, 7, none⟩) (.inl rfl) _) (p := ⟨b, 8, none⟩) (.inl rfl) _) (p := ⟨b, 9, none⟩) (.inl rfl) _) (p := ⟨b, 10, none⟩) (.inl rfl) _) (p := ⟨b, 11, none⟩) (.inl rfl) _

theorem put_x {w : World} {b : Nat} {x : Pl.XS} {k : Nat} (hx : Blk w b 65 (xA x)) (hk : k < 8) (v : Int) : Blk (w.setCell ⟨b, 13 + k, none⟩ (.int .i64 v)) b 65 (xA (x.put k v)) := by
  rw [← xA_put x k hk v]
  exact hx.set_ _ _
theorem end_x0 {w : World} {b : Nat} {x : Pl.XS} (hx : Blk w b 65 (xA x)) (t4 t3 : Int) (h : x.cnt = 0) :
    Blk (((((w.setCell ⟨b, 23, none⟩ (.int .i64 t3)).setCell ⟨b, 24, none⟩ (.int .i64 t4)).setCell ⟨b, 21, none⟩ (.int .i64 t3)).setCell ⟨b, 22, none⟩ (.int .i64 t4)).setCell ⟨b, 12, none⟩ (.int .i64 (x.cnt + 1))) b 65 (xA (x.end_ t4 t3)) := by
  have := ((((hx.set_ 23 (.int .i64 t3)).set_ 24 (.int .i64 t4)).set_ 21 (.int .i64 t3)).set_ 22 (.int .i64 t4)).set_ 12 (.int .i64 (x.cnt + 1))
  unfold Pl.XS.end_
  rw [if_pos h, if_pos h]
  rcases x with ⟨x1, x2, x3, x4, x5, x6, x7, x8, x9, x10, x11, x12, x13, x14, x15, x16, x17, x18⟩
  refine (congrArg (Blk _ b 65) ?_).mp this
  kernel_rfl
theorem end_x1 {w : World} {b : Nat} {x : Pl.XS} (hx : Blk w b 65 (xA x)) (t4 t3 : Int) (h : x.cnt ≠ 0) :
    Blk (((w.setCell ⟨b, 23, none⟩ (.int .i64 t3)).setCell ⟨b, 24, none⟩ (.int .i64 t4)).setCell ⟨b, 12, none⟩ (.int .i64 (x.cnt + 1))) b 65 (xA (x.end_ t4 t3)) := by
  have := ((hx.set_ 23 (.int .i64 t3)).set_ 24 (.int .i64 t4)).set_ 12 (.int .i64 (x.cnt + 1))
  unfold Pl.XS.end_
  rw [if_neg h, if_neg h]
  rcases x with ⟨x1, x2, x3, x4, x5, x6, x7, x8, x9, x10, x11, x12, x13, x14, x15, x16, x17, x18⟩
  refine (congrArg (Blk _ b 65) ?_).mp this
  kernel_rfl
theorem end_own0 {w W : World} {b : Nat} (h : w.grownBy W (some b)) (v1 v2 v3 v4 v5 : Value) : w.grownBy (((((W.setCell ⟨b, 23, none⟩ v1).setCell ⟨b, 24, none⟩ v2).setCell ⟨b, 21, none⟩ v3).setCell ⟨b, 22, none⟩ v4).setCell ⟨b, 12, none⟩ v5) (some b) :=
  only_setCell (only_setCell (only_setCell (only_setCell (only_setCell h (p := ⟨b, 23, none⟩) (.inl rfl) _) (p := ⟨b, 24, none⟩) (.inl rfl) _) (p := ⟨b, 21, none⟩) (.inl rfl) _) (p := ⟨b, 22, none⟩) (.inl rfl) _) (p := ⟨b, 12, none⟩) (.inl rfl) _
theorem end_own1 {w W : World} {b : Nat} (h : w.grownBy W (some b)) (v1 v2 v3 : Value) : w.grownBy (((W.setCell ⟨b, 23, none⟩ v1).setCell ⟨b, 24, none⟩ v2).setCell ⟨b, 12, none⟩ v3) (some b) :=
  only_setCell (only_setCell (only_setCell h (p := ⟨b, 23, none⟩) (.inl rfl) _) (p := ⟨b, 24, none⟩) (.inl rfl) _) (p := ⟨b, 12, none⟩) (.inl rfl) _

set_option maxHeartbeats 4000000 in
set_option maxRecDepth 100000 in
theorem pfol_ok (b : Nat) (x : Pl.XS) (p : Pl.PM) (ck po : Int) (w : World) (hx : Blk w b 65 (xA x)) (hw : PmWf p) (hok : Pl.XOk x) (hc : Pl.comE p 10 x.dom = 0) (hm : Pl.mineF x p ck po = true) (hi : Pl.insB p = true) : Calls Try.prog 14 #[.pointer (some ⟨b, 0, none⟩), pmV p, .int .u64 ck, .int .i64 po] w fun e w' => e = .returned (.int .i64 0) ∧ Blk w' b 65 (xA (x.fol p)) ∧ w.grownBy w' (some b) := by
  have CM := common_any b x p 10 (w.alloc (.cells (pmA p) 38)) (hx.alloc _) hw.k
  rw [hc] at CM
  replace CM : Hid (∀ W, W = w.alloc (.cells (pmA p) 38) → Calls Try.prog 27 #[.pointer (some ⟨b, 0, none⟩), pmV p, .int .i64 10] W fun e w' => e = .returned (.int .i64 0) ∧ Below W.heap.size W w') := Lib.hid (by rintro _ rfl; exact CM)
  have IN := fun W => instant_any p W
  rw [hi] at IN
  have hins := Pl.insN_in (p := p)
  obtain ⟨I, hI⟩ : ∃ I, Pl.insN p = I := ⟨_, rfl⟩
  rw [hI] at IN hins
  replace IN := Lib.hid IN
  have hpc := wf64 hw.co
  have AD := Lib.hid (fun W => addcorr_any x.aco p.co hok.aco.1 hok.aco.2 hpc.1 hpc.2 W)
  have hsat := Pl.sat_in (a := x.aco) (b := p.co)
  obtain ⟨S, hS⟩ : ∃ S, Pl.sat x.aco p.co = S := ⟨_, rfl⟩
  obtain ⟨F0, hF0⟩ : ∃ F0, Pl.fit (x.aco + p.co) = F0 := ⟨_, rfl⟩
  rw [hS, hF0] at AD
  rw [hS] at hsat
  have NA := Lib.hid (fun W => nanos_any S hsat.1 hsat.2 W)
  have hN : -140737488355328 ≤ S / 65536 ∧ S / 65536 ≤ 140737488355328 := by omega
  obtain ⟨N, hN'⟩ : ∃ N, S / 65536 = N := ⟨_, rfl⟩
  rw [hN'] at NA hN
  obtain ⟨q1, q2⟩ := hok.a1
  obtain ⟨q3, q4⟩ := hok.a2
  obtain ⟨q5, q6⟩ := hok.a4
  have kw1 : IntKind.i64.wrap (x.a4 - x.a1) = x.a4 - x.a1 := IntWalk.i64_in _ (by omega)
  have kw2 : IntKind.i64.wrap (I - x.a2) = I - x.a2 := IntWalk.i64_in _ (by omega)
  have kw3 : IntKind.i64.wrap (x.a4 - x.a1 - (I - x.a2)) = x.a4 - x.a1 - (I - x.a2) := IntWalk.i64_in _ (by omega)
  have kw4 : IntKind.i64.wrap (x.a4 - x.a1 - (I - x.a2) - N) = x.a4 - x.a1 - (I - x.a2) - N := IntWalk.i64_in _ (by omega)
  have FL := Lib.hid (fun W => pfloor_any (x.a4 - x.a1 - (I - x.a2) - N) 2 (by omega) (by omega) (by omega) (by omega) W)
  have hH : Pl.halfN x p = (x.a4 - x.a1 - (I - x.a2) - N) / 2 := by unfold Pl.halfN; rw [hI, hS, hN']
  obtain ⟨D, hD⟩ : ∃ D, x.a4 - x.a1 - (I - x.a2) - N = D := ⟨_, rfl⟩
  rw [hD] at FL hH
  replace kw4 := kw4.trans hD
  obtain ⟨V, hV⟩ : ∃ V, D / 2 = V := ⟨_, rfl⟩
  rw [hV] at FL hH
  obtain ⟨k, hk⟩ : ∃ k, Pl.slot x = k := ⟨_, rfl⟩
  have hc1 := hok.cnt
  have hk8 : k < 8 := by rw [← hk]; unfold Pl.slot; omega
  have kwk0 : x.cnt.tmod 8 = (k : Int) := by
    rw [Int.tmod_eq_emod_of_nonneg hc1.1, ← hk]
    unfold Pl.slot
    omega
  have kwk : IntKind.i64.wrap (k : Int) = (k : Int) := IntWalk.i64_in _ (by omega)
  have kwc : IntKind.i64.wrap (x.cnt + 1) = x.cnt + 1 := IntWalk.i64_in _ (by omega)
  have hm' := hm
  unfold Pl.mineF at hm'
  simp only [Bool.and_eq_true, beq_iff_eq] at hm'
  obtain ⟨⟨⟨⟨⟨m1, m2⟩, m3⟩, m4⟩, m5⟩, m6⟩ := hm'
  have u1 : (!x.wt) = false := by simp [m1]
  have u2 : (p.sq != x.asq) = false := by simp [m2]
  have u3 : (p.ck != x.ac) = false := by simp [m3]
  have u4 : (p.po != x.ap) = false := by simp [m4]
  have u5 : (p.rc != ck) = false := by simp [m5]
  have u6 : (p.rp != po) = false := by simp [m6]
  have K0 := one_mk w 38 (pmA p)
  have K0b := K0.2
  have X0 := Lib.hid (hx.alloc (.cells (pmA p) 38))
  have hbz := hx.lt
  have EF : Hid (x.fol p = (x.clr.put k (max 0 V)).end_ x.a4 I) := Lib.hid (by unfold Pl.XS.fol; rw [hk, hH, hI])
  rw [EF.out]
  clear m1 m2 m3 m4 m5 m6 hm hc hi hw hx hsat hN hS hF0 hN' hD hV hH hk q1 q2 q3 q4 q5 q6 hins hI hpc hok
  go_enter Try.func14, Try.ntmps14
  go_wp2_with (refine wpList_load_blk rfl 38 _ rfl w.heap.size rfl 38 (pmA p) _ K0b Try.underlying38 rfl (by kernel_rfl) ?_)
  refine (CM.out _ rfl).mono ?_
  rintro _ w1 ⟨rfl, l1⟩
  have K1 := K0.on l1
  have X1 := X0.out.below_ l1
  have x5 : w1.cell? ⟨b, 5, none⟩ = some (.int .u64 x.ac) := X1.cell 5
  have x6 : w1.cell? ⟨b, 6, none⟩ = some (.int .i64 x.ap) := X1.cell 6
  have x7 : w1.cell? ⟨b, 7, none⟩ = some (.int .i64 x.asq) := X1.cell 7
  have x8 : w1.cell? ⟨b, 8, none⟩ = some (.int .i64 x.aco) := X1.cell 8
  have x9 : w1.cell? ⟨b, 9, none⟩ = some (.int .i64 x.a1) := X1.cell 9
  have x10 : w1.cell? ⟨b, 10, none⟩ = some (.int .i64 x.a2) := X1.cell 10
  have x11 : w1.cell? ⟨b, 11, none⟩ = some (.int .i64 x.a4) := X1.cell 11
  have xz := X1.lt
  have K1b := K1.2.alloc (.cells #[.int .u64 x.ac, .int .i64 x.ap, .int .i64 x.asq, .int .i64 x.aco, .int .i64 x.a1, .int .i64 x.a2, .int .i64 x.a4] 61)
  have A1 := Blk.new w1 61 #[.int .u64 x.ac, .int .i64 x.ap, .int .i64 x.asq, .int .i64 x.aco, .int .i64 x.a1, .int .i64 x.a2, .int .i64 x.a4]
  have H1 := K1.1.alloc K1.1.size (.cells #[.int .u64 x.ac, .int .i64 x.ap, .int .i64 x.asq, .int .i64 x.aco, .int .i64 x.a1, .int .i64 x.a2, .int .i64 x.a4] 61)
  have X1b := Lib.hid (X1.alloc (.cells #[.int .u64 x.ac, .int .i64 x.ap, .int .i64 x.asq, .int .i64 x.aco, .int .i64 x.a1, .int .i64 x.a2, .int .i64 x.a4] 61))
  have hab : w.heap.size < w1.heap.size := K1.2.lt
  have hxa : b < w1.heap.size := X1.lt
  clear l1 K0 K0b X0 X1 K1
  go_wp2_with (refine wpList_load_blk rfl 38 _ rfl w.heap.size rfl 38 (pmA p) _ K1b Try.underlying38 rfl (by kernel_rfl) ?_)
  refine (IN.out _).mono ?_
  rintro _ w2 ⟨rfl, l2⟩
  have H2 := bel_on H1 l2
  have K2 := K1b.below_ l2
  have A2 := A1.below_ l2
  have X2 := X1b.out.below_ l2
  have p3 : w2.cell? ⟨w.heap.size, 3, none⟩ = some (.int .i64 p.co) := K2.cell 3
  have p4 : w2.cell? ⟨w.heap.size, 4, none⟩ = some (.int .u64 p.ck) := K2.cell 4
  have p5 : w2.cell? ⟨w.heap.size, 5, none⟩ = some (.int .i64 p.po) := K2.cell 5
  have p6 : w2.cell? ⟨w.heap.size, 6, none⟩ = some (.int .i64 p.sq) := K2.cell 6
  have p10 : w2.cell? ⟨w.heap.size, 10, none⟩ = some (.int .u64 p.rc) := K2.cell 10
  have p11 : w2.cell? ⟨w.heap.size, 11, none⟩ = some (.int .i64 p.rp) := K2.cell 11
  have pz := K2.lt
  have a0 : w2.cell? ⟨w1.heap.size, 0, none⟩ = some (.int .u64 x.ac) := A2.cell 0
  have a1 : w2.cell? ⟨w1.heap.size, 1, none⟩ = some (.int .i64 x.ap) := A2.cell 1
  have a2 : w2.cell? ⟨w1.heap.size, 2, none⟩ = some (.int .i64 x.asq) := A2.cell 2
  have a3 : w2.cell? ⟨w1.heap.size, 3, none⟩ = some (.int .i64 x.aco) := A2.cell 3
  have a4 : w2.cell? ⟨w1.heap.size, 4, none⟩ = some (.int .i64 x.a1) := A2.cell 4
  have a5 : w2.cell? ⟨w1.heap.size, 5, none⟩ = some (.int .i64 x.a2) := A2.cell 5
  have a6 : w2.cell? ⟨w1.heap.size, 6, none⟩ = some (.int .i64 x.a4) := A2.cell 6
  have az := A2.lt
  have x4 : w2.cell? ⟨b, 4, none⟩ = some (.bool x.wt) := X2.cell 4
  have xz := X2.lt
  clear l2 H1 K1b A1 X1b x5 x6 x7 x8 x9 x10 x11
  replace H2 := Lib.hid H2
  replace K2 := Lib.hid K2
  replace A2 := Lib.hid A2
  replace X2 := Lib.hid X2
  have x5 : w2.cell? ⟨b, 5, none⟩ = some (.int .u64 x.ac) := X2.out.cell 5
  have x6 : w2.cell? ⟨b, 6, none⟩ = some (.int .i64 x.ap) := X2.out.cell 6
  have x7 : w2.cell? ⟨b, 7, none⟩ = some (.int .i64 x.asq) := X2.out.cell 7
  have x8 : w2.cell? ⟨b, 8, none⟩ = some (.int .i64 x.aco) := X2.out.cell 8
  have x9 : w2.cell? ⟨b, 9, none⟩ = some (.int .i64 x.a1) := X2.out.cell 9
  have x10 : w2.cell? ⟨b, 10, none⟩ = some (.int .i64 x.a2) := X2.out.cell 10
  have x11 : w2.cell? ⟨b, 11, none⟩ = some (.int .i64 x.a4) := X2.out.cell 11
  have g4 := X2.out.frozen 4
  have g5 := X2.out.frozen 5
  have g6 := X2.out.frozen 6
  have g7 := X2.out.frozen 7
  have g8 := X2.out.frozen 8
  have g9 := X2.out.frozen 9
  have g10 := X2.out.frozen 10
  have g11 := X2.out.frozen 11
  have hne : w.heap.size ≠ b := by omega
  have hne2 : w1.heap.size ≠ b := by omega
  go_wp2_with fail
  refine (AD.out _).mono ?_
  rintro _ w3 ⟨rfl, rfl⟩
  go_wp2_with fail
  have Z : Blk ((((((((w2.setCell ⟨b, 4, none⟩ (.bool false)).setCell ⟨b, 5, none⟩ (.int .u64 0)).setCell ⟨b, 6, none⟩ (.int .i64 0)).setCell ⟨b, 7, none⟩ (.int .i64 0)).setCell ⟨b, 8, none⟩ (.int .i64 0)).setCell ⟨b, 9, none⟩ (.int .i64 0)).setCell ⟨b, 10, none⟩ (.int .i64 0)).setCell ⟨b, 11, none⟩ (.int .i64 0)) b 65 (xA x.clr) ∧ Blk ((((((((w2.setCell ⟨b, 4, none⟩ (.bool false)).setCell ⟨b, 5, none⟩ (.int .u64 0)).setCell ⟨b, 6, none⟩ (.int .i64 0)).setCell ⟨b, 7, none⟩ (.int .i64 0)).setCell ⟨b, 8, none⟩ (.int .i64 0)).setCell ⟨b, 9, none⟩ (.int .i64 0)).setCell ⟨b, 10, none⟩ (.int .i64 0)).setCell ⟨b, 11, none⟩ (.int .i64 0)) w1.heap.size 61 #[.int .u64 x.ac, .int .i64 x.ap, .int .i64 x.asq, .int .i64 x.aco, .int .i64 x.a1, .int .i64 x.a2, .int .i64 x.a4] ∧ w.grownBy ((((((((w2.setCell ⟨b, 4, none⟩ (.bool false)).setCell ⟨b, 5, none⟩ (.int .u64 0)).setCell ⟨b, 6, none⟩ (.int .i64 0)).setCell ⟨b, 7, none⟩ (.int .i64 0)).setCell ⟨b, 8, none⟩ (.int .i64 0)).setCell ⟨b, 9, none⟩ (.int .i64 0)).setCell ⟨b, 10, none⟩ (.int .i64 0)).setCell ⟨b, 11, none⟩ (.int .i64 0)) (some b) := ⟨clr_x X2.out, clr_far A2.out hne2, clr_own (only_of_below H2.out _)⟩
  clear p3 p4 p5 p6 p10 p11 pz a0 a1 a2 a3 a4 a5 a6 az x4 x5 x6 x7 x8 x9 x10 x11 g4 g5 g6 g7 g8 g9 g10 g11 X2 A2 H2 K2
  generalize ((((((((w2.setCell ⟨b, 4, none⟩ (.bool false)).setCell ⟨b, 5, none⟩ (.int .u64 0)).setCell ⟨b, 6, none⟩ (.int .i64 0)).setCell ⟨b, 7, none⟩ (.int .i64 0)).setCell ⟨b, 8, none⟩ (.int .i64 0)).setCell ⟨b, 9, none⟩ (.int .i64 0)).setCell ⟨b, 10, none⟩ (.int .i64 0)).setCell ⟨b, 11, none⟩ (.int .i64 0)) = W3 at Z ⊢
  obtain ⟨X3, A3, G3⟩ := Z
  have a4 : W3.cell? ⟨w1.heap.size, 4, none⟩ = some (.int .i64 x.a1) := A3.cell 4
  have a5 : W3.cell? ⟨w1.heap.size, 5, none⟩ = some (.int .i64 x.a2) := A3.cell 5
  have a6 : W3.cell? ⟨w1.heap.size, 6, none⟩ = some (.int .i64 x.a4) := A3.cell 6
  have az := A3.lt
  replace X3 := Lib.hid X3
  replace A3 := Lib.hid A3
  replace G3 := Lib.hid G3
  go_region_held3 (fun w' => w'.cell? ⟨w1.heap.size, 4, none⟩ = some (.int .i64 x.a1) ∧ w'.cell? ⟨w1.heap.size, 5, none⟩ = some (.int .i64 x.a2) ∧ w'.cell? ⟨w1.heap.size, 6, none⟩ = some (.int .i64 x.a4)) (exact ⟨a4, a5, a6⟩) ((first | (go_at_call 32; refine (NA.out _).mono ?_; rintro _ _ ⟨rfl, n1, rfl⟩) | (go_at_call 31; refine (FL.out _).mono ?_; rintro _ _ ⟨rfl, n2, rfl⟩)))
  all_goals go_wp2_with fail
  have Z : Blk (W3.drewN (1 + n1 + n2)) b 65 (xA x.clr) ∧ w.grownBy (W3.drewN (1 + n1 + n2)) (some b) ∧ Blk (W3.drewN (1 + n1 + n2)) w1.heap.size 61 #[.int .u64 x.ac, .int .i64 x.ap, .int .i64 x.asq, .int .i64 x.aco, .int .i64 x.a1, .int .i64 x.a2, .int .i64 x.a4] := ⟨X3.out.drewN _, only_drewN G3.out _, A3.out.drewN _⟩
  clear a4 a5 a6 az X3 A3 G3
  generalize (W3.drewN (1 + n1 + n2)) = W4 at Z ⊢
  obtain ⟨X4, G4, A4⟩ := Z
  have x12 : W4.cell? ⟨b, 12, none⟩ = some (.int .i64 x.cnt) := X4.cell 12
  have xk : W4.cell? ⟨b, 13 + k, none⟩ = some (.int .i64 (x.dl k)) := (X4.cell (13 + k)).trans (xA_dl x.clr k hk8)
  have gk := X4.frozen (13 + k)
  have hki : (0 : Int) ≤ (k : Int) := by omega
  have hkj : (k : Int) < 8 := by omega
  have xz := X4.lt
  have V5 : (W4.setCell ⟨b, 13 + k, none⟩ (.int .i64 (max 0 V))).drew.cell? ⟨b, 12, none⟩ = some (.int .i64 x.cnt) := ((put_x X4 hk8 (max 0 V)).drew.cell 12)
  replace V5 := Lib.hid V5
  replace X4 := Lib.hid X4
  replace A4 := Lib.hid A4
  replace G4 := Lib.hid G4
  go_region_held3 (fun w' => w'.cell? ⟨b, 12, none⟩ = some (.int .i64 x.cnt)) (first | with_reducible exact V5.out | with_reducible exact x12 | go_keep) ((fail))
  have Z : Blk (W4.setCell ⟨b, 13 + k, none⟩ (.int .i64 (max 0 V))).drew b 65 (xA (x.clr.put k (max 0 V))) ∧ w.grownBy (W4.setCell ⟨b, 13 + k, none⟩ (.int .i64 (max 0 V))).drew (some b) ∧ Blk (W4.setCell ⟨b, 13 + k, none⟩ (.int .i64 (max 0 V))).drew w1.heap.size 61 #[.int .u64 x.ac, .int .i64 x.ap, .int .i64 x.asq, .int .i64 x.aco, .int .i64 x.a1, .int .i64 x.a2, .int .i64 x.a4] := ⟨(put_x X4.out hk8 _).drew, only_drew (only_setCell G4.out (p := ⟨b, 13 + k, none⟩) (.inl rfl) _), (A4.out.far (p := ⟨b, 13 + k, none⟩) hne2 _).drew⟩
  clear x12 xk gk xz V5 X4 A4 G4
  generalize (W4.setCell ⟨b, 13 + k, none⟩ (.int .i64 (max 0 V))).drew = W5 at Z ⊢
  obtain ⟨X5, G5, A5⟩ := Z
  have a6 : W5.cell? ⟨w1.heap.size, 6, none⟩ = some (.int .i64 x.a4) := A5.cell 6
  have az := A5.lt
  have x12 : W5.cell? ⟨b, 12, none⟩ = some (.int .i64 x.cnt) := X5.cell 12
  have x21 : W5.cell? ⟨b, 21, none⟩ = some (.int .i64 x.f1) := X5.cell 21
  have x22 : W5.cell? ⟨b, 22, none⟩ = some (.int .i64 x.f2) := X5.cell 22
  have x23 : W5.cell? ⟨b, 23, none⟩ = some (.int .i64 x.l1) := X5.cell 23
  have x24 : W5.cell? ⟨b, 24, none⟩ = some (.int .i64 x.l2) := X5.cell 24
  have g12 := X5.frozen 12
  have g21 := X5.frozen 21
  have g22 := X5.frozen 22
  have g23 := X5.frozen 23
  have g24 := X5.frozen 24
  have xz := X5.lt
  replace X5 := Lib.hid X5
  replace G5 := Lib.hid G5
  clear A5
  by_cases c : x.cnt = 0
  · have t1 : (x.cnt == 0) = true := by simp [c]
    have E0 := Lib.hid (end_x0 X5.out x.a4 I c)
    clear c
    go_wp2
    go_ret
    exact ⟨rfl, E0.out, end_own0 G5.out _ _ _ _ _⟩
  · have t1 : (x.cnt == 0) = false := by simp [c]
    have E0 := Lib.hid (end_x1 X5.out x.a4 I c)
    clear c
    go_wp2
    go_ret
    exact ⟨rfl, E0.out, end_own1 G5.out _ _ _⟩
end Go.Proofs.Ytmdfbcabpmadgaa
