/- Contracts of the messages' check. -/
import Derived.Test.YtnlfkafebbfenaaMulAdd
import Derived.Test.YtnlfkafebbfenaaRefMd
import Derived.Test.YtnlfkafebbfenaaResPlain
import Derived.Test.YtnlfkafebbfenaaBoxes
import Derived.Test.YtnlfkafebbfenaaLaw
import Derived.Deep.RegionHeld3
import Derived.Deep.DeepCutAuto
import Derived.Maps.Own
import Derived.Maps.OwnOps
import Derived.Maps.OwnSet
import Derived.LoopTactic
import Derived.WalkLawsBesides
namespace Go.Proofs.Ytnlfkafebbfenaa
open Go.RowKit Go.Lib Go.Maps

abbrev pmA (p : Pl.PM) : Array Value := #[.int .i64 p.k, .int .i64 p.d, .int .i64 p.fl, .int .i64 p.co, .int .u64 p.ck, .int .i64 p.po, .int .i64 p.sq, .int .i64 p.lg, .int .i64 p.se, .int .i64 p.na, .int .u64 p.rc, .int .i64 p.rp, .int .i64 p.ut, .int .i64 p.p1, .int .i64 p.cl, .int .i64 p.ac, .int .i64 p.va, .int .i64 p.p2, .int .u64 p.gm, .int .i64 p.st, .int .i64 p.so]
abbrev pmV (p : Pl.PM) : Value := .agg (pmA p)

theorem answers_any (k : Int) (w : World) : Calls Try.prog 41 #[.int .i64 k] w fun e w' => e = .returned (.bool (Pl.answ k)) ∧ w = w' := by
  go_enter Try.func41, Try.ntmps41
  go_wp2
  all_goals (go_ret; exact ⟨congrArg Ending.returned (congrArg Value.bool (by first | (simp_all [Pl.answ]; done) | (rw [Bool.eq_iff_iff]; simp [Pl.answ] <;> omega))), rfl⟩)
theorem stcheck_any (s n : Int) (w : World) : Calls Try.prog 58 #[.agg #[.int .i64 s, .int .i64 n]] w fun e w' => e = .returned (.int .i64 (Pl.stE s n)) ∧ Below w.heap.size w w' := by
  go_enter Try.func58, Try.ntmps58
  go_wp2
  all_goals (go_ret; exact ⟨congrArg Ending.returned (congrArg (Value.int .i64) (by unfold Pl.stE; first | (rw [if_pos (Pl.stOk_iff.2 (by omega))]) | (rw [if_neg (fun q => by have := Pl.stOk_iff.1 q; omega)]))), (Below.refl _ _).alloc (Nat.le_refl _) _⟩)

theorem lawInt : Keyed Try.prog 3 := int_keyed Try.underlying3
theorem zeroInt (w : World) : (zeroValue 3).run Try.prog w = .ok (.int .i64 0) w := by kernel_rfl

theorem bel_bx' (w : World) (o : Obj) : Below w.heap.size w (w.alloc o) := (Below.refl _ _).alloc (Nat.le_refl _) _
theorem lawInt' : Try.prog.underlying 95 = some (.map 3 3) := Try.underlying95
section
variable {H : Type}
def sizesD : DataW H := ((((((((((((((((DataW.map []).put (.int .i64 0) (.lit (.int .i64 44)))).put (.int .i64 1) (.lit (.int .i64 44)))).put (.int .i64 2) (.lit (.int .i64 54)))).put (.int .i64 3) (.lit (.int .i64 54)))).put (.int .i64 8) (.lit (.int .i64 44)))).put (.int .i64 9) (.lit (.int .i64 54)))).put (.int .i64 10) (.lit (.int .i64 54)))).put (.int .i64 11) (.lit (.int .i64 64)))
theorem isMap_sizes : IsMap (sizesD (H := H)) := ⟨_, rfl⟩
theorem sizes_at {k c : Int} (h : (sizesD (H := H)).atKey (.int .i64 k) (.lit (.int .i64 0)) = .lit (.int .i64 c)) : c = Pl.szOf k := by
  unfold sizesD at h
  by_cases c11 : k = 11
  · subst c11
    rw [atKey_put_same (((((((isMap_empty.put _ _).put _ _).put _ _).put _ _).put _ _).put _ _).put _ _) (show WideAt.IsKeyLit (.int .i64 11) from trivial)] at h
    injection h with h
    injection h with _ h
    subst h
    decide
  rw [atKey_put_other (fun e => c11 (by injection e))] at h
  by_cases c10 : k = 10
  · subst c10
    rw [atKey_put_same ((((((isMap_empty.put _ _).put _ _).put _ _).put _ _).put _ _).put _ _) (show WideAt.IsKeyLit (.int .i64 10) from trivial)] at h
    injection h with h
    injection h with _ h
    subst h
    decide
  rw [atKey_put_other (fun e => c10 (by injection e))] at h
  by_cases c9 : k = 9
  · subst c9
    rw [atKey_put_same (((((isMap_empty.put _ _).put _ _).put _ _).put _ _).put _ _) (show WideAt.IsKeyLit (.int .i64 9) from trivial)] at h
    injection h with h
    injection h with _ h
    subst h
    decide
  rw [atKey_put_other (fun e => c9 (by injection e))] at h
  by_cases c8 : k = 8
  · subst c8
    rw [atKey_put_same ((((isMap_empty.put _ _).put _ _).put _ _).put _ _) (show WideAt.IsKeyLit (.int .i64 8) from trivial)] at h
    injection h with h
    injection h with _ h
    subst h
    decide
  rw [atKey_put_other (fun e => c8 (by injection e))] at h
  by_cases c3 : k = 3
  · subst c3
    rw [atKey_put_same (((isMap_empty.put _ _).put _ _).put _ _) (show WideAt.IsKeyLit (.int .i64 3) from trivial)] at h
    injection h with h
    injection h with _ h
    subst h
    decide
  rw [atKey_put_other (fun e => c3 (by injection e))] at h
  by_cases c2 : k = 2
  · subst c2
    rw [atKey_put_same ((isMap_empty.put _ _).put _ _) (show WideAt.IsKeyLit (.int .i64 2) from trivial)] at h
    injection h with h
    injection h with _ h
    subst h
    decide
  rw [atKey_put_other (fun e => c2 (by injection e))] at h
  by_cases c1 : k = 1
  · subst c1
    rw [atKey_put_same (isMap_empty.put _ _) (show WideAt.IsKeyLit (.int .i64 1) from trivial)] at h
    injection h with h
    injection h with _ h
    subst h
    decide
  rw [atKey_put_other (fun e => c1 (by injection e))] at h
  by_cases c0 : k = 0
  · subst c0
    rw [atKey_put_same (isMap_empty) (show WideAt.IsKeyLit (.int .i64 0) from trivial)] at h
    injection h with h
    injection h with _ h
    subst h
    decide
  rw [atKey_put_other (fun e => c0 (by injection e))] at h
  have e : c = 0 := by
    injection h with h
    injection h with _ h
    exact h.symm
  rw [e]
  unfold Pl.szOf
  rw [if_neg (by omega), if_neg (by omega), if_neg (by omega)]
end

set_option maxRecDepth 100000 in
theorem size_any (k : Int) (hk : (Lit.int .i64 k).wf = true) (w : World) : Calls Try.prog 39 #[.int .i64 k] w fun e w' => e = .returned (.int .i64 (Pl.szOf k)) ∧ Below w.heap.size w w' := by
  have hmm := @run_makeMap Try.prog
  have o0 := World.ownsMap_made w Try.prog 3 (plainElem (H := Unit) Try.prog 3)
  obtain ⟨w1, r1, o1, g1⟩ := o0.update lawInt Try.underlying95 (by unfold maxLen; omega) (keyOf_int_mk Try.underlying3 (show (Lit.int .i64 0).wf = true by decide)) (plainElem_int Try.underlying3 (show (Lit.int .i64 44).wf = true by decide))
  obtain ⟨w2, r2, o2, g2⟩ := o1.update lawInt Try.underlying95 (by unfold maxLen; omega) (keyOf_int_mk Try.underlying3 (show (Lit.int .i64 1).wf = true by decide)) (plainElem_int Try.underlying3 (show (Lit.int .i64 44).wf = true by decide))
  obtain ⟨w3, r3, o3, g3⟩ := o2.update lawInt Try.underlying95 (by unfold maxLen; omega) (keyOf_int_mk Try.underlying3 (show (Lit.int .i64 2).wf = true by decide)) (plainElem_int Try.underlying3 (show (Lit.int .i64 54).wf = true by decide))
  obtain ⟨w4, r4, o4, g4⟩ := o3.update lawInt Try.underlying95 (by unfold maxLen; omega) (keyOf_int_mk Try.underlying3 (show (Lit.int .i64 3).wf = true by decide)) (plainElem_int Try.underlying3 (show (Lit.int .i64 54).wf = true by decide))
  obtain ⟨w5, r5, o5, g5⟩ := o4.update lawInt Try.underlying95 (by unfold maxLen; omega) (keyOf_int_mk Try.underlying3 (show (Lit.int .i64 8).wf = true by decide)) (plainElem_int Try.underlying3 (show (Lit.int .i64 44).wf = true by decide))
  obtain ⟨w6, r6, o6, g6⟩ := o5.update lawInt Try.underlying95 (by unfold maxLen; omega) (keyOf_int_mk Try.underlying3 (show (Lit.int .i64 9).wf = true by decide)) (plainElem_int Try.underlying3 (show (Lit.int .i64 54).wf = true by decide))
  obtain ⟨w7, r7, o7, g7⟩ := o6.update lawInt Try.underlying95 (by unfold maxLen; omega) (keyOf_int_mk Try.underlying3 (show (Lit.int .i64 10).wf = true by decide)) (plainElem_int Try.underlying3 (show (Lit.int .i64 54).wf = true by decide))
  obtain ⟨w8, r8, o8, g8⟩ := o7.update lawInt Try.underlying95 (by unfold maxLen; omega) (keyOf_int_mk Try.underlying3 (show (Lit.int .i64 11).wf = true by decide)) (plainElem_int Try.underlying3 (show (Lit.int .i64 64).wf = true by decide))
  have b0 := bel_bx' w (.map #[] 0)
  have b1 := Below.only b0 g1 (Nat.le_refl _) (Nat.le_of_lt o0.lt)
  have b2 := Below.only b1 g2 (Nat.le_refl _) (Nat.le_of_lt o1.lt)
  have b3 := Below.only b2 g3 (Nat.le_refl _) (Nat.le_of_lt o2.lt)
  have b4 := Below.only b3 g4 (Nat.le_refl _) (Nat.le_of_lt o3.lt)
  have b5 := Below.only b4 g5 (Nat.le_refl _) (Nat.le_of_lt o4.lt)
  have b6 := Below.only b5 g6 (Nat.le_refl _) (Nat.le_of_lt o5.lt)
  have b7 := Below.only b6 g7 (Nat.le_refl _) (Nat.le_of_lt o6.lt)
  have b8 := Below.only b7 g8 (Nat.le_refl _) (Nat.le_of_lt o7.lt)
  obtain ⟨c, hl, hat, _⟩ := o8.lookup_int lawInt Try.underlying95 Try.underlying3 (zeroInt _) (keyOf_int_mk Try.underlying3 hk)
  obtain rfl := sizes_at hat
  have HB := Lib.hid b8
  clear o0 o1 o2 o3 o4 o5 o6 o7 o8 g1 g2 g3 g4 g5 g6 g7 g8 hat b0 b1 b2 b3 b4 b5 b6 b7 b8 hk
  go_enter Try.func39, Try.ntmps39
  go_wp2_with fail
  go_ret
  exact ⟨rfl, HB.out⟩

abbrev flA (p : Pl.PM) : Array Value := #[.int .i64 p.d, .int .i64 0, .int .i64 255, .int .i64 p.fl, .int .i64 0, .int .i64 65535, .int .i64 p.po, .int .i64 0, .int .i64 65535, .int .i64 p.sq, .int .i64 0, .int .i64 65535, .int .i64 p.lg, .int .i64 (-128), .int .i64 127, .int .i64 p.rp, .int .i64 0, .int .i64 65535, .int .i64 p.ut, .int .i64 (-32768), .int .i64 32767, .int .i64 p.p1, .int .i64 0, .int .i64 255, .int .i64 p.cl, .int .i64 0, .int .i64 255, .int .i64 p.ac, .int .i64 0, .int .i64 255, .int .i64 p.va, .int .i64 0, .int .i64 65535, .int .i64 p.p2, .int .i64 0, .int .i64 255, .int .i64 p.st, .int .i64 0, .int .i64 65535, .int .i64 p.so, .int .i64 0, .int .i64 255]
theorem flA_at (p : Pl.PM) (k : Nat) (hk : k < 14) : (flA p)[k * 3]? = some (.int .i64 (Pl.fz p k).1) ∧ (flA p)[k * 3 + 1]? = some (.int .i64 (Pl.fz p k).2.1) ∧ (flA p)[k * 3 + 2]? = some (.int .i64 (Pl.fz p k).2.2) := by
  rcases (by omega : k = 0 ∨ k = 1 ∨ k = 2 ∨ k = 3 ∨ k = 4 ∨ k = 5 ∨ k = 6 ∨ k = 7 ∨ k = 8 ∨ k = 9 ∨ k = 10 ∨ k = 11 ∨ k = 12 ∨ k = 13) with rfl | rfl | rfl | rfl | rfl | rfl | rfl | rfl | rfl | rfl | rfl | rfl | rfl | rfl <;> exact ⟨rfl, rfl, rfl⟩
/-- the message's box and the rows' -/
def Rg (w W : World) (p : Pl.PM) : Prop := Below w.heap.size w W ∧ Blk W w.heap.size 33 (pmA p) ∧ Blk W (w.heap.size + 1 + 1) 97 (flA p)
theorem Rg.on {w W W' : World} {p : Pl.PM} (h : Rg w W p) (l : Below W.heap.size W W') : Rg w W' p := ⟨bel_on h.1 l, h.2.1.below_ l, h.2.2.below_ l⟩
theorem Rg.mk (w : World) (p : Pl.PM) (x : Obj) : Rg w (((w.alloc (.cells (pmA p) 33)).alloc x).alloc (.cells (flA p) 97)) p :=
  ⟨bel_more (bel_more (bel_bx' w _) _) _, ((Blk.new w _ _).alloc _).alloc _, by have := Blk.new ((w.alloc (.cells (pmA p) 33)).alloc x) 97 (flA p); simpa using this⟩

set_option maxRecDepth 100000 in
set_option maxHeartbeats 4000000 in
theorem ranges_any (p : Pl.PM) (w : World) : Calls Try.prog 40 #[pmV p] w fun e w' => e = .returned (.bool (Pl.rngs p)) ∧ Below w.heap.size w w' := by
  have SC := Lib.hid (fun W => stcheck_any p.se p.na W)
  go_enter Try.func40, Try.ntmps40
  go_wp2_with fail
  go_loopw [52] (fun i wr => ∃ k : Nat, i = .int .i64 k ∧ k ≤ 14 ∧ Hid (Rg w wr p) ∧ Hid (∀ j, j < k → Pl.inr (Pl.fz p j).1 (Pl.fz p j).2.1 (Pl.fz p j).2.2 = true)) (fun i _ => 14 - (RowKit.intOf i).toNat)
  case atStart => exact ⟨0, rfl, by omega, Lib.hid (Rg.mk w p _), Lib.hid (fun j hj => by omega)⟩
  case round =>
    obtain ⟨k, rfl, hk, hR, hJ⟩ := hrel
    by_cases hlt : k < 14
    · obtain ⟨q0, q1, q2⟩ := flA_at p k hlt
      have c0 := (hR.out.2.2.cell (k * 3)).trans q0
      have c1 := (hR.out.2.2.cell (k * 3 + 1)).trans q1
      have c2 := (hR.out.2.2.cell (k * 3 + 2)).trans q2
      have HF : Hid (Pl.inr (Pl.fz p k).1 (Pl.fz p k).2.1 (Pl.fz p k).2.2 = true → ∀ j, j < k + 1 → Pl.inr (Pl.fz p j).1 (Pl.fz p j).2.1 (Pl.fz p j).2.2 = true) := Lib.hid (fun e j hj => by
        by_cases c : j = k
        · rw [c]; exact e
        · exact hJ.out j (by omega))
      have HN : Hid (Pl.inr (Pl.fz p k).1 (Pl.fz p k).2.1 (Pl.fz p k).2.2 = false → Pl.rngs p = false) := Lib.hid (fun e => by unfold Pl.rngs; rw [Pl.rows_no hlt e]; rfl)
      obtain ⟨N, hN⟩ : ∃ N, (Pl.fz p k).1 = N := ⟨_, rfl⟩
      obtain ⟨L, hL⟩ : ∃ N, (Pl.fz p k).2.1 = N := ⟨_, rfl⟩
      obtain ⟨H, hH⟩ : ∃ N, (Pl.fz p k).2.2 = N := ⟨_, rfl⟩
      rw [hN] at c0
      rw [hL] at c1
      rw [hH] at c2
      rw [hN, hL, hH] at HF HN
      have cz := hR.out.2.2.lt
      clear q0 q1 q2 hN hL hH hJ
      by_cases t1 : N < L
      · have HN := HN.out (Pl.inr_no.2 (.inl t1))
        have t1 : decide (N < L) = true := by simp [t1]
        clear HF
        go_wp2_with fail
        go_ret
        exact ⟨by (try rw [HN]); rfl, hR.out.1.alloc hR.out.1.size _⟩
      · by_cases t2 : H < N
        · have HN := HN.out (Pl.inr_no.2 (.inr t2))
          have t1 : decide (N < L) = false := by simp; omega
          have t2 : decide (H < N) = true := by simp [t2]
          clear HF
          go_wp2_with fail
          go_ret
          exact ⟨by (try rw [HN]); rfl, hR.out.1.alloc hR.out.1.size _⟩
        · have HF := HF.out (Pl.inr_iff.2 ⟨by omega, by omega⟩)
          have t1 : decide (N < L) = false := by simp; omega
          have t2 : decide (H < N) = false := by simp; omega
          have HF := Lib.hid HF
          clear HN
          go_wp2_with fail
          go_roundw
          case rel => exact ⟨k + 1, by go_num, by omega, Lib.hid (hR.out.on (bel_bx' wr _)), HF⟩
          case measure => simp [RowKit.intOf]; omega
    · obtain rfl : k = 14 := by omega
      have hJ := Pl.rows_of hJ.out
      have s0 : wr.cell? ⟨w.heap.size, 8, none⟩ = some (.int .i64 p.se) := hR.out.2.1.cell 8
      have s1 : wr.cell? ⟨w.heap.size, 9, none⟩ = some (.int .i64 p.na) := hR.out.2.1.cell 9
      have sz := hR.out.2.1.lt
      have e : Pl.rngs p = (Pl.stE p.se p.na == 0) := by
        unfold Pl.rngs
        rw [hJ]
        cases h : Pl.stOk p.se p.na <;> simp [Pl.stE, h]
      clear hJ
      obtain ⟨E, hE⟩ : ∃ E, Pl.stE p.se p.na = E := ⟨_, rfl⟩
      rw [hE] at SC e
      have HE := Lib.hid e
      clear hE e
      go_wp2_with fail
      refine (SC.out _).mono ?_
      rintro _ w1 ⟨rfl, l1⟩
      go_wp2_with fail
      go_ret
      exact ⟨by rw [HE.out]; rfl, bel_on hR.out.1 l1⟩

end Go.Proofs.Ytnlfkafebbfenaa
