/- The contract of the messages' check. -/
import Derived.Test.YtnlfkafebbfenaaPtp
import Derived.Deep.Light
namespace Go.Proofs.Ytnlfkafebbfenaa
open Go.RowKit Go.Lib Go.Maps

theorem pm_some {w : World} {b : Nat} {p : Pl.PM} (h : Blk w b 33 (pmA p)) :
    w.cell? ⟨b, 0, none⟩ = some (.int .i64 p.k) ∧ w.cell? ⟨b, 10, none⟩ = some (.int .u64 p.rc) ∧ w.cell? ⟨b, 11, none⟩ = some (.int .i64 p.rp) ∧ w.cell? ⟨b, 12, none⟩ = some (.int .i64 p.ut) ∧ w.cell? ⟨b, 13, none⟩ = some (.int .i64 p.p1) ∧ w.cell? ⟨b, 14, none⟩ = some (.int .i64 p.cl) ∧ w.cell? ⟨b, 15, none⟩ = some (.int .i64 p.ac) ∧ w.cell? ⟨b, 16, none⟩ = some (.int .i64 p.va) ∧ w.cell? ⟨b, 17, none⟩ = some (.int .i64 p.p2) ∧ w.cell? ⟨b, 18, none⟩ = some (.int .u64 p.gm) ∧ w.cell? ⟨b, 19, none⟩ = some (.int .i64 p.st) ∧ w.cell? ⟨b, 20, none⟩ = some (.int .i64 p.so) :=
  ⟨h.cell 0, h.cell 10, h.cell 11, h.cell 12, h.cell 13, h.cell 14, h.cell 15, h.cell 16, h.cell 17, h.cell 18, h.cell 19, h.cell 20⟩

set_option maxRecDepth 100000 in
set_option maxHeartbeats 1000000 in
theorem pmcheck_any (p : Pl.PM) (hw : (Lit.int .i64 p.k).wf = true) (w : World) : Calls Try.prog 31 #[pmV p] w fun e w' => e = .returned (.int .i64 (Pl.chk p)) ∧ Below w.heap.size w w' := by
  have SZ := fun W => size_any p.k hw W
  have RA := fun W => ranges_any p W
  have AN := fun W => answers_any p.k W
  have B0 := one_mk w 33 (pmA p)
  clear hw
  by_cases s0 : Pl.szOf p.k = 0
  · have e : Pl.chk p = 8 := by unfold Pl.chk; rw [if_pos s0]
    rw [e]
    rw [s0] at SZ
    replace SZ := Lib.hid SZ
    clear s0 e RA AN
    go_enter Try.func31, Try.ntmps31
    go_wp2_with fail
    refine (SZ.out _).mono ?_
    rintro _ w1 ⟨rfl, l1⟩
    replace B0 := Lib.hid (B0.on l1)
    clear l1
    go_wp2_with fail
    go_ret
    exact ⟨rfl, B0.out.1⟩
  · obtain ⟨S, hS⟩ : ∃ S, Pl.szOf p.k = S := ⟨_, rfl⟩
    rw [hS] at SZ
    have ts : (S == 0) = false := by simp; omega
    replace SZ := Lib.hid SZ
    cases hr : Pl.rngs p with
    | false =>
      have e : Pl.chk p = 3 := by unfold Pl.chk; rw [if_neg s0, if_pos hr]
      rw [e]
      rw [hr] at RA
      replace RA := Lib.hid RA
      clear s0 e hr AN hS
      go_enter Try.func31, Try.ntmps31
      go_wp2_with fail
      refine (SZ.out _).mono ?_
      rintro _ w1 ⟨rfl, l1⟩
      replace B0 := B0.on l1
      have HL := B0.2
      have kz := B0.2.lt
      replace B0 := Lib.hid B0
      clear l1
      go_wp2_with (refine wpList_load_row rfl 33 _ rfl _ rfl 33 _ (0, 0) _ HL Try.underlying33 rfl (by kernel_rfl) ?_)
      refine (RA.out _).mono ?_
      rintro _ w2 ⟨rfl, l2⟩
      replace B0 := Lib.hid (B0.out.on l2)
      clear l2 HL kz
      go_wp2_with fail
      go_ret
      exact ⟨rfl, B0.out.1⟩
    | true =>
      have HE : Hid (Pl.chk p = if Pl.answ p.k = false ∧ ¬ (p.rc = 0 ∧ p.rp = 0) then 7 else if p.k ≠ 11 ∧ Pl.annz p = false then 7 else 0) := Lib.hid (by
        unfold Pl.chk
        rw [if_neg s0, if_neg (by rw [hr]; simp)])
      rw [hr] at RA
      replace RA := Lib.hid RA
      clear s0 hr hS
      cases ha : Pl.answ p.k with
      | true =>
        replace HE : Hid (Pl.chk p = if p.k ≠ 11 ∧ Pl.annz p = false then 7 else 0) := Lib.hid (by rw [HE.out, ha]; simp)
        rw [ha] at AN
        replace AN := Lib.hid AN
        clear ha
        go_enter Try.func31, Try.ntmps31
        go_wp2_with fail
        refine (SZ.out _).mono ?_
        rintro _ w1 ⟨rfl, l1⟩
        replace B0 := B0.on l1
        have HL := B0.2
        have kz := B0.2.lt
        replace B0 := Lib.hid B0
        clear l1
        go_wp2_with (refine wpList_load_row rfl 33 _ rfl _ rfl 33 _ (0, 0) _ HL Try.underlying33 rfl (by kernel_rfl) ?_)
        refine (RA.out _).mono ?_
        rintro _ w2 ⟨rfl, l2⟩
        replace B0 := B0.out.on l2
        clear l2 HL kz
        obtain ⟨k0, k10, k11, k12, k13, k14, k15, k16, k17, k18, k19, k20⟩ := pm_some B0.2
        have kz := B0.2.lt
        replace B0 := Lib.hid B0
        go_wp2_with fail
        refine (AN.out _).mono ?_
        rintro _ w3 ⟨rfl, rfl⟩
        go_wp2_with fail
        all_goals (go_ret; exact ⟨congrArg Ending.returned (congrArg (Value.int .i64) (by go_light; rw [HE.out]; first | (simp [Pl.annz, *]; done) | (simp_all [Pl.annz]; done))), B0.out.1⟩)
      | false =>
        replace HE : Hid (Pl.chk p = if ¬ (p.rc = 0 ∧ p.rp = 0) then 7 else if p.k ≠ 11 ∧ Pl.annz p = false then 7 else 0) := Lib.hid (by rw [HE.out, ha]; simp)
        rw [ha] at AN
        replace AN := Lib.hid AN
        clear ha
        go_enter Try.func31, Try.ntmps31
        go_wp2_with fail
        refine (SZ.out _).mono ?_
        rintro _ w1 ⟨rfl, l1⟩
        replace B0 := B0.on l1
        have HL := B0.2
        have kz := B0.2.lt
        replace B0 := Lib.hid B0
        clear l1
        go_wp2_with (refine wpList_load_row rfl 33 _ rfl _ rfl 33 _ (0, 0) _ HL Try.underlying33 rfl (by kernel_rfl) ?_)
        refine (RA.out _).mono ?_
        rintro _ w2 ⟨rfl, l2⟩
        replace B0 := B0.out.on l2
        clear l2 HL kz
        obtain ⟨k0, k10, k11, k12, k13, k14, k15, k16, k17, k18, k19, k20⟩ := pm_some B0.2
        have kz := B0.2.lt
        replace B0 := Lib.hid B0
        go_wp2_with fail
        refine (AN.out _).mono ?_
        rintro _ w3 ⟨rfl, rfl⟩
        go_wp2_with fail
        all_goals (go_ret; exact ⟨congrArg Ending.returned (congrArg (Value.int .i64) (by go_light; rw [HE.out]; first | (simp [Pl.annz, *]; done) | (simp_all [Pl.annz]; done))), B0.out.1⟩)
end Go.Proofs.Ytnlfkafebbfenaa
