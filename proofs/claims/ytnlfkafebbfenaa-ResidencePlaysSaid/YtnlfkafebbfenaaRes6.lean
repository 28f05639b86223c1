/- The contracts of the table's Hold and Release. -/
import Derived.Test.YtnlfkafebbfenaaRes5
namespace Go.Proofs.Ytnlfkafebbfenaa
open Go.RowKit Go.Lib Go.Maps

set_option maxHeartbeats 4000000 in
set_option maxRecDepth 100000 in
theorem thold_any (b g : Nat) (lim : Int) (l : TL) (p : Pl.PM) (s : Int) (w : World) (h : Tb w b g lim l) (hw : PmWf p) (hl : l.length < maxLen) :
    Calls Try.prog 19 #[.pointer (some ⟨b, 0, none⟩), pmV p, .int .i64 s] w fun e w' => e = .returned (.int .i64 (holdE l lim p s)) ∧ Tb w' b g lim (holdL l lim p s) ∧ w.grownBy w' (some g) := by
  have hn : ∀ E, holdE l lim p s = E → E ≠ 0 → holdL l lim p s = l := fun E h h0 => by unfold holdL; rw [h, if_neg h0]
  have T0 := Lib.hid h
  have CK := fun W => pmcheck_any p hw.k W
  by_cases hc : Pl.chk p = 0
  · by_cases hk : p.k = 0 ∨ p.k = 3
    · cases hf : twoOff p with
      | true =>
        have e1 : holdE l lim p s = 15 := by unfold holdE; rw [if_pos hc, if_pos hk, hf]; rfl
        rw [hn 15 e1 (by omega), e1]
        rw [hc] at CK
        replace CK := Lib.hid CK
        unfold twoOff at hf
        have tk : ((p.k != 0) = false) ∨ ((p.k != 0) = true ∧ (p.k != 3) = false) := by
          rcases hk with q | q
          · exact .inl (by simp [q])
          · exact .inr ⟨by simp [q], by simp [q]⟩
        clear hn e1 hc hk h hw
        rcases tk with t1 | ⟨t1, t2⟩
        all_goals (
          go_enter Try.func19, Try.ntmps19
          go_wp2_with (refine wpList_load_blk rfl 33 _ rfl w.heap.size rfl 33 (pmA p) _ (Blk.new w _ _) Try.underlying33 rfl (by kernel_rfl) ?_)
          refine (CK.out _).mono ?_
          rintro _ w1 ⟨rfl, l1⟩
          have K1 := (one_mk w 33 (pmA p)).on l1
          have T1 := (T0.out.on (bel_bx' w _)).on l1
          have k0 : w1.cell? ⟨w.heap.size, 0, none⟩ = some (.int .i64 p.k) := K1.2.cell 0
          have k2 : w1.cell? ⟨w.heap.size, 2, none⟩ = some (.int .i64 p.fl) := K1.2.cell 2
          have kz := K1.2.lt
          have T1 := Lib.hid T1
          have B1 := Lib.hid (only_of_below K1.1 (some g))
          clear l1 K1
          go_wp2_with fail
          go_ret
          exact ⟨rfl, T1.out, B1.out⟩)
      | false =>
        cases hs : Pl.inr s 0 1125899906842624 with
        | true => exact thold_ok b g lim l p s w h hw hl hc hk hf hs
        | false =>
          have e1 : holdE l lim p s = 3 := by unfold holdE; rw [if_pos hc, if_pos hk, hf, hs]; rfl
          rw [hn 3 e1 (by omega), e1]
          rw [hc] at CK
          replace CK := Lib.hid CK
          unfold twoOff at hf
          have tk : ((p.k != 0) = false) ∨ ((p.k != 0) = true ∧ (p.k != 3) = false) := by
            rcases hk with q | q
            · exact .inl (by simp [q])
            · exact .inr ⟨by simp [q], by simp [q]⟩
          have ts : decide (s < 0) = true ∨ (decide (s < 0) = false ∧ decide (1125899906842624 < s) = true) := by
            have := Pl.inr_no.1 hs
            simp
            omega
          clear hn e1 hc hk h hw hs
          rcases tk with t1 | ⟨t1, t2⟩
          all_goals (
            rcases ts with s1 | ⟨s1, s2⟩
            all_goals (
              go_enter Try.func19, Try.ntmps19
              go_wp2_with (refine wpList_load_blk rfl 33 _ rfl w.heap.size rfl 33 (pmA p) _ (Blk.new w _ _) Try.underlying33 rfl (by kernel_rfl) ?_)
              refine (CK.out _).mono ?_
              rintro _ w1 ⟨rfl, l1⟩
              have K1 := (one_mk w 33 (pmA p)).on l1
              have T1 := (T0.out.on (bel_bx' w _)).on l1
              have k0 : w1.cell? ⟨w.heap.size, 0, none⟩ = some (.int .i64 p.k) := K1.2.cell 0
              have k2 : w1.cell? ⟨w.heap.size, 2, none⟩ = some (.int .i64 p.fl) := K1.2.cell 2
              have kz := K1.2.lt
              have T1 := Lib.hid T1
              have B1 := Lib.hid (only_of_below K1.1 (some g))
              clear l1 K1
              go_wp2_with fail
              go_ret
              exact ⟨rfl, T1.out, B1.out⟩))
    · have e1 : holdE l lim p s = 8 := by unfold holdE; rw [if_pos hc, if_neg hk]
      rw [hn 8 e1 (by omega), e1]
      rw [hc] at CK
      replace CK := Lib.hid CK
      have t1 : (p.k != 0) = true := by simp; omega
      have t2 : (p.k != 3) = true := by simp; omega
      clear hn e1 hc hk h hw
      go_enter Try.func19, Try.ntmps19
      go_wp2_with (refine wpList_load_blk rfl 33 _ rfl w.heap.size rfl 33 (pmA p) _ (Blk.new w _ _) Try.underlying33 rfl (by kernel_rfl) ?_)
      refine (CK.out _).mono ?_
      rintro _ w1 ⟨rfl, l1⟩
      have K1 := (one_mk w 33 (pmA p)).on l1
      have T1 := (T0.out.on (bel_bx' w _)).on l1
      have k0 : w1.cell? ⟨w.heap.size, 0, none⟩ = some (.int .i64 p.k) := K1.2.cell 0
      have k2 : w1.cell? ⟨w.heap.size, 2, none⟩ = some (.int .i64 p.fl) := K1.2.cell 2
      have kz := K1.2.lt
      have T1 := Lib.hid T1
      have B1 := Lib.hid (only_of_below K1.1 (some g))
      clear l1 K1
      go_wp2_with fail
      go_ret
      exact ⟨rfl, T1.out, B1.out⟩
  · have e1 : holdE l lim p s = 2 := by unfold holdE; rw [if_neg hc]
    rw [hn 2 e1 (by omega), e1]
    obtain ⟨C, hC⟩ : ∃ C, Pl.chk p = C := ⟨_, rfl⟩
    rw [hC] at CK hc
    have t0 : (C == 0) = false := by simp [hc]
    have t0' : (C != 0) = true := by simp [hc]
    replace CK := Lib.hid CK
    clear hn e1 hC hc hw h
    go_enter Try.func19, Try.ntmps19
    go_wp2_with (refine wpList_load_blk rfl 33 _ rfl w.heap.size rfl 33 (pmA p) _ (Blk.new w _ _) Try.underlying33 rfl (by kernel_rfl) ?_)
    refine (CK.out _).mono ?_
    rintro _ w1 ⟨rfl, l1⟩
    have K1 := (one_mk w 33 (pmA p)).on l1
    have T1 := (T0.out.on (bel_bx' w _)).on l1
    have k0 : w1.cell? ⟨w.heap.size, 0, none⟩ = some (.int .i64 p.k) := K1.2.cell 0
    have k2 : w1.cell? ⟨w.heap.size, 2, none⟩ = some (.int .i64 p.fl) := K1.2.cell 2
    have kz := K1.2.lt
    have T1 := Lib.hid T1
    have B1 := Lib.hid (only_of_below K1.1 (some g))
    clear l1 K1
    go_wp2_with fail
    go_ret
    exact ⟨rfl, T1.out, B1.out⟩

theorem thold_nil (p : Pl.PM) (s : Int) (w : World) : Calls Try.prog 19 #[.pointer none, pmV p, .int .i64 s] w fun e w' => e = .returned (.int .i64 1) ∧ Below w.heap.size w w' := by
  go_enter Try.func19, Try.ntmps19
  go_wp2
  go_ret
  exact ⟨rfl, bel_bx' w _⟩

theorem only_then_new {a b c : World} {row : Option Nat} {x : Nat} (h : a.grownBy b row) (k : b.grownBy c (some x)) (hx : a.heap.size ≤ x) : a.grownBy c row :=
  ⟨k.os.trans h.os, k.tape.trans h.tape, k.output.trans h.output, Nat.le_trans h.size k.size, fun i hi hne => (k.block i (Nat.lt_of_lt_of_le hi h.size) (fun e => by injection e with e; omega)).trans (h.block i hi hne)⟩
def knd (p : Pl.PM) : Int := if p.k = 8 then 0 else 3
def TL.stay (l : TL) (n : Nm) : Int := match l.find? (fun q => q.1 == n) with | some q => q.2 | none => 0
def relE (l : TL) (p : Pl.PM) : Int :=
  if Pl.chk p = 0 then (if p.k = 8 ∨ p.k = 10 then (if TL.hasN l (nmOf (knd p) p) = true then (if Pl.corOk p (l.stay (nmOf (knd p) p)) = true then 0 else 4) else 11) else 8) else 2
def relP (l : TL) (p : Pl.PM) : Pl.PM := if relE l p = 0 then p.wco (p.co + l.stay (nmOf (knd p) p) * 65536) else Pl.pm0
def relL (l : TL) (p : Pl.PM) : TL := if relE l p = 0 then l.filter (fun q => !(q.1 == nmOf (knd p) p)) else l
theorem TL.stay_mem {l : TL} {n : Nm} (h : l.hasN n = true) : (n, l.stay n) ∈ l := by
  unfold TL.stay
  cases hf : l.find? (fun q => q.1 == n) with
  | none =>
    have := List.find?_eq_none.1 hf
    unfold TL.hasN at h
    obtain ⟨q, hq, e⟩ := List.any_eq_true.1 h
    exact absurd e (this q hq)
  | some q =>
    have h1 := List.find?_some hf
    have h2 := List.mem_of_find?_eq_some hf
    have h3 : q.1 = n := by simpa using h1
    simp only
    rw [← h3]
    exact h2
theorem Tb.ok {W : World} {b g : Nat} {lim : Int} {l : TL} (h : Tb W b g lim l) : ∀ q ∈ l, NmOk q.1 ∧ (Lit.int .i64 q.2).wf = true := by
  obtain ⟨_, _, D, _, hs⟩ := h
  exact hs.ok

set_option maxHeartbeats 8000000 in
set_option maxRecDepth 100000 in
theorem trel_ok (b g : Nat) (lim : Int) (l : TL) (p : Pl.PM) (K : Int) (w : World) (h : Tb w b g lim l) (hw : PmWf p) (hc : Pl.chk p = 0) (hk : (p.k = 8 ∧ K = 0) ∨ (p.k = 10 ∧ K = 3)) :
    Calls Try.prog 21 #[.pointer (some ⟨b, 0, none⟩), pmV p] w fun e w' => e = .returned (.tuple #[pmV (relP l p), .int .i64 (relE l p)]) ∧ Tb w' b g lim (relL l p) ∧ w.grownBy w' (some g) := by
  have CK := fun W => pmcheck_any p hw.k W
  rw [hc] at CK
  replace CK := Lib.hid CK
  have NO := Lib.hid (fun W => nameOf_any K p W)
  have hK : knd p = K := by
    unfold knd
    rcases hk with ⟨q, e⟩ | ⟨q, e⟩
    · rw [if_pos q, e]
    · rw [if_neg (by omega), e]
  have hE : relE l p = if TL.hasN l (nmOf K p) = true then (if Pl.corOk p (l.stay (nmOf K p)) = true then 0 else 4) else 11 := by
    unfold relE
    rw [if_pos hc, if_pos (by omega), hK]
  have hP : relP l p = if relE l p = 0 then p.wco (p.co + l.stay (nmOf K p) * 65536) else Pl.pm0 := by unfold relP; rw [hK]
  have hL : relL l p = if relE l p = 0 then l.filter (fun q => !(q.1 == nmOf K p)) else l := by unfold relL; rw [hK]
  have hkw : (Lit.int .i64 K).wf = true := by rcases hk with ⟨_, e⟩ | ⟨_, e⟩ <;> (subst e; decide)
  have hok := nm_ok hw hkw
  have hco := hw.co
  have T0 := Lib.hid h
  have tk : ((p.k == 8) = true ∧ K = 0) ∨ ((p.k == 8) = false ∧ (p.k == 10) = true ∧ K = 3) := by
    rcases hk with ⟨q, e⟩ | ⟨q, e⟩
    · exact .inl ⟨by simp [q], e⟩
    · exact .inr ⟨by simp [q], by simp [q], e⟩
  clear hK hc hk hkw
  cases hh : l.hasN (nmOf K p) with
  | false =>
    rw [hh, if_neg (by simp)] at hE
    rw [hE, if_neg (by omega)] at hP hL
    rw [hE, hP, hL]
    clear hE hP hL h hw hco
    rcases tk with ⟨t1, rfl⟩ | ⟨t1, t2, rfl⟩
    · skip
      go_enter Try.func21, Try.ntmps21
      go_wp2_with (refine wpList_load_blk rfl 33 _ rfl w.heap.size rfl 33 (pmA p) _ (Rz.mk w p).2.1 Try.underlying33 rfl (by kernel_rfl) ?_)
      refine (CK.out _).mono ?_
      rintro _ w1 ⟨rfl, l1⟩
      have K1 := (Rz.mk w p).on l1
      have K1a := K1.2.1
      have K1b := K1.2.2
      have T1 := ((T0.out.on (bel_bx' w _)).on (bel_bx' _ _)).on l1
      have k0 : w1.cell? ⟨w.heap.size, 0, none⟩ = some (.int .i64 p.k) := K1.2.1.cell 0
      have kz := K1.2.1.lt
      clear l1
      go_wp2_with (refine wpList_load_blk rfl 33 _ rfl w.heap.size rfl 33 (pmA p) _ K1a Try.underlying33 rfl (by kernel_rfl) ?_)
      refine (NO.out _).mono ?_
      rintro _ w2 ⟨rfl, l2⟩
      have K2 := K1.on l2
      have T2 := T1.on l2
      have hgz : g < w2.heap.size := T2.lt.2
      have hbz : b < w2.heap.size := T2.lt.1
      have hrz : w.heap.size + 1 < w2.heap.size := K2.2.2.lt
      clear l2 K1 K1a K1b k0 kz T1
      go_wp2_with fail
      have T3 := T2.on (bel_bx' w2 (.cells #[.int .i64 0, .int .i64 p.d, .int .u64 p.ck, .int .i64 p.po, .int .i64 p.sq] 76))
      have A3 := Blk.new w2 76 #[.int .i64 0, .int .i64 p.d, .int .u64 p.ck, .int .i64 p.po, .int .i64 p.sq]
      have K3 := K2.alloc (.cells #[.int .i64 0, .int .i64 p.d, .int .u64 p.ck, .int .i64 p.po, .int .i64 p.sq] 76)
      have hz3 : w2.heap.size < (w2.alloc (.cells #[.int .i64 0, .int .i64 p.d, .int .u64 p.ck, .int .i64 p.po, .int .i64 p.sq] 76)).heap.size := A3.lt
      clear T2 K2
      generalize (w2.alloc (.cells #[.int .i64 0, .int .i64 p.d, .int .u64 p.ck, .int .i64 p.po, .int .i64 p.sq] 76)) = W3 at T3 A3 K3 hz3 ⊢
      obtain ⟨m0, m1⟩ := T3.cells
      have mz := T3.lt.1
      have n0 : W3.cell? ⟨w2.heap.size, 0, none⟩ = some (.int .i64 0) := A3.cell 0
      have n1 : W3.cell? ⟨w2.heap.size, 1, none⟩ = some (.int .i64 p.d) := A3.cell 1
      have n2 : W3.cell? ⟨w2.heap.size, 2, none⟩ = some (.int .u64 p.ck) := A3.cell 2
      have n3 : W3.cell? ⟨w2.heap.size, 3, none⟩ = some (.int .i64 p.po) := A3.cell 3
      have n4 : W3.cell? ⟨w2.heap.size, 4, none⟩ = some (.int .i64 p.sq) := A3.cell 4
      obtain ⟨c, hlk0, hcs⟩ := T3.look hok
      rw [hh] at hlk0
      have hlk : ∀ m, (Instr.lookup 53 (.map (some g)) (.agg #[.int .i64 0, .int .i64 p.d, .int .u64 p.ck, .int .i64 p.po, .int .i64 p.sq]) true).run Try.prog (W3.drewN m) = .ok (.tuple #[.int .i64 c, .bool false]) (W3.drewN m) := hlk0
      clear hlk0
      have T3 := Lib.hid T3
      have A3 := Lib.hid A3
      have K3 := Lib.hid K3
      go_quiet (fail)
      have K4 := K3.out
      have K5 : Rz w (W3.drewN nq) p zA := ⟨below_drewN K4.1 _, K4.2.1.drewN _, K4.2.2.drewN _⟩
      have K5a := K5.2.1
      have K5b := K5.2.2
      clear K4
      go_wp2_with (refine wpList_store_blk rfl 33 _ _ rfl (w.heap.size + 1) zA rfl rfl 33 zA K5b (by kernel_rfl) rfl (by kernel_rfl) ?_; intro W HW HG)
      exact bodyPost_ret (v := .tuple #[.agg zA, .int .i64 11]) (results_cell_tmp rfl _ _ (w.heap.size + 1) 33 zA _ _ rfl rfl HW Try.underlying33 rfl info_pm) rfl ⟨rfl, (T3.out.drewN _).far HG (by have := T0.out.lt; omega) (by have := T0.out.lt; omega), only_of_below (K5.out HW HG).1 _⟩
    · skip
      go_enter Try.func21, Try.ntmps21
      go_wp2_with (refine wpList_load_blk rfl 33 _ rfl w.heap.size rfl 33 (pmA p) _ (Rz.mk w p).2.1 Try.underlying33 rfl (by kernel_rfl) ?_)
      refine (CK.out _).mono ?_
      rintro _ w1 ⟨rfl, l1⟩
      have K1 := (Rz.mk w p).on l1
      have K1a := K1.2.1
      have K1b := K1.2.2
      have T1 := ((T0.out.on (bel_bx' w _)).on (bel_bx' _ _)).on l1
      have k0 : w1.cell? ⟨w.heap.size, 0, none⟩ = some (.int .i64 p.k) := K1.2.1.cell 0
      have kz := K1.2.1.lt
      clear l1
      go_wp2_with (refine wpList_load_blk rfl 33 _ rfl w.heap.size rfl 33 (pmA p) _ K1a Try.underlying33 rfl (by kernel_rfl) ?_)
      refine (NO.out _).mono ?_
      rintro _ w2 ⟨rfl, l2⟩
      have K2 := K1.on l2
      have T2 := T1.on l2
      have hgz : g < w2.heap.size := T2.lt.2
      have hbz : b < w2.heap.size := T2.lt.1
      have hrz : w.heap.size + 1 < w2.heap.size := K2.2.2.lt
      clear l2 K1 K1a K1b k0 kz T1
      go_wp2_with fail
      have T3 := T2.on (bel_bx' w2 (.cells #[.int .i64 3, .int .i64 p.d, .int .u64 p.ck, .int .i64 p.po, .int .i64 p.sq] 76))
      have A3 := Blk.new w2 76 #[.int .i64 3, .int .i64 p.d, .int .u64 p.ck, .int .i64 p.po, .int .i64 p.sq]
      have K3 := K2.alloc (.cells #[.int .i64 3, .int .i64 p.d, .int .u64 p.ck, .int .i64 p.po, .int .i64 p.sq] 76)
      have hz3 : w2.heap.size < (w2.alloc (.cells #[.int .i64 3, .int .i64 p.d, .int .u64 p.ck, .int .i64 p.po, .int .i64 p.sq] 76)).heap.size := A3.lt
      clear T2 K2
      generalize (w2.alloc (.cells #[.int .i64 3, .int .i64 p.d, .int .u64 p.ck, .int .i64 p.po, .int .i64 p.sq] 76)) = W3 at T3 A3 K3 hz3 ⊢
      obtain ⟨m0, m1⟩ := T3.cells
      have mz := T3.lt.1
      have n0 : W3.cell? ⟨w2.heap.size, 0, none⟩ = some (.int .i64 3) := A3.cell 0
      have n1 : W3.cell? ⟨w2.heap.size, 1, none⟩ = some (.int .i64 p.d) := A3.cell 1
      have n2 : W3.cell? ⟨w2.heap.size, 2, none⟩ = some (.int .u64 p.ck) := A3.cell 2
      have n3 : W3.cell? ⟨w2.heap.size, 3, none⟩ = some (.int .i64 p.po) := A3.cell 3
      have n4 : W3.cell? ⟨w2.heap.size, 4, none⟩ = some (.int .i64 p.sq) := A3.cell 4
      obtain ⟨c, hlk0, hcs⟩ := T3.look hok
      rw [hh] at hlk0
      have hlk : ∀ m, (Instr.lookup 53 (.map (some g)) (.agg #[.int .i64 3, .int .i64 p.d, .int .u64 p.ck, .int .i64 p.po, .int .i64 p.sq]) true).run Try.prog (W3.drewN m) = .ok (.tuple #[.int .i64 c, .bool false]) (W3.drewN m) := hlk0
      clear hlk0
      have T3 := Lib.hid T3
      have A3 := Lib.hid A3
      have K3 := Lib.hid K3
      go_quiet (fail)
      have K4 := K3.out
      have K5 : Rz w (W3.drewN nq) p zA := ⟨below_drewN K4.1 _, K4.2.1.drewN _, K4.2.2.drewN _⟩
      have K5a := K5.2.1
      have K5b := K5.2.2
      clear K4
      go_wp2_with (refine wpList_store_blk rfl 33 _ _ rfl (w.heap.size + 1) zA rfl rfl 33 zA K5b (by kernel_rfl) rfl (by kernel_rfl) ?_; intro W HW HG)
      exact bodyPost_ret (v := .tuple #[.agg zA, .int .i64 11]) (results_cell_tmp rfl _ _ (w.heap.size + 1) 33 zA _ _ rfl rfl HW Try.underlying33 rfl info_pm) rfl ⟨rfl, (T3.out.drewN _).far HG (by have := T0.out.lt; omega) (by have := T0.out.lt; omega), only_of_below (K5.out HW HG).1 _⟩
  | true =>
    rw [hh, if_pos rfl] at hE
    have hm := TL.stay_mem hh
    obtain ⟨S, hS⟩ : ∃ S, l.stay (nmOf K p) = S := ⟨_, rfl⟩
    rw [hS] at hE hP hm
    obtain ⟨sb1, sb2⟩ := wf64 (h.ok _ hm).2
    have CO := fun W => correct_any p S hco sb1 sb2 W
    cases ho : Pl.corOk p S with
    | false =>
      rw [ho, if_neg (by simp)] at hE
      rw [hE, if_neg (by omega)] at hP hL
      rw [hE, hP, hL]
      obtain ⟨q, hq⟩ : ∃ q, Pl.corP p S = q := ⟨_, rfl⟩
      rw [ho, hq] at CO
      replace CO := Lib.hid CO
      clear hE hP hL h hw hco hS ho hq sb1 sb2
      rcases tk with ⟨t1, rfl⟩ | ⟨t1, t2, rfl⟩
      · skip
        go_enter Try.func21, Try.ntmps21
        go_wp2_with (refine wpList_load_blk rfl 33 _ rfl w.heap.size rfl 33 (pmA p) _ (Rz.mk w p).2.1 Try.underlying33 rfl (by kernel_rfl) ?_)
        refine (CK.out _).mono ?_
        rintro _ w1 ⟨rfl, l1⟩
        have K1 := (Rz.mk w p).on l1
        have K1a := K1.2.1
        have K1b := K1.2.2
        have T1 := ((T0.out.on (bel_bx' w _)).on (bel_bx' _ _)).on l1
        have k0 : w1.cell? ⟨w.heap.size, 0, none⟩ = some (.int .i64 p.k) := K1.2.1.cell 0
        have kz := K1.2.1.lt
        clear l1
        go_wp2_with (refine wpList_load_blk rfl 33 _ rfl w.heap.size rfl 33 (pmA p) _ K1a Try.underlying33 rfl (by kernel_rfl) ?_)
        refine (NO.out _).mono ?_
        rintro _ w2 ⟨rfl, l2⟩
        have K2 := K1.on l2
        have T2 := T1.on l2
        have hgz : g < w2.heap.size := T2.lt.2
        have hbz : b < w2.heap.size := T2.lt.1
        have hrz : w.heap.size + 1 < w2.heap.size := K2.2.2.lt
        clear l2 K1 K1a K1b k0 kz T1
        go_wp2_with fail
        have T3 := T2.on (bel_bx' w2 (.cells #[.int .i64 0, .int .i64 p.d, .int .u64 p.ck, .int .i64 p.po, .int .i64 p.sq] 76))
        have A3 := Blk.new w2 76 #[.int .i64 0, .int .i64 p.d, .int .u64 p.ck, .int .i64 p.po, .int .i64 p.sq]
        have K3 := K2.alloc (.cells #[.int .i64 0, .int .i64 p.d, .int .u64 p.ck, .int .i64 p.po, .int .i64 p.sq] 76)
        have hz3 : w2.heap.size < (w2.alloc (.cells #[.int .i64 0, .int .i64 p.d, .int .u64 p.ck, .int .i64 p.po, .int .i64 p.sq] 76)).heap.size := A3.lt
        clear T2 K2
        generalize (w2.alloc (.cells #[.int .i64 0, .int .i64 p.d, .int .u64 p.ck, .int .i64 p.po, .int .i64 p.sq] 76)) = W3 at T3 A3 K3 hz3 ⊢
        obtain ⟨m0, m1⟩ := T3.cells
        have mz := T3.lt.1
        have n0 : W3.cell? ⟨w2.heap.size, 0, none⟩ = some (.int .i64 0) := A3.cell 0
        have n1 : W3.cell? ⟨w2.heap.size, 1, none⟩ = some (.int .i64 p.d) := A3.cell 1
        have n2 : W3.cell? ⟨w2.heap.size, 2, none⟩ = some (.int .u64 p.ck) := A3.cell 2
        have n3 : W3.cell? ⟨w2.heap.size, 3, none⟩ = some (.int .i64 p.po) := A3.cell 3
        have n4 : W3.cell? ⟨w2.heap.size, 4, none⟩ = some (.int .i64 p.sq) := A3.cell 4
        obtain ⟨c, hlk0, hcs⟩ := T3.look hok
        rw [hh] at hlk0
        have hlk : ∀ m, (Instr.lookup 53 (.map (some g)) (.agg #[.int .i64 0, .int .i64 p.d, .int .u64 p.ck, .int .i64 p.po, .int .i64 p.sq]) true).run Try.prog (W3.drewN m) = .ok (.tuple #[.int .i64 c, .bool true]) (W3.drewN m) := hlk0
        clear hlk0
        have T3 := Lib.hid T3
        have A3 := Lib.hid A3
        have K3 := Lib.hid K3
        go_quiet (fail)
        have K4 := K3.out
        have K5 : Rz w (W3.drewN nq) p zA := ⟨below_drewN K4.1 _, K4.2.1.drewN _, K4.2.2.drewN _⟩
        have K5a := K5.2.1
        have K5b := K5.2.2
        clear K4
        obtain rfl := hcs S hm
        go_wp2_with (refine wpList_load_blk rfl 33 _ rfl w.heap.size rfl 33 (pmA p) _ K5a Try.underlying33 rfl (by kernel_rfl) ?_)
        refine (CO.out _).mono ?_
        rintro _ w4 ⟨rfl, l4⟩
        have hz5 : w2.heap.size < w4.heap.size := Nat.lt_of_lt_of_le hz3 l4.size
        have K6 := K5.on l4
        have T6 := (T3.out.drewN nq).on l4
        have A6 := (A3.out.drewN nq).below_ l4
        have hz4 : w.heap.size + 1 < w4.heap.size := by omega
        clear l4 K5 K5a K5b hlk m0 m1 mz n0 n1 n2 n3 n4 hz3 hcs
        go_wp2_with (first | (refine wpList_store_blk rfl 33 _ _ rfl w4.heap.size (pmA q) rfl rfl 33 zA (Blk.new _ _ _) (by kernel_rfl) rfl (by kernel_rfl) ?_; intro W HW HG; have K7 := (K6.alloc _).far HG hz4; have K7b := K7.2.2) | (refine wpList_store_blk rfl 33 _ _ rfl (w.heap.size + 1) zA rfl rfl 33 zA K7b (by kernel_rfl) rfl (by kernel_rfl) ?_; intro W2 HW2 HG2))
        exact bodyPost_ret (v := .tuple #[.agg zA, .int .i64 4]) (results_cell_tmp rfl _ _ (w.heap.size + 1) 33 zA _ _ rfl rfl HW2 Try.underlying33 rfl info_pm) rfl ⟨rfl, ((T6.on (bel_bx' w4 _)).far HG (by have := T0.out.lt; omega) (by have := T0.out.lt; omega)).far HG2 (by have := T0.out.lt; omega) (by have := T0.out.lt; omega), only_of_below (K7.out HW2 HG2).1 _⟩
      · skip
        go_enter Try.func21, Try.ntmps21
        go_wp2_with (refine wpList_load_blk rfl 33 _ rfl w.heap.size rfl 33 (pmA p) _ (Rz.mk w p).2.1 Try.underlying33 rfl (by kernel_rfl) ?_)
        refine (CK.out _).mono ?_
        rintro _ w1 ⟨rfl, l1⟩
        have K1 := (Rz.mk w p).on l1
        have K1a := K1.2.1
        have K1b := K1.2.2
        have T1 := ((T0.out.on (bel_bx' w _)).on (bel_bx' _ _)).on l1
        have k0 : w1.cell? ⟨w.heap.size, 0, none⟩ = some (.int .i64 p.k) := K1.2.1.cell 0
        have kz := K1.2.1.lt
        clear l1
        go_wp2_with (refine wpList_load_blk rfl 33 _ rfl w.heap.size rfl 33 (pmA p) _ K1a Try.underlying33 rfl (by kernel_rfl) ?_)
        refine (NO.out _).mono ?_
        rintro _ w2 ⟨rfl, l2⟩
        have K2 := K1.on l2
        have T2 := T1.on l2
        have hgz : g < w2.heap.size := T2.lt.2
        have hbz : b < w2.heap.size := T2.lt.1
        have hrz : w.heap.size + 1 < w2.heap.size := K2.2.2.lt
        clear l2 K1 K1a K1b k0 kz T1
        go_wp2_with fail
        have T3 := T2.on (bel_bx' w2 (.cells #[.int .i64 3, .int .i64 p.d, .int .u64 p.ck, .int .i64 p.po, .int .i64 p.sq] 76))
        have A3 := Blk.new w2 76 #[.int .i64 3, .int .i64 p.d, .int .u64 p.ck, .int .i64 p.po, .int .i64 p.sq]
        have K3 := K2.alloc (.cells #[.int .i64 3, .int .i64 p.d, .int .u64 p.ck, .int .i64 p.po, .int .i64 p.sq] 76)
        have hz3 : w2.heap.size < (w2.alloc (.cells #[.int .i64 3, .int .i64 p.d, .int .u64 p.ck, .int .i64 p.po, .int .i64 p.sq] 76)).heap.size := A3.lt
        clear T2 K2
        generalize (w2.alloc (.cells #[.int .i64 3, .int .i64 p.d, .int .u64 p.ck, .int .i64 p.po, .int .i64 p.sq] 76)) = W3 at T3 A3 K3 hz3 ⊢
        obtain ⟨m0, m1⟩ := T3.cells
        have mz := T3.lt.1
        have n0 : W3.cell? ⟨w2.heap.size, 0, none⟩ = some (.int .i64 3) := A3.cell 0
        have n1 : W3.cell? ⟨w2.heap.size, 1, none⟩ = some (.int .i64 p.d) := A3.cell 1
        have n2 : W3.cell? ⟨w2.heap.size, 2, none⟩ = some (.int .u64 p.ck) := A3.cell 2
        have n3 : W3.cell? ⟨w2.heap.size, 3, none⟩ = some (.int .i64 p.po) := A3.cell 3
        have n4 : W3.cell? ⟨w2.heap.size, 4, none⟩ = some (.int .i64 p.sq) := A3.cell 4
        obtain ⟨c, hlk0, hcs⟩ := T3.look hok
        rw [hh] at hlk0
        have hlk : ∀ m, (Instr.lookup 53 (.map (some g)) (.agg #[.int .i64 3, .int .i64 p.d, .int .u64 p.ck, .int .i64 p.po, .int .i64 p.sq]) true).run Try.prog (W3.drewN m) = .ok (.tuple #[.int .i64 c, .bool true]) (W3.drewN m) := hlk0
        clear hlk0
        have T3 := Lib.hid T3
        have A3 := Lib.hid A3
        have K3 := Lib.hid K3
        go_quiet (fail)
        have K4 := K3.out
        have K5 : Rz w (W3.drewN nq) p zA := ⟨below_drewN K4.1 _, K4.2.1.drewN _, K4.2.2.drewN _⟩
        have K5a := K5.2.1
        have K5b := K5.2.2
        clear K4
        obtain rfl := hcs S hm
        go_wp2_with (refine wpList_load_blk rfl 33 _ rfl w.heap.size rfl 33 (pmA p) _ K5a Try.underlying33 rfl (by kernel_rfl) ?_)
        refine (CO.out _).mono ?_
        rintro _ w4 ⟨rfl, l4⟩
        have hz5 : w2.heap.size < w4.heap.size := Nat.lt_of_lt_of_le hz3 l4.size
        have K6 := K5.on l4
        have T6 := (T3.out.drewN nq).on l4
        have A6 := (A3.out.drewN nq).below_ l4
        have hz4 : w.heap.size + 1 < w4.heap.size := by omega
        clear l4 K5 K5a K5b hlk m0 m1 mz n0 n1 n2 n3 n4 hz3 hcs
        go_wp2_with (first | (refine wpList_store_blk rfl 33 _ _ rfl w4.heap.size (pmA q) rfl rfl 33 zA (Blk.new _ _ _) (by kernel_rfl) rfl (by kernel_rfl) ?_; intro W HW HG; have K7 := (K6.alloc _).far HG hz4; have K7b := K7.2.2) | (refine wpList_store_blk rfl 33 _ _ rfl (w.heap.size + 1) zA rfl rfl 33 zA K7b (by kernel_rfl) rfl (by kernel_rfl) ?_; intro W2 HW2 HG2))
        exact bodyPost_ret (v := .tuple #[.agg zA, .int .i64 4]) (results_cell_tmp rfl _ _ (w.heap.size + 1) 33 zA _ _ rfl rfl HW2 Try.underlying33 rfl info_pm) rfl ⟨rfl, ((T6.on (bel_bx' w4 _)).far HG (by have := T0.out.lt; omega) (by have := T0.out.lt; omega)).far HG2 (by have := T0.out.lt; omega) (by have := T0.out.lt; omega), only_of_below (K7.out HW2 HG2).1 _⟩
    | true =>
      rw [ho, if_pos rfl] at hE
      rw [hE, if_pos rfl] at hP hL
      have e3 : Pl.corP p S = p.wco (p.co + S * 65536) := by unfold Pl.corP; rw [if_pos ho]
      rw [ho, e3] at CO
      rw [hE, hP, hL]
      obtain ⟨q, hq⟩ : ∃ q, p.wco (p.co + S * 65536) = q := ⟨_, rfl⟩
      rw [hq] at CO ⊢
      replace CO := Lib.hid CO
      clear hE hP hL h hw hco hS ho hq sb1 sb2 e3
      rcases tk with ⟨t1, rfl⟩ | ⟨t1, t2, rfl⟩
      · skip
        go_enter Try.func21, Try.ntmps21
        go_wp2_with (refine wpList_load_blk rfl 33 _ rfl w.heap.size rfl 33 (pmA p) _ (Rz.mk w p).2.1 Try.underlying33 rfl (by kernel_rfl) ?_)
        refine (CK.out _).mono ?_
        rintro _ w1 ⟨rfl, l1⟩
        have K1 := (Rz.mk w p).on l1
        have K1a := K1.2.1
        have K1b := K1.2.2
        have T1 := ((T0.out.on (bel_bx' w _)).on (bel_bx' _ _)).on l1
        have k0 : w1.cell? ⟨w.heap.size, 0, none⟩ = some (.int .i64 p.k) := K1.2.1.cell 0
        have kz := K1.2.1.lt
        clear l1
        go_wp2_with (refine wpList_load_blk rfl 33 _ rfl w.heap.size rfl 33 (pmA p) _ K1a Try.underlying33 rfl (by kernel_rfl) ?_)
        refine (NO.out _).mono ?_
        rintro _ w2 ⟨rfl, l2⟩
        have K2 := K1.on l2
        have T2 := T1.on l2
        have hgz : g < w2.heap.size := T2.lt.2
        have hbz : b < w2.heap.size := T2.lt.1
        have hrz : w.heap.size + 1 < w2.heap.size := K2.2.2.lt
        clear l2 K1 K1a K1b k0 kz T1
        go_wp2_with fail
        have T3 := T2.on (bel_bx' w2 (.cells #[.int .i64 0, .int .i64 p.d, .int .u64 p.ck, .int .i64 p.po, .int .i64 p.sq] 76))
        have A3 := Blk.new w2 76 #[.int .i64 0, .int .i64 p.d, .int .u64 p.ck, .int .i64 p.po, .int .i64 p.sq]
        have K3 := K2.alloc (.cells #[.int .i64 0, .int .i64 p.d, .int .u64 p.ck, .int .i64 p.po, .int .i64 p.sq] 76)
        have hz3 : w2.heap.size < (w2.alloc (.cells #[.int .i64 0, .int .i64 p.d, .int .u64 p.ck, .int .i64 p.po, .int .i64 p.sq] 76)).heap.size := A3.lt
        clear T2 K2
        generalize (w2.alloc (.cells #[.int .i64 0, .int .i64 p.d, .int .u64 p.ck, .int .i64 p.po, .int .i64 p.sq] 76)) = W3 at T3 A3 K3 hz3 ⊢
        obtain ⟨m0, m1⟩ := T3.cells
        have mz := T3.lt.1
        have n0 : W3.cell? ⟨w2.heap.size, 0, none⟩ = some (.int .i64 0) := A3.cell 0
        have n1 : W3.cell? ⟨w2.heap.size, 1, none⟩ = some (.int .i64 p.d) := A3.cell 1
        have n2 : W3.cell? ⟨w2.heap.size, 2, none⟩ = some (.int .u64 p.ck) := A3.cell 2
        have n3 : W3.cell? ⟨w2.heap.size, 3, none⟩ = some (.int .i64 p.po) := A3.cell 3
        have n4 : W3.cell? ⟨w2.heap.size, 4, none⟩ = some (.int .i64 p.sq) := A3.cell 4
        obtain ⟨c, hlk0, hcs⟩ := T3.look hok
        rw [hh] at hlk0
        have hlk : ∀ m, (Instr.lookup 53 (.map (some g)) (.agg #[.int .i64 0, .int .i64 p.d, .int .u64 p.ck, .int .i64 p.po, .int .i64 p.sq]) true).run Try.prog (W3.drewN m) = .ok (.tuple #[.int .i64 c, .bool true]) (W3.drewN m) := hlk0
        clear hlk0
        have T3 := Lib.hid T3
        have A3 := Lib.hid A3
        have K3 := Lib.hid K3
        go_quiet (fail)
        have K4 := K3.out
        have K5 : Rz w (W3.drewN nq) p zA := ⟨below_drewN K4.1 _, K4.2.1.drewN _, K4.2.2.drewN _⟩
        have K5a := K5.2.1
        have K5b := K5.2.2
        clear K4
        obtain rfl := hcs S hm
        go_wp2_with (refine wpList_load_blk rfl 33 _ rfl w.heap.size rfl 33 (pmA p) _ K5a Try.underlying33 rfl (by kernel_rfl) ?_)
        refine (CO.out _).mono ?_
        rintro _ w4 ⟨rfl, l4⟩
        have hz5 : w2.heap.size < w4.heap.size := Nat.lt_of_lt_of_le hz3 l4.size
        have K6 := K5.on l4
        have T6 := (T3.out.drewN nq).on l4
        have A6 := (A3.out.drewN nq).below_ l4
        have hz4 : w.heap.size + 1 < w4.heap.size := by omega
        clear l4 K5 K5a K5b hlk m0 m1 mz n0 n1 n2 n3 n4 hz3 hcs
        go_wp2_with (refine wpList_store_blk rfl 33 _ _ rfl w4.heap.size (pmA q) rfl rfl 33 zA (Blk.new _ _ _) (by kernel_rfl) rfl (by kernel_rfl) ?_; intro W HW HG)
        have K7 := (K6.alloc (.cells zA 33)).far HG hz4
        have T8 := (T6.on (bel_bx' w4 (.cells zA 33))).far HG (by have := T0.out.lt; omega) (by have := T0.out.lt; omega)
        have A8 := (A6.alloc (.cells zA 33)).grown HG (fun e => by injection e with e; omega)
        have G8 := only_of_below K7.1 (some g)
        have R8 := K7.2.2
        clear K6 T6 A6 HG K7
        obtain ⟨m0, m1⟩ := T8.cells
        have mz := T8.lt.1
        have n0 : W.cell? ⟨w2.heap.size, 0, none⟩ = some (.int .i64 0) := A8.cell 0
        have n1 : W.cell? ⟨w2.heap.size, 1, none⟩ = some (.int .i64 p.d) := A8.cell 1
        have n2 : W.cell? ⟨w2.heap.size, 2, none⟩ = some (.int .u64 p.ck) := A8.cell 2
        have n3 : W.cell? ⟨w2.heap.size, 3, none⟩ = some (.int .i64 p.po) := A8.cell 3
        have n4 : W.cell? ⟨w2.heap.size, 4, none⟩ = some (.int .i64 p.sq) := A8.cell 4
        obtain ⟨W9, hd0, T9, G9⟩ := T8.drew.del hok 0
        have hd : (Builtin.delete_ #[53, 76] 0 #[.map (some g), .agg #[.int .i64 0, .int .i64 p.d, .int .u64 p.ck, .int .i64 p.po, .int .i64 p.sq]]).run Try.prog W.drew = .ok (.tuple #[]) W9 := hd0
        have A9 := A8.drew.grown G9 (fun e => by injection e with e; omega)
        have q0 := T9.cells.1
        have p0 : W9.cell? ⟨w2.heap.size, 0, none⟩ = some (.int .i64 0) := A9.cell 0
        have p1 : W9.cell? ⟨w2.heap.size, 1, none⟩ = some (.int .i64 p.d) := A9.cell 1
        have p2 : W9.cell? ⟨w2.heap.size, 2, none⟩ = some (.int .u64 p.ck) := A9.cell 2
        have p3 : W9.cell? ⟨w2.heap.size, 3, none⟩ = some (.int .i64 p.po) := A9.cell 3
        have p4 : W9.cell? ⟨w2.heap.size, 4, none⟩ = some (.int .i64 p.sq) := A9.cell 4
        have Q9 := HW.drew.grown G9 (fun e => by injection e with e; have := T0.out.lt; omega)
        have R9 := R8.drew.grown G9 (fun e => by injection e with e; have := T0.out.lt; omega)
        clear hd0 m1
        have T9 := Lib.hid T9
        have G9 := Lib.hid (only_trans (only_drew G8) G9)
        clear T8 A8 A9 G8 R8 HW
        go_region_held3 (fun w' => w'.cell? ⟨b, 0, none⟩ = some (.map (some g)) ∧ w'.cell? ⟨w2.heap.size, 0, none⟩ = some (.int .i64 0) ∧ w'.cell? ⟨w2.heap.size, 1, none⟩ = some (.int .i64 p.d) ∧ w'.cell? ⟨w2.heap.size, 2, none⟩ = some (.int .u64 p.ck) ∧ w'.cell? ⟨w2.heap.size, 3, none⟩ = some (.int .i64 p.po) ∧ w'.cell? ⟨w2.heap.size, 4, none⟩ = some (.int .i64 p.sq)) (first | exact ⟨m0, n0, n1, n2, n3, n4⟩ | exact ⟨q0, p0, p1, p2, p3, p4⟩) ((fail))
        all_goals (
          go_wp2_with (first | (refine wpList_load_blk rfl 33 _ rfl w4.heap.size rfl 33 (pmA q) _ Q9 Try.underlying33 rfl (by kernel_rfl) ?_) | (refine wpList_store_blk rfl 33 _ _ rfl (w.heap.size + 1) (pmA q) rfl rfl 33 zA R9 (by kernel_rfl) rfl (by kernel_rfl) ?_; intro W2 HW2 HG2))
          exact bodyPost_ret (v := .tuple #[.agg (pmA q), .int .i64 0]) (results_cell_tmp rfl _ _ (w.heap.size + 1) 33 (pmA q) _ _ rfl rfl HW2 Try.underlying33 rfl info_pm) rfl ⟨rfl, T9.out.far HG2 (by have := T0.out.lt; omega) (by have := T0.out.lt; omega), only_then_new G9.out HG2 (Nat.le_succ _)⟩)
      · skip
        go_enter Try.func21, Try.ntmps21
        go_wp2_with (refine wpList_load_blk rfl 33 _ rfl w.heap.size rfl 33 (pmA p) _ (Rz.mk w p).2.1 Try.underlying33 rfl (by kernel_rfl) ?_)
        refine (CK.out _).mono ?_
        rintro _ w1 ⟨rfl, l1⟩
        have K1 := (Rz.mk w p).on l1
        have K1a := K1.2.1
        have K1b := K1.2.2
        have T1 := ((T0.out.on (bel_bx' w _)).on (bel_bx' _ _)).on l1
        have k0 : w1.cell? ⟨w.heap.size, 0, none⟩ = some (.int .i64 p.k) := K1.2.1.cell 0
        have kz := K1.2.1.lt
        clear l1
        go_wp2_with (refine wpList_load_blk rfl 33 _ rfl w.heap.size rfl 33 (pmA p) _ K1a Try.underlying33 rfl (by kernel_rfl) ?_)
        refine (NO.out _).mono ?_
        rintro _ w2 ⟨rfl, l2⟩
        have K2 := K1.on l2
        have T2 := T1.on l2
        have hgz : g < w2.heap.size := T2.lt.2
        have hbz : b < w2.heap.size := T2.lt.1
        have hrz : w.heap.size + 1 < w2.heap.size := K2.2.2.lt
        clear l2 K1 K1a K1b k0 kz T1
        go_wp2_with fail
        have T3 := T2.on (bel_bx' w2 (.cells #[.int .i64 3, .int .i64 p.d, .int .u64 p.ck, .int .i64 p.po, .int .i64 p.sq] 76))
        have A3 := Blk.new w2 76 #[.int .i64 3, .int .i64 p.d, .int .u64 p.ck, .int .i64 p.po, .int .i64 p.sq]
        have K3 := K2.alloc (.cells #[.int .i64 3, .int .i64 p.d, .int .u64 p.ck, .int .i64 p.po, .int .i64 p.sq] 76)
        have hz3 : w2.heap.size < (w2.alloc (.cells #[.int .i64 3, .int .i64 p.d, .int .u64 p.ck, .int .i64 p.po, .int .i64 p.sq] 76)).heap.size := A3.lt
        clear T2 K2
        generalize (w2.alloc (.cells #[.int .i64 3, .int .i64 p.d, .int .u64 p.ck, .int .i64 p.po, .int .i64 p.sq] 76)) = W3 at T3 A3 K3 hz3 ⊢
        obtain ⟨m0, m1⟩ := T3.cells
        have mz := T3.lt.1
        have n0 : W3.cell? ⟨w2.heap.size, 0, none⟩ = some (.int .i64 3) := A3.cell 0
        have n1 : W3.cell? ⟨w2.heap.size, 1, none⟩ = some (.int .i64 p.d) := A3.cell 1
        have n2 : W3.cell? ⟨w2.heap.size, 2, none⟩ = some (.int .u64 p.ck) := A3.cell 2
        have n3 : W3.cell? ⟨w2.heap.size, 3, none⟩ = some (.int .i64 p.po) := A3.cell 3
        have n4 : W3.cell? ⟨w2.heap.size, 4, none⟩ = some (.int .i64 p.sq) := A3.cell 4
        obtain ⟨c, hlk0, hcs⟩ := T3.look hok
        rw [hh] at hlk0
        have hlk : ∀ m, (Instr.lookup 53 (.map (some g)) (.agg #[.int .i64 3, .int .i64 p.d, .int .u64 p.ck, .int .i64 p.po, .int .i64 p.sq]) true).run Try.prog (W3.drewN m) = .ok (.tuple #[.int .i64 c, .bool true]) (W3.drewN m) := hlk0
        clear hlk0
        have T3 := Lib.hid T3
        have A3 := Lib.hid A3
        have K3 := Lib.hid K3
        go_quiet (fail)
        have K4 := K3.out
        have K5 : Rz w (W3.drewN nq) p zA := ⟨below_drewN K4.1 _, K4.2.1.drewN _, K4.2.2.drewN _⟩
        have K5a := K5.2.1
        have K5b := K5.2.2
        clear K4
        obtain rfl := hcs S hm
        go_wp2_with (refine wpList_load_blk rfl 33 _ rfl w.heap.size rfl 33 (pmA p) _ K5a Try.underlying33 rfl (by kernel_rfl) ?_)
        refine (CO.out _).mono ?_
        rintro _ w4 ⟨rfl, l4⟩
        have hz5 : w2.heap.size < w4.heap.size := Nat.lt_of_lt_of_le hz3 l4.size
        have K6 := K5.on l4
        have T6 := (T3.out.drewN nq).on l4
        have A6 := (A3.out.drewN nq).below_ l4
        have hz4 : w.heap.size + 1 < w4.heap.size := by omega
        clear l4 K5 K5a K5b hlk m0 m1 mz n0 n1 n2 n3 n4 hz3 hcs
        go_wp2_with (refine wpList_store_blk rfl 33 _ _ rfl w4.heap.size (pmA q) rfl rfl 33 zA (Blk.new _ _ _) (by kernel_rfl) rfl (by kernel_rfl) ?_; intro W HW HG)
        have K7 := (K6.alloc (.cells zA 33)).far HG hz4
        have T8 := (T6.on (bel_bx' w4 (.cells zA 33))).far HG (by have := T0.out.lt; omega) (by have := T0.out.lt; omega)
        have A8 := (A6.alloc (.cells zA 33)).grown HG (fun e => by injection e with e; omega)
        have G8 := only_of_below K7.1 (some g)
        have R8 := K7.2.2
        clear K6 T6 A6 HG K7
        obtain ⟨m0, m1⟩ := T8.cells
        have mz := T8.lt.1
        have n0 : W.cell? ⟨w2.heap.size, 0, none⟩ = some (.int .i64 3) := A8.cell 0
        have n1 : W.cell? ⟨w2.heap.size, 1, none⟩ = some (.int .i64 p.d) := A8.cell 1
        have n2 : W.cell? ⟨w2.heap.size, 2, none⟩ = some (.int .u64 p.ck) := A8.cell 2
        have n3 : W.cell? ⟨w2.heap.size, 3, none⟩ = some (.int .i64 p.po) := A8.cell 3
        have n4 : W.cell? ⟨w2.heap.size, 4, none⟩ = some (.int .i64 p.sq) := A8.cell 4
        obtain ⟨W9, hd0, T9, G9⟩ := T8.drew.del hok 0
        have hd : (Builtin.delete_ #[53, 76] 0 #[.map (some g), .agg #[.int .i64 3, .int .i64 p.d, .int .u64 p.ck, .int .i64 p.po, .int .i64 p.sq]]).run Try.prog W.drew = .ok (.tuple #[]) W9 := hd0
        have A9 := A8.drew.grown G9 (fun e => by injection e with e; omega)
        have q0 := T9.cells.1
        have p0 : W9.cell? ⟨w2.heap.size, 0, none⟩ = some (.int .i64 3) := A9.cell 0
        have p1 : W9.cell? ⟨w2.heap.size, 1, none⟩ = some (.int .i64 p.d) := A9.cell 1
        have p2 : W9.cell? ⟨w2.heap.size, 2, none⟩ = some (.int .u64 p.ck) := A9.cell 2
        have p3 : W9.cell? ⟨w2.heap.size, 3, none⟩ = some (.int .i64 p.po) := A9.cell 3
        have p4 : W9.cell? ⟨w2.heap.size, 4, none⟩ = some (.int .i64 p.sq) := A9.cell 4
        have Q9 := HW.drew.grown G9 (fun e => by injection e with e; have := T0.out.lt; omega)
        have R9 := R8.drew.grown G9 (fun e => by injection e with e; have := T0.out.lt; omega)
        clear hd0 m1
        have T9 := Lib.hid T9
        have G9 := Lib.hid (only_trans (only_drew G8) G9)
        clear T8 A8 A9 G8 R8 HW
        go_region_held3 (fun w' => w'.cell? ⟨b, 0, none⟩ = some (.map (some g)) ∧ w'.cell? ⟨w2.heap.size, 0, none⟩ = some (.int .i64 3) ∧ w'.cell? ⟨w2.heap.size, 1, none⟩ = some (.int .i64 p.d) ∧ w'.cell? ⟨w2.heap.size, 2, none⟩ = some (.int .u64 p.ck) ∧ w'.cell? ⟨w2.heap.size, 3, none⟩ = some (.int .i64 p.po) ∧ w'.cell? ⟨w2.heap.size, 4, none⟩ = some (.int .i64 p.sq)) (first | exact ⟨m0, n0, n1, n2, n3, n4⟩ | exact ⟨q0, p0, p1, p2, p3, p4⟩) ((fail))
        all_goals (
          go_wp2_with (first | (refine wpList_load_blk rfl 33 _ rfl w4.heap.size rfl 33 (pmA q) _ Q9 Try.underlying33 rfl (by kernel_rfl) ?_) | (refine wpList_store_blk rfl 33 _ _ rfl (w.heap.size + 1) (pmA q) rfl rfl 33 zA R9 (by kernel_rfl) rfl (by kernel_rfl) ?_; intro W2 HW2 HG2))
          exact bodyPost_ret (v := .tuple #[.agg (pmA q), .int .i64 0]) (results_cell_tmp rfl _ _ (w.heap.size + 1) 33 (pmA q) _ _ rfl rfl HW2 Try.underlying33 rfl info_pm) rfl ⟨rfl, T9.out.far HG2 (by have := T0.out.lt; omega) (by have := T0.out.lt; omega), only_then_new G9.out HG2 (Nat.le_succ _)⟩)

theorem trel_any (b g : Nat) (lim : Int) (l : TL) (p : Pl.PM) (w : World) (h : Tb w b g lim l) (hw : PmWf p) :
    Calls Try.prog 21 #[.pointer (some ⟨b, 0, none⟩), pmV p] w fun e w' => e = .returned (.tuple #[pmV (relP l p), .int .i64 (relE l p)]) ∧ Tb w' b g lim (relL l p) ∧ w.grownBy w' (some g) := by
  have CK := fun W => pmcheck_any p hw.k W
  by_cases hc : Pl.chk p = 0
  · by_cases hk : p.k = 8
    · exact trel_ok b g lim l p 0 w h hw hc (.inl ⟨hk, rfl⟩)
    · by_cases hk2 : p.k = 10
      · exact trel_ok b g lim l p 3 w h hw hc (.inr ⟨hk2, rfl⟩)
      · have e1 : relE l p = 8 := by unfold relE; rw [if_pos hc, if_neg (by omega)]
        have e2 : relP l p = Pl.pm0 := by unfold relP; rw [e1, if_neg (by omega)]
        have e3 : relL l p = l := by unfold relL; rw [e1, if_neg (by omega)]
        rw [e1, e2, e3]
        rw [hc] at CK
        replace CK := Lib.hid CK
        have t1 : (p.k == 8) = false := by simp [hk]
        have t2 : (p.k == 10) = false := by simp [hk2]
        have T0 := Lib.hid h
        clear e1 e2 e3 hc hk hk2 hw h
        go_enter Try.func21, Try.ntmps21
        go_wp2_with (refine wpList_load_blk rfl 33 _ rfl w.heap.size rfl 33 (pmA p) _ (Rz.mk w p).2.1 Try.underlying33 rfl (by kernel_rfl) ?_)
        refine (CK.out _).mono ?_
        rintro _ w1 ⟨rfl, l1⟩
        have K1 := (Rz.mk w p).on l1
        have K1a := K1.2.1
        have K1b := K1.2.2
        have T1 := ((T0.out.on (bel_bx' w _)).on (bel_bx' _ _)).on l1
        have k0 : w1.cell? ⟨w.heap.size, 0, none⟩ = some (.int .i64 p.k) := K1.2.1.cell 0
        have kz := K1.2.1.lt
        clear l1
        go_wp2_with (refine wpList_store_blk rfl 33 _ _ rfl (w.heap.size + 1) zA rfl rfl 33 zA K1b (by kernel_rfl) rfl (by kernel_rfl) ?_; intro W HW HG)
        exact bodyPost_ret (v := .tuple #[.agg zA, .int .i64 8]) (results_cell_tmp rfl _ _ (w.heap.size + 1) 33 zA _ _ rfl rfl HW Try.underlying33 rfl info_pm) rfl ⟨rfl, T1.far HG (by have := T0.out.lt; omega) (by have := T0.out.lt; omega), only_of_below (K1.out HW HG).1 _⟩
  · have e1 : relE l p = 2 := by unfold relE; rw [if_neg hc]
    have e2 : relP l p = Pl.pm0 := by unfold relP; rw [e1, if_neg (by omega)]
    have e3 : relL l p = l := by unfold relL; rw [e1, if_neg (by omega)]
    rw [e1, e2, e3]
    obtain ⟨C, hC⟩ : ∃ C, Pl.chk p = C := ⟨_, rfl⟩
    rw [hC] at CK hc
    have t0 : (C == 0) = false := by simp [hc]
    have t0' : (C != 0) = true := by simp [hc]
    replace CK := Lib.hid CK
    have T0 := Lib.hid h
    clear e1 e2 e3 hc hC hw h
    go_enter Try.func21, Try.ntmps21
    go_wp2_with (refine wpList_load_blk rfl 33 _ rfl w.heap.size rfl 33 (pmA p) _ (Rz.mk w p).2.1 Try.underlying33 rfl (by kernel_rfl) ?_)
    refine (CK.out _).mono ?_
    rintro _ w1 ⟨rfl, l1⟩
    have K1 := (Rz.mk w p).on l1
    have K1a := K1.2.1
    have K1b := K1.2.2
    have T1 := ((T0.out.on (bel_bx' w _)).on (bel_bx' _ _)).on l1
    have k0 : w1.cell? ⟨w.heap.size, 0, none⟩ = some (.int .i64 p.k) := K1.2.1.cell 0
    have kz := K1.2.1.lt
    clear l1
    go_wp2_with (refine wpList_store_blk rfl 33 _ _ rfl (w.heap.size + 1) zA rfl rfl 33 zA K1b (by kernel_rfl) rfl (by kernel_rfl) ?_; intro W HW HG)
    exact bodyPost_ret (v := .tuple #[.agg zA, .int .i64 2]) (results_cell_tmp rfl _ _ (w.heap.size + 1) 33 zA _ _ rfl rfl HW Try.underlying33 rfl info_pm) rfl ⟨rfl, T1.far HG (by have := T0.out.lt; omega) (by have := T0.out.lt; omega), only_of_below (K1.out HW HG).1 _⟩
theorem trel_nil (p : Pl.PM) (w : World) : Calls Try.prog 21 #[.pointer none, pmV p] w fun e w' => e = .returned (.tuple #[pmV Pl.pm0, .int .i64 1]) ∧ Below w.heap.size w w' := by
  go_enter Try.func21, Try.ntmps21
  go_wp2_with (refine wpList_store_blk rfl 33 _ _ rfl (w.heap.size + 1) zA rfl rfl 33 zA (Rz.mk w p).2.2 (by kernel_rfl) rfl (by kernel_rfl) ?_; intro W HW HG)
  exact bodyPost_ret (v := .tuple #[.agg zA, .int .i64 1]) (results_cell_tmp rfl _ _ (w.heap.size + 1) 33 zA _ _ rfl rfl HW Try.underlying33 rfl info_pm) rfl ⟨rfl, ((Rz.mk w p).out HW HG).1⟩
end Go.Proofs.Ytnlfkafebbfenaa
