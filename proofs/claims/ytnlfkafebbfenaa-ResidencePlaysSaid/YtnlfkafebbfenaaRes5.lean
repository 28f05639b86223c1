/- The contract of the table's Hold. -/
import Derived.Test.YtnlfkafebbfenaaRes4
namespace Go.Proofs.Ytnlfkafebbfenaa
open Go.RowKit Go.Lib Go.Maps

def nmOf (k : Int) (p : Pl.PM) : Nm := (k, p.d, p.ck, p.po, p.sq)
def TL.hasN (l : TL) (n : Nm) : Bool := l.any (fun q => q.1 == n)
def twoOff (p : Pl.PM) : Bool := bits BinOp.and IntKind.i64 p.fl 512 == 0
def holdE (l : TL) (lim : Int) (p : Pl.PM) (s : Int) : Int :=
  if Pl.chk p = 0 then (if p.k = 0 ∨ p.k = 3 then (if twoOff p = true then 15 else if Pl.inr s 0 1125899906842624 = true then (if TL.hasN l (nmOf p.k p) = true then 10 else if lim ≤ l.length then 13 else 0) else 3) else 8) else 2
def holdL (l : TL) (lim : Int) (p : Pl.PM) (s : Int) : TL := if holdE l lim p s = 0 then l ++ [(nmOf p.k p, s)] else l
theorem nm_ok {p : Pl.PM} (h : PmWf p) {k : Int} (hk : (Lit.int .i64 k).wf = true) : NmOk (nmOf k p) := ⟨hk, h.d, h.ck, h.po, h.sq⟩
theorem zeroI (w : World) : (zeroValue 3).run Try.prog w = .ok (.int .i64 0) w := by kernel_rfl
section
variable {W : World} {b g : Nat} {lim : Int} {l : TL} {n : Nm}
set_option maxRecDepth 100000 in
theorem Tb.look (h : Tb W b g lim l) (hn : NmOk n) : ∃ c, (∀ m, (Instr.lookup 53 (.map (some g)) (nmV n) true).run Try.prog (W.drewN m) = .ok (.tuple #[.int .i64 c, .bool (l.hasN n)]) (W.drewN m)) ∧ (∀ s, (n, s) ∈ l → c = s) := by
  obtain ⟨_, _, D, ho, hs⟩ := h
  have key : ∀ m, ∃ c, (Instr.lookup 53 (.map (some g)) (nmV n) true).run Try.prog (W.drewN m) = .ok (.tuple #[.int .i64 c, .bool (l.hasN n)]) (W.drewN m) ∧ D.atKey (kl n) (.lit (.int .i64 0)) = .lit (.int .i64 c) := by
    intro m
    have ho' : (W.drewN m).ownsMap Try.prog 76 (plainElem (H := Unit) Try.prog 3) g l.length D := ho
    obtain ⟨v, ps, hrun, hv⟩ := ho'.look_ok lawNm Try.underlying53 (zeroI _) (plainElem_int Try.underlying3 (by decide)) (keyOf_nm hn)
    obtain ⟨c, rfl, hc, _⟩ := plainElem_int_inv Try.underlying3 hv
    rw [hs.has n hn] at hrun
    exact ⟨c, hrun, congrArg Prod.fst hc⟩
  obtain ⟨c, hc, ha⟩ := key 0
  refine ⟨c, fun m => ?_, fun s hm => ?_⟩
  · obtain ⟨c', hc', ha'⟩ := key m
    rw [ha] at ha'
    injection ha' with ha'
    injection ha' with _ ha'
    rw [ha']
    exact hc'
  · have := hs.at_ _ hm
    rw [ha] at this
    injection this with this
    injection this with _ this
set_option maxRecDepth 100000 in
theorem Tb.len_ (h : Tb W b g lim l) (m : Nat) (ty : TypeId) : (Builtin.len_ #[53] ty #[.map (some g)]).run Try.prog (W.drewN m) = .ok (.int .i64 l.length) (W.drewN m) := by
  obtain ⟨_, _, D, ho, hs⟩ := h
  have ho' : (W.drewN m).ownsMap Try.prog 76 (plainElem (H := Unit) Try.prog 3) g l.length D := ho
  rw [← hs.size]
  exact ho'.len Try.underlying53 ty
set_option maxRecDepth 100000 in
theorem Tb.put (h : Tb W b g lim l) (hn : NmOk n) {s : Int} (hs : (Lit.int .i64 s).wf = true) (hno : l.hasN n = false) (hl : l.length < maxLen) : ∃ W', (Instr.mapUpdate 53 (.map (some g)) (nmV n) (.int .i64 s)).run Try.prog W = .ok () W' ∧ Tb W' b g lim (l ++ [(n, s)]) ∧ W.grownBy W' (some g) := by
  obtain ⟨h1, h2, D, ho, hst⟩ := h
  obtain ⟨W', hrun, ho', hg⟩ := ho.update lawNm Try.underlying53 hl (keyOf_nm hn) (plainElem_int Try.underlying3 hs)
  refine ⟨W', hrun, ⟨h1.grown hg (fun e => by injection e with e; exact h2 e), h2, _, ?_, hst.put hn hs hno⟩, hg⟩
  rw [List.length_append]
  exact ho'
set_option maxRecDepth 100000 in
theorem Tb.del (h : Tb W b g lim l) (hn : NmOk n) (ty : TypeId) : ∃ W', (Builtin.delete_ #[53, 76] ty #[.map (some g), nmV n]).run Try.prog W = .ok (.tuple #[]) W' ∧ Tb W' b g lim (l.filter (fun q => !(q.1 == n))) ∧ W.grownBy W' (some g) := by
  obtain ⟨h1, h2, D, ho, hst⟩ := h
  obtain ⟨W', hrun, ho', ht⟩ := ho.drop lawNm Try.underlying53 (keyOf_nm hn) ty
  have hd := hst.del hn
  have hg := ht.grown
  refine ⟨W', hrun, ⟨h1.grown hg (fun e => by injection e with e; exact h2 e), h2, _, ?_, hd⟩, hg⟩
  obtain ⟨es, clock, e1, F, _, e2⟩ := ho'
  refine ⟨es, clock, e1, F, ?_, e2⟩
  have : Maps.size (D.del (kl n)) = es.size := by
    rw [e2]
    simp [Maps.size, length_sorted]
  rw [← this, hd.size]
  exact Nat.le_refl _
end

set_option maxHeartbeats 4000000 in
set_option maxRecDepth 100000 in
theorem thold_ok (b g : Nat) (lim : Int) (l : TL) (p : Pl.PM) (s : Int) (w : World) (h : Tb w b g lim l) (hw : PmWf p) (hl : l.length < maxLen) (hc : Pl.chk p = 0) (hk : p.k = 0 ∨ p.k = 3) (hf : twoOff p = false) (hs : Pl.inr s 0 1125899906842624 = true) :
    Calls Try.prog 19 #[.pointer (some ⟨b, 0, none⟩), pmV p, .int .i64 s] w fun e w' => e = .returned (.int .i64 (holdE l lim p s)) ∧ Tb w' b g lim (holdL l lim p s) ∧ w.grownBy w' (some g) := by
  have CK := fun W => pmcheck_any p hw.k W
  rw [hc] at CK
  replace CK := Lib.hid CK
  have NO := Lib.hid (fun W => nameOf_any p.k p W)
  have tk : ((p.k != 0) = false) ∨ ((p.k != 0) = true ∧ (p.k != 3) = false) := by
    rcases hk with q | q
    · exact .inl (by simp [q])
    · exact .inr ⟨by simp [q], by simp [q]⟩
  have hs' := Pl.inr_iff.1 hs
  have hsw : (Lit.int .i64 s).wf = true := WalkArith.wf_i64 (by omega)
  have d1 : decide (s < 0) = false := by simp; omega
  have d2 : decide (1125899906842624 < s) = false := by simp; omega
  have hE : holdE l lim p s = if TL.hasN l (nmOf p.k p) = true then 10 else if lim ≤ l.length then 13 else 0 := by
    unfold holdE
    rw [if_pos hc, if_pos hk, hf, if_neg (by simp), if_pos hs]
  have hok := nm_ok hw hw.k
  have T0 := Lib.hid h
  unfold twoOff at hf
  clear hc hk hs h hw
  cases hh : l.hasN (nmOf p.k p) with
  | true =>
    rw [hh, if_pos rfl] at hE
    have hL : holdL l lim p s = l := by unfold holdL; rw [hE]; rfl
    rw [hE, hL]
    clear hE hL
    rcases tk with t1 | ⟨t1, t2⟩
    all_goals (
      go_enter Try.func19, Try.ntmps19
      go_wp2_with (refine wpList_load_blk rfl 33 _ rfl w.heap.size rfl 33 (pmA p) _ (Blk.new w _ _) Try.underlying33 rfl (by kernel_rfl) ?_)
      refine (CK.out _).mono ?_
      rintro _ w1 ⟨rfl, l1⟩
      have K1 := (one_mk w 33 (pmA p)).on l1
      have T1 := (T0.out.on (bel_bx' w _)).on l1
      have K1b := K1.2
      have k0 : w1.cell? ⟨w.heap.size, 0, none⟩ = some (.int .i64 p.k) := K1.2.cell 0
      have k2 : w1.cell? ⟨w.heap.size, 2, none⟩ = some (.int .i64 p.fl) := K1.2.cell 2
      have kz := K1.2.lt
      clear l1
      go_wp2_with (refine wpList_load_blk rfl 33 _ rfl w.heap.size rfl 33 (pmA p) _ K1b Try.underlying33 rfl (by kernel_rfl) ?_)
      refine (NO.out _).mono ?_
      rintro _ w2 ⟨rfl, l2⟩
      have K2 := K1.on l2
      have T2 := T1.on l2
      obtain ⟨m0, m1⟩ := T2.cells
      have mz := T2.lt.1
      clear l2 K1 K1b k0 k2 kz T1
      go_wp2_with fail
      have T3 := T2.on (bel_bx' w2 (.cells #[.int .i64 p.k, .int .i64 p.d, .int .u64 p.ck, .int .i64 p.po, .int .i64 p.sq] 76))
      have A3 := Blk.new w2 76 #[.int .i64 p.k, .int .i64 p.d, .int .u64 p.ck, .int .i64 p.po, .int .i64 p.sq]
      have G3 := only_of_below (K2.1.alloc K2.1.size (.cells #[.int .i64 p.k, .int .i64 p.d, .int .u64 p.ck, .int .i64 p.po, .int .i64 p.sq] 76)) (some g)
      have hgz : g < w2.heap.size := T2.lt.2
      clear T2 K2 m0 m1 mz
      generalize (w2.alloc (.cells #[.int .i64 p.k, .int .i64 p.d, .int .u64 p.ck, .int .i64 p.po, .int .i64 p.sq] 76)) = W3 at T3 A3 G3 ⊢
      obtain ⟨m0, m1⟩ := T3.cells
      have mz := T3.lt.1
      have n0 : W3.cell? ⟨w2.heap.size, 0, none⟩ = some (.int .i64 p.k) := A3.cell 0
      have n1 : W3.cell? ⟨w2.heap.size, 1, none⟩ = some (.int .i64 p.d) := A3.cell 1
      have n2 : W3.cell? ⟨w2.heap.size, 2, none⟩ = some (.int .u64 p.ck) := A3.cell 2
      have n3 : W3.cell? ⟨w2.heap.size, 3, none⟩ = some (.int .i64 p.po) := A3.cell 3
      have n4 : W3.cell? ⟨w2.heap.size, 4, none⟩ = some (.int .i64 p.sq) := A3.cell 4
      have nz := A3.lt
      have A3 := Lib.hid A3
      obtain ⟨c, hlk0, _⟩ := T3.look hok
      rw [hh] at hlk0
      have hlk : ∀ m, (Instr.lookup 53 (.map (some g)) (.agg #[.int .i64 p.k, .int .i64 p.d, .int .u64 p.ck, .int .i64 p.po, .int .i64 p.sq]) true).run Try.prog (W3.drewN m) = .ok (.tuple #[.int .i64 c, .bool true]) (W3.drewN m) := hlk0
      have hlen := fun m ty => T3.len_ m ty
      have T3 := Lib.hid T3
      clear hlk0
      go_quiet (fail)
      go_wp2_with fail
      go_ret
      exact ⟨rfl, T3.out.drewN _, only_drewN G3 _⟩)
  | false =>
    rw [hh, if_neg (by simp)] at hE
    by_cases hfull : lim ≤ l.length
    · rw [if_pos hfull] at hE
      have hL : holdL l lim p s = l := by unfold holdL; rw [hE]; rfl
      rw [hE, hL]
      have t5 : decide (lim ≤ (l.length : Int)) = true := by simp [hfull]
      clear hE hL hfull
      rcases tk with t1 | ⟨t1, t2⟩
      all_goals (
        go_enter Try.func19, Try.ntmps19
        go_wp2_with (refine wpList_load_blk rfl 33 _ rfl w.heap.size rfl 33 (pmA p) _ (Blk.new w _ _) Try.underlying33 rfl (by kernel_rfl) ?_)
        refine (CK.out _).mono ?_
        rintro _ w1 ⟨rfl, l1⟩
        have K1 := (one_mk w 33 (pmA p)).on l1
        have T1 := (T0.out.on (bel_bx' w _)).on l1
        have K1b := K1.2
        have k0 : w1.cell? ⟨w.heap.size, 0, none⟩ = some (.int .i64 p.k) := K1.2.cell 0
        have k2 : w1.cell? ⟨w.heap.size, 2, none⟩ = some (.int .i64 p.fl) := K1.2.cell 2
        have kz := K1.2.lt
        clear l1
        go_wp2_with (refine wpList_load_blk rfl 33 _ rfl w.heap.size rfl 33 (pmA p) _ K1b Try.underlying33 rfl (by kernel_rfl) ?_)
        refine (NO.out _).mono ?_
        rintro _ w2 ⟨rfl, l2⟩
        have K2 := K1.on l2
        have T2 := T1.on l2
        obtain ⟨m0, m1⟩ := T2.cells
        have mz := T2.lt.1
        clear l2 K1 K1b k0 k2 kz T1
        go_wp2_with fail
        have T3 := T2.on (bel_bx' w2 (.cells #[.int .i64 p.k, .int .i64 p.d, .int .u64 p.ck, .int .i64 p.po, .int .i64 p.sq] 76))
        have A3 := Blk.new w2 76 #[.int .i64 p.k, .int .i64 p.d, .int .u64 p.ck, .int .i64 p.po, .int .i64 p.sq]
        have G3 := only_of_below (K2.1.alloc K2.1.size (.cells #[.int .i64 p.k, .int .i64 p.d, .int .u64 p.ck, .int .i64 p.po, .int .i64 p.sq] 76)) (some g)
        have hgz : g < w2.heap.size := T2.lt.2
        clear T2 K2 m0 m1 mz
        generalize (w2.alloc (.cells #[.int .i64 p.k, .int .i64 p.d, .int .u64 p.ck, .int .i64 p.po, .int .i64 p.sq] 76)) = W3 at T3 A3 G3 ⊢
        obtain ⟨m0, m1⟩ := T3.cells
        have mz := T3.lt.1
        have n0 : W3.cell? ⟨w2.heap.size, 0, none⟩ = some (.int .i64 p.k) := A3.cell 0
        have n1 : W3.cell? ⟨w2.heap.size, 1, none⟩ = some (.int .i64 p.d) := A3.cell 1
        have n2 : W3.cell? ⟨w2.heap.size, 2, none⟩ = some (.int .u64 p.ck) := A3.cell 2
        have n3 : W3.cell? ⟨w2.heap.size, 3, none⟩ = some (.int .i64 p.po) := A3.cell 3
        have n4 : W3.cell? ⟨w2.heap.size, 4, none⟩ = some (.int .i64 p.sq) := A3.cell 4
        have nz := A3.lt
        have A3 := Lib.hid A3
        obtain ⟨c, hlk0, _⟩ := T3.look hok
        rw [hh] at hlk0
        have hlk : ∀ m, (Instr.lookup 53 (.map (some g)) (.agg #[.int .i64 p.k, .int .i64 p.d, .int .u64 p.ck, .int .i64 p.po, .int .i64 p.sq]) true).run Try.prog (W3.drewN m) = .ok (.tuple #[.int .i64 c, .bool false]) (W3.drewN m) := hlk0
        have hlen := fun m ty => T3.len_ m ty
        have T3 := Lib.hid T3
        clear hlk0
        go_quiet (fail)
        go_wp2_with fail
        go_quiet (fail)
        go_wp2_with fail
        go_ret
        exact ⟨rfl, by first | exact T3.out.drewN _ | exact (T3.out.drewN _).drewN _, by first | exact only_drewN G3 _ | exact only_drewN (only_drewN G3 _) _⟩)
    · rw [if_neg hfull] at hE
      have hL : holdL l lim p s = l ++ [(nmOf p.k p, s)] := by unfold holdL; rw [hE, if_pos rfl]
      rw [hE, hL]
      have t5 : decide (lim ≤ (l.length : Int)) = false := by simp; omega
      clear hE hL hfull
      rcases tk with t1 | ⟨t1, t2⟩
      all_goals (
        go_enter Try.func19, Try.ntmps19
        go_wp2_with (refine wpList_load_blk rfl 33 _ rfl w.heap.size rfl 33 (pmA p) _ (Blk.new w _ _) Try.underlying33 rfl (by kernel_rfl) ?_)
        refine (CK.out _).mono ?_
        rintro _ w1 ⟨rfl, l1⟩
        have K1 := (one_mk w 33 (pmA p)).on l1
        have T1 := (T0.out.on (bel_bx' w _)).on l1
        have K1b := K1.2
        have k0 : w1.cell? ⟨w.heap.size, 0, none⟩ = some (.int .i64 p.k) := K1.2.cell 0
        have k2 : w1.cell? ⟨w.heap.size, 2, none⟩ = some (.int .i64 p.fl) := K1.2.cell 2
        have kz := K1.2.lt
        clear l1
        go_wp2_with (refine wpList_load_blk rfl 33 _ rfl w.heap.size rfl 33 (pmA p) _ K1b Try.underlying33 rfl (by kernel_rfl) ?_)
        refine (NO.out _).mono ?_
        rintro _ w2 ⟨rfl, l2⟩
        have K2 := K1.on l2
        have T2 := T1.on l2
        obtain ⟨m0, m1⟩ := T2.cells
        have mz := T2.lt.1
        clear l2 K1 K1b k0 k2 kz T1
        go_wp2_with fail
        have T3 := T2.on (bel_bx' w2 (.cells #[.int .i64 p.k, .int .i64 p.d, .int .u64 p.ck, .int .i64 p.po, .int .i64 p.sq] 76))
        have A3 := Blk.new w2 76 #[.int .i64 p.k, .int .i64 p.d, .int .u64 p.ck, .int .i64 p.po, .int .i64 p.sq]
        have G3 := only_of_below (K2.1.alloc K2.1.size (.cells #[.int .i64 p.k, .int .i64 p.d, .int .u64 p.ck, .int .i64 p.po, .int .i64 p.sq] 76)) (some g)
        have hgz : g < w2.heap.size := T2.lt.2
        clear T2 K2 m0 m1 mz
        generalize (w2.alloc (.cells #[.int .i64 p.k, .int .i64 p.d, .int .u64 p.ck, .int .i64 p.po, .int .i64 p.sq] 76)) = W3 at T3 A3 G3 ⊢
        obtain ⟨m0, m1⟩ := T3.cells
        have mz := T3.lt.1
        have n0 : W3.cell? ⟨w2.heap.size, 0, none⟩ = some (.int .i64 p.k) := A3.cell 0
        have n1 : W3.cell? ⟨w2.heap.size, 1, none⟩ = some (.int .i64 p.d) := A3.cell 1
        have n2 : W3.cell? ⟨w2.heap.size, 2, none⟩ = some (.int .u64 p.ck) := A3.cell 2
        have n3 : W3.cell? ⟨w2.heap.size, 3, none⟩ = some (.int .i64 p.po) := A3.cell 3
        have n4 : W3.cell? ⟨w2.heap.size, 4, none⟩ = some (.int .i64 p.sq) := A3.cell 4
        have nz := A3.lt
        have A3 := Lib.hid A3
        obtain ⟨c, hlk0, _⟩ := T3.look hok
        rw [hh] at hlk0
        have hlk : ∀ m, (Instr.lookup 53 (.map (some g)) (.agg #[.int .i64 p.k, .int .i64 p.d, .int .u64 p.ck, .int .i64 p.po, .int .i64 p.sq]) true).run Try.prog (W3.drewN m) = .ok (.tuple #[.int .i64 c, .bool false]) (W3.drewN m) := hlk0
        have hlen := fun m ty => T3.len_ m ty
        have T3 := Lib.hid T3
        clear hlk0
        go_quiet (fail)
        go_wp2_with fail
        go_quiet (fail)
        go_wp2_with fail
        generalize hW : (World.drewN _ nq) = W5
        have T5 : Tb W5 b g lim l := by rw [← hW]; exact (T3.out.drewN _).drewN _
        have A5 : Blk W5 w2.heap.size 76 #[.int .i64 p.k, .int .i64 p.d, .int .u64 p.ck, .int .i64 p.po, .int .i64 p.sq] := by rw [← hW]; exact (A3.out.drewN _).drewN _
        have G5 : w.grownBy W5 (some g) := by rw [← hW]; exact only_drewN (only_drewN G3 _) _
        clear hW m0 m1 mz n0 n1 n2 n3 n4 nz hlk hlen G3 T3 A3
        obtain ⟨m0, m1⟩ := T5.cells
        have n0 : W5.cell? ⟨w2.heap.size, 0, none⟩ = some (.int .i64 p.k) := A5.cell 0
        have n1 : W5.cell? ⟨w2.heap.size, 1, none⟩ = some (.int .i64 p.d) := A5.cell 1
        have n2 : W5.cell? ⟨w2.heap.size, 2, none⟩ = some (.int .u64 p.ck) := A5.cell 2
        have n3 : W5.cell? ⟨w2.heap.size, 3, none⟩ = some (.int .i64 p.po) := A5.cell 3
        have n4 : W5.cell? ⟨w2.heap.size, 4, none⟩ = some (.int .i64 p.sq) := A5.cell 4
        obtain ⟨W6, hup0, T6, G6⟩ := T5.drew.put hok hsw hh hl
        have hup : (Instr.mapUpdate 53 (.map (some g)) (.agg #[.int .i64 p.k, .int .i64 p.d, .int .u64 p.ck, .int .i64 p.po, .int .i64 p.sq]) (.int .i64 s)).run Try.prog W5.drew = .ok () W6 := hup0
        have A6 := A5.drew.grown G6 (fun e => by injection e with e; omega)
        have q0 := T6.cells.1
        have p0 : W6.cell? ⟨w2.heap.size, 0, none⟩ = some (.int .i64 p.k) := A6.cell 0
        have p1 : W6.cell? ⟨w2.heap.size, 1, none⟩ = some (.int .i64 p.d) := A6.cell 1
        have p2 : W6.cell? ⟨w2.heap.size, 2, none⟩ = some (.int .u64 p.ck) := A6.cell 2
        have p3 : W6.cell? ⟨w2.heap.size, 3, none⟩ = some (.int .i64 p.po) := A6.cell 3
        have p4 : W6.cell? ⟨w2.heap.size, 4, none⟩ = some (.int .i64 p.sq) := A6.cell 4
        clear hup0 m1
        have T6 := Lib.hid T6
        have G6 := Lib.hid (only_trans (only_drew G5) G6)
        clear T5 A5 A6 G5
        go_region_held3 (fun w' => w'.cell? ⟨b, 0, none⟩ = some (.map (some g)) ∧ w'.cell? ⟨w2.heap.size, 0, none⟩ = some (.int .i64 p.k) ∧ w'.cell? ⟨w2.heap.size, 1, none⟩ = some (.int .i64 p.d) ∧ w'.cell? ⟨w2.heap.size, 2, none⟩ = some (.int .u64 p.ck) ∧ w'.cell? ⟨w2.heap.size, 3, none⟩ = some (.int .i64 p.po) ∧ w'.cell? ⟨w2.heap.size, 4, none⟩ = some (.int .i64 p.sq)) (first | exact ⟨m0, n0, n1, n2, n3, n4⟩ | exact ⟨q0, p0, p1, p2, p3, p4⟩) ((fail))
        all_goals (
          go_wp2_with fail
          go_ret
          exact ⟨rfl, T6.out, G6.out⟩))
end Go.Proofs.Ytnlfkafebbfenaa
