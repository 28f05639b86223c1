/- The exchange's state; contracts of New, common, Request, Response. -/
import Derived.Test.YtmdfbcabpmadgaaP2p1
namespace Go.Proofs.Ytmdfbcabpmadgaa
namespace Pl
structure XS where
  dom : Int
  pend : Bool
  seq : Int
  t1 : Int
  wt : Bool
  ac : Int
  ap : Int
  asq : Int
  aco : Int
  a1 : Int
  a2 : Int
  a4 : Int
  cnt : Int
  dl : Nat → Int
  f1 : Int
  f2 : Int
  l1 : Int
  l2 : Int
def xs0 (d : Int) : XS := ⟨d, false, 0, 0, false, 0, 0, 0, 0, 0, 0, 0, 0, fun _ => 0, 0, 0, 0, 0⟩
def comE (p : PM) (k d : Int) : Int := if chk p = 0 then (if p.k = k then (if p.d = d then 0 else 9) else 8) else 2
def reqE (s t : Int) : Int := if inr s 0 65535 && rdg t then 0 else 3
def XS.reqd (x : XS) (s t : Int) : XS := ⟨x.dom, true, s, t, x.wt, x.ac, x.ap, x.asq, x.aco, x.a1, x.a2, x.a4, x.cnt, x.dl, x.f1, x.f2, x.l1, x.l2⟩
def reqX (x : XS) (s t : Int) : XS := if reqE s t = 0 then x.reqd s t else x
def mineR (x : XS) (p : PM) (ck po : Int) : Bool := x.pend && (p.sq == x.seq) && (p.rc == ck) && (p.rp == po)
def respE (x : XS) (p : PM) (t4 ck po : Int) : Int := if comE p 3 x.dom = 0 then (if mineR x p ck po = true then (if insB p && rdg t4 then 0 else 3) else 11) else comE p 3 x.dom
def XS.resp (x : XS) (p : PM) (t4 : Int) : XS := ⟨x.dom, false, x.seq, x.t1, true, p.ck, p.po, p.sq, p.co, x.t1, insN p, t4, x.cnt, x.dl, x.f1, x.f2, x.l1, x.l2⟩
def respX (x : XS) (p : PM) (t4 ck po : Int) : XS := if respE x p t4 ck po = 0 then x.resp p t4 else x
end Pl
open Go.RowKit Go.Lib Go.Maps
abbrev xA (x : Pl.XS) : Array Value := #[.int .i64 x.dom, .bool x.pend, .int .i64 x.seq, .int .i64 x.t1, .bool x.wt, .int .u64 x.ac, .int .i64 x.ap, .int .i64 x.asq, .int .i64 x.aco, .int .i64 x.a1, .int .i64 x.a2, .int .i64 x.a4, .int .i64 x.cnt, .int .i64 (x.dl 0), .int .i64 (x.dl 1), .int .i64 (x.dl 2), .int .i64 (x.dl 3), .int .i64 (x.dl 4), .int .i64 (x.dl 5), .int .i64 (x.dl 6), .int .i64 (x.dl 7), .int .i64 x.f1, .int .i64 x.f2, .int .i64 x.l1, .int .i64 x.l2]
theorem pnew_no (d : Int) (h : d < 0 ∨ 255 < d) (w : World) : Calls Try.prog 10 #[.int .i64 d] w fun e w' => e = .returned (.pointer none) ∧ w = w' := by
  by_cases c : d < 0
  · go_enter Try.func10, Try.ntmps10
    go_wp2
    go_ret
    exact ⟨rfl, rfl⟩
  · have c2 : 255 < d := by omega
    go_enter Try.func10, Try.ntmps10
    go_wp2
    go_ret
    exact ⟨rfl, rfl⟩
theorem pnew_yes (d : Int) (h1 : 0 ≤ d) (h2 : d ≤ 255) (w : World) : Calls Try.prog 10 #[.int .i64 d] w fun e w' => e = .returned (.pointer (some ⟨w.heap.size, 0, none⟩)) ∧ Blk w' w.heap.size 65 (xA (Pl.xs0 d)) ∧ Below w.heap.size w w' := by
  go_enter Try.func10, Try.ntmps10
  go_wp2
  go_ret
  exact ⟨rfl, Blk.new _ _ _, bel_bx' w _⟩
set_option maxHeartbeats 2000000 in
set_option maxRecDepth 100000 in
theorem common_any (b : Nat) (x : Pl.XS) (p : Pl.PM) (k : Int) (w : World) (hx : Blk w b 65 (xA x)) (hw : (Lit.int .i64 p.k).wf = true) : Calls Try.prog 27 #[.pointer (some ⟨b, 0, none⟩), pmV p, .int .i64 k] w fun e w' => e = .returned (.int .i64 (Pl.comE p k x.dom)) ∧ Below w.heap.size w w' := by
  have CK := fun W => pmcheck_any p hw W
  have K0 := one_mk w 38 (pmA p)
  have K0b := K0.2
  have X0 := Lib.hid hx
  unfold Pl.comE
  by_cases hc : Pl.chk p = 0
  · rw [if_pos hc]
    rw [hc] at CK
    replace CK := Lib.hid CK
    by_cases hk : p.k = k
    · rw [if_pos hk]
      have t1 : (p.k != k) = false := by simp [hk]
      by_cases hd : p.d = x.dom
      · rw [if_pos hd]
        have t2 : (p.d != x.dom) = false := by simp [hd]
        clear hc hk hd hw hx
        go_enter Try.func27, Try.ntmps27
        go_wp2_with (refine wpList_load_blk rfl 38 _ rfl w.heap.size rfl 38 (pmA p) _ K0b Try.underlying38 rfl (by kernel_rfl) ?_)
        refine (CK.out _).mono ?_
        rintro _ w1 ⟨rfl, l1⟩
        have K1 := K0.on l1
        have c0 : w1.cell? ⟨w.heap.size, 0, none⟩ = some (.int .i64 p.k) := K1.2.cell 0
        have c1 : w1.cell? ⟨w.heap.size, 1, none⟩ = some (.int .i64 p.d) := K1.2.cell 1
        have cz := K1.2.lt
        have X1 := (X0.out.alloc (.cells (pmA p) 38)).below_ l1
        have d0 : w1.cell? ⟨b, 0, none⟩ = some (.int .i64 x.dom) := X1.cell 0
        have dz := X1.lt
        clear l1 X1 K0 K0b
        replace K1 := Lib.hid K1
        go_wp2_with fail
        go_quiet (fail)
        go_wp2
        go_ret
        exact ⟨rfl, below_drewN K1.out.1 _⟩
      · rw [if_neg hd]
        have t2 : (p.d != x.dom) = true := by simp [hd]
        clear hc hk hd hw hx
        go_enter Try.func27, Try.ntmps27
        go_wp2_with (refine wpList_load_blk rfl 38 _ rfl w.heap.size rfl 38 (pmA p) _ K0b Try.underlying38 rfl (by kernel_rfl) ?_)
        refine (CK.out _).mono ?_
        rintro _ w1 ⟨rfl, l1⟩
        have K1 := K0.on l1
        have c0 : w1.cell? ⟨w.heap.size, 0, none⟩ = some (.int .i64 p.k) := K1.2.cell 0
        have c1 : w1.cell? ⟨w.heap.size, 1, none⟩ = some (.int .i64 p.d) := K1.2.cell 1
        have cz := K1.2.lt
        have X1 := (X0.out.alloc (.cells (pmA p) 38)).below_ l1
        have d0 : w1.cell? ⟨b, 0, none⟩ = some (.int .i64 x.dom) := X1.cell 0
        have dz := X1.lt
        clear l1 X1 K0 K0b
        replace K1 := Lib.hid K1
        go_wp2_with fail
        go_quiet (fail)
        go_wp2
        go_ret
        exact ⟨rfl, below_drewN K1.out.1 _⟩
    · rw [if_neg hk]
      have t1 : (p.k != k) = true := by simp [hk]
      clear hc hk hw hx X0
      go_enter Try.func27, Try.ntmps27
      go_wp2_with (refine wpList_load_blk rfl 38 _ rfl w.heap.size rfl 38 (pmA p) _ K0b Try.underlying38 rfl (by kernel_rfl) ?_)
      refine (CK.out _).mono ?_
      rintro _ w1 ⟨rfl, l1⟩
      have K1 := K0.on l1
      have c0 : w1.cell? ⟨w.heap.size, 0, none⟩ = some (.int .i64 p.k) := K1.2.cell 0
      have cz := K1.2.lt
      clear l1 K0 K0b
      replace K1 := Lib.hid K1
      go_wp2
      go_ret
      exact ⟨rfl, K1.out.1⟩
  · rw [if_neg hc]
    obtain ⟨C, hC⟩ : ∃ C, Pl.chk p = C := ⟨_, rfl⟩
    rw [hC] at CK hc
    have t0 : (C != 0) = true := by simp [hc]
    replace CK := Lib.hid CK
    clear hc hC hw hx X0
    go_enter Try.func27, Try.ntmps27
    go_wp2_with (refine wpList_load_blk rfl 38 _ rfl w.heap.size rfl 38 (pmA p) _ K0b Try.underlying38 rfl (by kernel_rfl) ?_)
    refine (CK.out _).mono ?_
    rintro _ w1 ⟨rfl, l1⟩
    have K1 := Lib.hid (K0.on l1)
    clear l1 K0 K0b
    go_wp2
    go_ret
    exact ⟨rfl, K1.out.1⟩
theorem common_nil (p : Pl.PM) (k : Int) (w : World) : Calls Try.prog 27 #[.pointer none, pmV p, .int .i64 k] w fun e w' => e = .returned (.int .i64 1) ∧ Below w.heap.size w w' := by
  go_enter Try.func27, Try.ntmps27
  go_wp2
  go_ret
  exact ⟨rfl, bel_bx' w _⟩
theorem req_set {w : World} {b : Nat} {x : Pl.XS} (hx : Blk w b 65 (xA x)) (s t : Int) :
    Blk (((w.setCell ⟨b, 1, none⟩ (.bool true)).setCell ⟨b, 2, none⟩ (.int .i64 s)).setCell ⟨b, 3, none⟩ (.int .i64 t)) b 65 (xA (x.reqd s t)) ∧ w.grownBy (((w.setCell ⟨b, 1, none⟩ (.bool true)).setCell ⟨b, 2, none⟩ (.int .i64 s)).setCell ⟨b, 3, none⟩ (.int .i64 t)) (some b) :=
  ⟨((hx.set_ 1 (.bool true)).set_ 2 (.int .i64 s)).set_ 3 (.int .i64 t), only_setCell (only_setCell (only_setCell (only_refl w (some b)) (p := ⟨b, 1, none⟩) (.inl rfl) _) (p := ⟨b, 2, none⟩) (.inl rfl) _) (p := ⟨b, 3, none⟩) (.inl rfl) _⟩
set_option maxHeartbeats 2000000 in
theorem preq_any (b : Nat) (x : Pl.XS) (s t : Int) (w : World) (hx : Blk w b 65 (xA x)) : Calls Try.prog 11 #[.pointer (some ⟨b, 0, none⟩), .int .i64 s, .int .i64 t] w fun e w' => e = .returned (.int .i64 (Pl.reqE s t)) ∧ Blk w' b 65 (xA (Pl.reqX x s t)) ∧ w.grownBy w' (some b) := by
  have RD := fun W => reading_any t W
  unfold Pl.reqX
  by_cases h0 : s < 0
  · have e : Pl.reqE s t = 3 := by unfold Pl.reqE; rw [if_neg (by simp [Pl.inr]; omega)]
    rw [e, if_neg (by decide)]
    have X0 := Lib.hid hx
    clear e hx RD
    go_enter Try.func11, Try.ntmps11
    go_wp2
    go_ret
    exact ⟨rfl, X0.out, only_refl _ _⟩
  · by_cases h1 : 65535 < s
    · have e : Pl.reqE s t = 3 := by unfold Pl.reqE; rw [if_neg (by simp [Pl.inr]; omega)]
      rw [e, if_neg (by decide)]
      have X0 := Lib.hid hx
      clear e hx RD
      go_enter Try.func11, Try.ntmps11
      go_wp2
      go_ret
      exact ⟨rfl, X0.out, only_refl _ _⟩
    · cases hr : Pl.rdg t with
      | false =>
        have e : Pl.reqE s t = 3 := by unfold Pl.reqE; rw [if_neg (by simp [hr])]
        rw [e, if_neg (by decide)]
        rw [hr] at RD
        replace RD := Lib.hid RD
        have X0 := Lib.hid hx
        clear e hx hr
        go_enter Try.func11, Try.ntmps11
        go_wp2_with fail
        refine (RD.out _).mono ?_
        rintro _ w1 ⟨rfl, rfl⟩
        go_wp2
        go_ret
        exact ⟨rfl, X0.out, only_refl _ _⟩
      | true =>
        have e : Pl.reqE s t = 0 := by unfold Pl.reqE; rw [if_pos (by simp [hr, Pl.inr]; omega)]
        rw [e, if_pos rfl]
        rw [hr] at RD
        replace RD := Lib.hid RD
        have f1 := hx.frozen 1
        have f2 := hx.frozen 2
        have f3 := hx.frozen 3
        have c1 : w.cell? ⟨b, 1, none⟩ = some (.bool x.pend) := hx.cell 1
        have c2 : w.cell? ⟨b, 2, none⟩ = some (.int .i64 x.seq) := hx.cell 2
        have c3 : w.cell? ⟨b, 3, none⟩ = some (.int .i64 x.t1) := hx.cell 3
        have cz := hx.lt
        have X0 := Lib.hid hx
        clear e hx hr
        go_enter Try.func11, Try.ntmps11
        go_wp2_with fail
        refine (RD.out _).mono ?_
        rintro _ w1 ⟨rfl, rfl⟩
        go_wp2
        go_ret
        exact ⟨rfl, req_set X0.out s t⟩
theorem preq_nil (s t : Int) (w : World) : Calls Try.prog 11 #[.pointer none, .int .i64 s, .int .i64 t] w fun e w' => e = .returned (.int .i64 1) ∧ w = w' := by
  go_enter Try.func11, Try.ntmps11
  go_wp2
  go_ret
  exact ⟨rfl, rfl⟩
end Go.Proofs.Ytmdfbcabpmadgaa
