/- The reference exchange's state; contracts of New, suits, Request, Response. -/
import Derived.Test.YtmdfbcabpmadgaaP2pR1
import Derived.Deep.MidRow
import Derived.Deep.QuietTactic
import Derived.BigQuiet
namespace Go.Proofs.Ytmdfbcabpmadgaa
namespace Pl
structure YS where
  dom : Int
  pend : Bool
  seq : Int
  t1 : Int
  wt : Bool
  rs : PM
  r1 : Int
  r2 : Int
  r4 : Int
  cnt : Int
  f1 : Int
  f2 : Int
  l1 : Int
  l2 : Int
def rz0 : PM := ⟨0, 0, 0, 0, 0, 0, 0, 0, 0, 0, 0, 0, 0, 0, 0, 0, 0, 0, 0, 0, 0⟩
def ys0 (d : Int) : YS := ⟨d, false, 0, 0, false, rz0, 0, 0, 0, 0, 0, 0, 0, 0⟩
def YS.reqd (y : YS) (s t : Int) : YS := ⟨y.dom, true, s, t, y.wt, y.rs, y.r1, y.r2, y.r4, y.cnt, y.f1, y.f2, y.l1, y.l2⟩
def reqY (y : YS) (s t : Int) : YS := if reqE s t = 0 then y.reqd s t else y
def mineRY (y : YS) (p : PM) (ck po : Int) : Bool := y.pend && (p.sq == y.seq) && (p.rc == ck) && (p.rp == po)
def respEY (y : YS) (p : PM) (t4 ck po : Int) : Int := if comE p 3 y.dom = 0 then (if mineRY y p ck po = true then (if insB p && rdg t4 then 0 else 3) else 11) else comE p 3 y.dom
def YS.resp (y : YS) (p : PM) (t4 : Int) : YS := ⟨y.dom, false, y.seq, y.t1, true, p, y.t1, insN p, t4, y.cnt, y.f1, y.f2, y.l1, y.l2⟩
def respY (y : YS) (p : PM) (t4 ck po : Int) : YS := if respEY y p t4 ck po = 0 then y.resp p t4 else y
end Pl
open Go.RowKit Go.Lib Go.Maps
section
variable {P : Program}
theorem blk_there {w : World} {g : Nat} {t : TypeId} {cs : Array Value} {o n : Nat} (h : Blk w g t cs) (hl : o + n ≤ cs.size) : w.there g o n := fun j hj =>
  ⟨by rw [h.cell (o + j), Array.getElem?_eq_getElem (by omega)]; rfl, h.frozen _⟩
def setsL (cs : Array Value) (o : Nat) : List Value → Array Value
  | [] => cs
  | v :: r => setsL (cs.setIfInBounds o v) (o + 1) r
theorem blk_sets {g : Nat} {t : TypeId} : ∀ (vs : List Value) (o : Nat) (w : World) (cs : Array Value), Blk w g t cs → Blk (w.setCells g o vs) g t (setsL cs o vs)
  | [], _, _, _, h => h
  | v :: r, o, w, cs, h => blk_sets r (o + 1) _ _ (h.set_ o v)
theorem only_sets {w0 : World} {g : Nat} : ∀ (vs : List Value) (o : Nat) (w : World), w0.grownBy w (some g) → w0.grownBy (w.setCells g o vs) (some g)
  | [], _, _, h => h
  | v :: r, o, w, h => only_sets r (o + 1) _ (only_setCell h (p := ⟨g, o, none⟩) (.inl rfl) v)
/-- a struct or an array is stored into the midst of the block g -/
theorem wpList_store_in {ops : Array Oper} {rest : List Oper} {op : Oper} {a : Act} {w : World} {Q : Exit → Act → World → Prop} (hgd : op.guard = none) (ty : TypeId) (x y : Operand) (ho : op.op = .store ty x y)
    (g o : Nat) (cells : Array Value) (hx : a.eval x = .pointer (some ⟨g, o, none⟩)) (hy : a.eval y = .agg cells)
    (t : TypeId) (old new : Array Value) (hg : Blk w g t old) (hl : o + cells.size ≤ old.size) (hi : (P.info? ty).map (·.size) = some cells.size) (h1 : cells.all (·.oneCell') = true) (hnew : setsL old o cells.toList = new)
    (h : ∀ W, Blk W g t new → w.grownBy W (some g) → wpList P ops Q rest (a.put op.dst undef) W) : wpList P ops Q (op :: rest) a w :=
  wpList_store_mid hgd ty x y ho g o cells hx hy (blk_there hg hl) hi h1 (h _ (hnew ▸ blk_sets cells.toList o w old hg) (only_sets _ _ _ (only_refl w _)))
/-- a struct or an array is read out of the midst of the block g -/
theorem wpList_load_in {ops : Array Oper} {rest : List Oper} {op : Oper} {a : Act} {w : World} {Q : Exit → Act → World → Prop} (hgd : op.guard = none) (ty : TypeId) (x : Operand) (ho : op.op = .load ty x)
    (g o : Nat) (hx : a.eval x = .pointer (some ⟨g, o, none⟩)) (t : TypeId) (old cells : Array Value) (d : TypeDesc) (hg : Blk w g t old) (hc : (old.toList.drop o).take cells.size = cells.toList)
    (hu : P.underlying ty = some d) (hd : d.isRow = true) (hi : (P.info? ty).map (·.size) = some cells.size)
    (h : wpList P ops Q rest (a.put op.dst (.agg cells)) w) : wpList P ops Q (op :: rest) a w :=
  wpList_load_mid hgd ty x ho g o hx cells.toList d (fun j v hv => by
    have hj : j < cells.size := by simpa using (List.getElem?_eq_some_iff.1 hv).1
    rw [hg.cell (o + j), ← hv, ← hc, List.getElem?_take, if_pos hj, List.getElem?_drop, Array.getElem?_toList]) hu hd (by simpa using hi) (by simpa using h)
end
abbrev yA (y : Pl.YS) (sv : Value) : Array Value := #[.int .i64 y.dom, .bool y.pend, .int .i64 y.seq, .int .i64 y.t1, .bool y.wt, .int .i64 y.rs.k, .int .i64 y.rs.d, .int .i64 y.rs.fl, .int .i64 y.rs.co, .int .u64 y.rs.ck, .int .i64 y.rs.po, .int .i64 y.rs.sq, .int .i64 y.rs.lg, .int .i64 y.rs.se, .int .i64 y.rs.na, .int .u64 y.rs.rc, .int .i64 y.rs.rp, .int .i64 y.rs.ut, .int .i64 y.rs.p1, .int .i64 y.rs.cl, .int .i64 y.rs.ac, .int .i64 y.rs.va, .int .i64 y.rs.p2, .int .u64 y.rs.gm, .int .i64 y.rs.st, .int .i64 y.rs.so, .int .i64 y.r1, .int .i64 y.r2, .int .i64 y.r4, sv, .int .i64 y.cnt, .int .i64 y.f1, .int .i64 y.f2, .int .i64 y.l1, .int .i64 y.l2]
theorem ynew_no (d : Int) (h : d < 0 ∨ 255 < d) (w : World) : Calls Try.prog 17 #[.int .i64 d] w fun e w' => e = .returned (.pointer none) ∧ w = w' := by
  by_cases c : d < 0
  · go_enter Try.func17, Try.ntmps17
    go_wp2
    go_ret
    exact ⟨rfl, rfl⟩
  · have c2 : 255 < d := by omega
    go_enter Try.func17, Try.ntmps17
    go_wp2
    go_ret
    exact ⟨rfl, rfl⟩
set_option maxRecDepth 100000 in
theorem ynew_yes (d : Int) (h1 : 0 ≤ d) (h2 : d ≤ 255) (w : World) : Calls Try.prog 17 #[.int .i64 d] w fun e w' => e = .returned (.pointer (some ⟨w.heap.size, 0, none⟩)) ∧ Blk w' w.heap.size 74 (yA (Pl.ys0 d) (.slice none 0 0)) ∧ Below w.heap.size w w' := by
  go_enter Try.func17, Try.ntmps17
  go_wp2
  go_ret
  exact ⟨rfl, Blk.new _ _ _, bel_bx' w _⟩
set_option maxHeartbeats 2000000 in
set_option maxRecDepth 100000 in
theorem rsuits_any (b : Nat) (y : Pl.YS) (sv : Value) (p : Pl.PM) (k : Int) (w : World) (hy : Blk w b 74 (yA y sv)) : Calls Try.prog 34 #[.pointer (some ⟨b, 0, none⟩), pmV p, .int .i64 k] w fun e w' => e = .returned (.int .i64 (Pl.comE p k y.dom)) ∧ Below w.heap.size w w' := by
  have CK := fun W => rpmcheck_any p W
  have K0 := one_mk w 38 (pmA p)
  have K0b := K0.2
  have Y0 := Lib.hid hy
  unfold Pl.comE
  by_cases hc : Pl.chk p = 0
  · rw [if_pos hc]
    rw [hc] at CK
    replace CK := Lib.hid CK
    by_cases hk : p.k = k
    · rw [if_pos hk]
      have t1 : (p.k != k) = false := by simp [hk]
      by_cases hd : p.d = y.dom
      all_goals (
        first | rw [if_pos hd] | rw [if_neg hd]
        first | (have t2 : (p.d != y.dom) = false := by simp [hd]) | (have t2 : (p.d != y.dom) = true := by simp [hd])
        clear hc hk hd hy
        go_enter Try.func34, Try.ntmps34
        go_wp2_with (refine wpList_load_blk rfl 38 _ rfl w.heap.size rfl 38 (pmA p) _ K0b Try.underlying38 rfl (by kernel_rfl) ?_)
        refine (CK.out _).mono ?_
        rintro _ w1 ⟨rfl, l1⟩
        have K1 := K0.on l1
        have c0 : w1.cell? ⟨w.heap.size, 0, none⟩ = some (.int .i64 p.k) := K1.2.cell 0
        have c1 : w1.cell? ⟨w.heap.size, 1, none⟩ = some (.int .i64 p.d) := K1.2.cell 1
        have cz := K1.2.lt
        have Y1 := (Y0.out.alloc (.cells (pmA p) 38)).below_ l1
        have d0 : w1.cell? ⟨b, 0, none⟩ = some (.int .i64 y.dom) := Y1.cell 0
        have dz := Y1.lt
        clear l1 Y1 K0 K0b
        replace K1 := Lib.hid K1
        go_wp2_with fail
        go_quiet (fail)
        go_wp2
        go_ret
        exact ⟨rfl, below_drewN K1.out.1 _⟩)
    · rw [if_neg hk]
      have t1 : (p.k != k) = true := by simp [hk]
      clear hc hk hy Y0
      go_enter Try.func34, Try.ntmps34
      go_wp2_with (refine wpList_load_blk rfl 38 _ rfl w.heap.size rfl 38 (pmA p) _ K0b Try.underlying38 rfl (by kernel_rfl) ?_)
      refine (CK.out _).mono ?_
      rintro _ w1 ⟨rfl, l1⟩
      have K1 := K0.on l1
      have c0 : w1.cell? ⟨w.heap.size, 0, none⟩ = some (.int .i64 p.k) := K1.2.cell 0
      have cz := K1.2.lt
      clear l1 K0 K0b
      replace K1 := Lib.hid K1
      go_wp2
      go_ret
      exact ⟨rfl, K1.out.1⟩
  · rw [if_neg hc]
    obtain ⟨C, hC⟩ : ∃ C, Pl.chk p = C := ⟨_, rfl⟩
    rw [hC] at CK hc
    have t0 : (C != 0) = true := by simp [hc]
    replace CK := Lib.hid CK
    clear hc hC hy Y0
    go_enter Try.func34, Try.ntmps34
    go_wp2_with (refine wpList_load_blk rfl 38 _ rfl w.heap.size rfl 38 (pmA p) _ K0b Try.underlying38 rfl (by kernel_rfl) ?_)
    refine (CK.out _).mono ?_
    rintro _ w1 ⟨rfl, l1⟩
    have K1 := Lib.hid (K0.on l1)
    clear l1 K0 K0b
    go_wp2
    go_ret
    exact ⟨rfl, K1.out.1⟩
theorem yreq_set {w : World} {b : Nat} {y : Pl.YS} {sv : Value} (hy : Blk w b 74 (yA y sv)) (s t : Int) :
    Blk (((w.setCell ⟨b, 1, none⟩ (.bool true)).setCell ⟨b, 2, none⟩ (.int .i64 s)).setCell ⟨b, 3, none⟩ (.int .i64 t)) b 74 (yA (y.reqd s t) sv) ∧ w.grownBy (((w.setCell ⟨b, 1, none⟩ (.bool true)).setCell ⟨b, 2, none⟩ (.int .i64 s)).setCell ⟨b, 3, none⟩ (.int .i64 t)) (some b) :=
  ⟨((hy.set_ 1 (.bool true)).set_ 2 (.int .i64 s)).set_ 3 (.int .i64 t), only_setCell (only_setCell (only_setCell (only_refl w (some b)) (p := ⟨b, 1, none⟩) (.inl rfl) _) (p := ⟨b, 2, none⟩) (.inl rfl) _) (p := ⟨b, 3, none⟩) (.inl rfl) _⟩
set_option maxHeartbeats 2000000 in
theorem yreq_any (b : Nat) (y : Pl.YS) (sv : Value) (s t : Int) (w : World) (hy : Blk w b 74 (yA y sv)) : Calls Try.prog 18 #[.pointer (some ⟨b, 0, none⟩), .int .i64 s, .int .i64 t] w fun e w' => e = .returned (.int .i64 (Pl.reqE s t)) ∧ Blk w' b 74 (yA (Pl.reqY y s t) sv) ∧ w.grownBy w' (some b) := by
  have RD := fun W => rinside_any t W
  unfold Pl.reqY
  by_cases h0 : s < 0
  · have e : Pl.reqE s t = 3 := by unfold Pl.reqE; rw [if_neg (by simp [Pl.inr]; omega)]
    rw [e, if_neg (by decide)]
    have Y0 := Lib.hid hy
    clear e hy RD
    go_enter Try.func18, Try.ntmps18
    go_wp2
    go_ret
    exact ⟨rfl, Y0.out, only_refl _ _⟩
  · by_cases h1 : 65535 < s
    · have e : Pl.reqE s t = 3 := by unfold Pl.reqE; rw [if_neg (by simp [Pl.inr]; omega)]
      rw [e, if_neg (by decide)]
      have Y0 := Lib.hid hy
      clear e hy RD
      go_enter Try.func18, Try.ntmps18
      go_wp2
      go_ret
      exact ⟨rfl, Y0.out, only_refl _ _⟩
    · cases hr : Pl.rdg t with
      | false =>
        have e : Pl.reqE s t = 3 := by unfold Pl.reqE; rw [if_neg (by simp [hr])]
        rw [e, if_neg (by decide)]
        rw [hr] at RD
        replace RD := Lib.hid RD
        have Y0 := Lib.hid hy
        clear e hy hr
        go_enter Try.func18, Try.ntmps18
        go_wp2_with fail
        refine (RD.out _).mono ?_
        rintro _ w1 ⟨rfl, rfl⟩
        go_wp2
        go_ret
        exact ⟨rfl, Y0.out, only_refl _ _⟩
      | true =>
        have e : Pl.reqE s t = 0 := by unfold Pl.reqE; rw [if_pos (by simp [hr, Pl.inr]; omega)]
        rw [e, if_pos rfl]
        rw [hr] at RD
        replace RD := Lib.hid RD
        have f1 := hy.frozen 1
        have f2 := hy.frozen 2
        have f3 := hy.frozen 3
        have c1 : w.cell? ⟨b, 1, none⟩ = some (.bool y.pend) := hy.cell 1
        have c2 : w.cell? ⟨b, 2, none⟩ = some (.int .i64 y.seq) := hy.cell 2
        have c3 : w.cell? ⟨b, 3, none⟩ = some (.int .i64 y.t1) := hy.cell 3
        have cz := hy.lt
        have Y0 := Lib.hid hy
        clear e hy hr
        go_enter Try.func18, Try.ntmps18
        go_wp2_with fail
        refine (RD.out _).mono ?_
        rintro _ w1 ⟨rfl, rfl⟩
        go_wp2
        go_ret
        exact ⟨rfl, yreq_set Y0.out s t⟩
theorem yreq_nil (s t : Int) (w : World) : Calls Try.prog 18 #[.pointer none, .int .i64 s, .int .i64 t] w fun e w' => e = .returned (.int .i64 1) ∧ w = w' := by
  go_enter Try.func18, Try.ntmps18
  go_wp2
  go_ret
  exact ⟨rfl, rfl⟩
theorem yresp_nil (p : Pl.PM) (t4 ck po : Int) (w : World) : Calls Try.prog 19 #[.pointer none, pmV p, .int .i64 t4, .int .u64 ck, .int .i64 po] w fun e w' => e = .returned (.int .i64 1) ∧ Below w.heap.size w w' := by
  go_enter Try.func19, Try.ntmps19
  go_wp2
  go_ret
  exact ⟨rfl, bel_bx' w _⟩
set_option maxRecDepth 100000 in
theorem yfol_nil (p : Pl.PM) (ck po : Int) (w : World) : Calls Try.prog 20 #[.pointer none, pmV p, .int .u64 ck, .int .i64 po] w fun e w' => e = .returned (.int .i64 1) ∧ Below w.heap.size w w' := by
  go_enter Try.func20, Try.ntmps20
  go_wp2
  go_ret
  exact ⟨rfl, bel_bx' w _⟩
theorem ydel_nil (w : World) : Calls Try.prog 21 #[.pointer none] w fun e w' => e = .returned (.tuple #[.int .i64 0, .bool false]) ∧ w = w' := by
  go_enter Try.func21, Try.ntmps21
  go_wp2
  go_ret2
  exact ⟨rfl, rfl⟩
theorem yrat_nil (w : World) : Calls Try.prog 23 #[.pointer none] w fun e w' => e = .returned (.tuple #[.int .i64 0, .bool false]) ∧ ∃ n, w' = w.drewN n := by
  go_enter Try.func23, Try.ntmps23
  go_wp2_with fail
  go_quiet (fail)
  go_wp2
  go_ret2
  exact ⟨rfl, _, rfl⟩
end Go.Proofs.Ytmdfbcabpmadgaa
